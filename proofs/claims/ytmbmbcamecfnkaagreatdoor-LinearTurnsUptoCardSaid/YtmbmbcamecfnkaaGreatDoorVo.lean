/- Functions that are handed rows of their own. -/
import Derived.MapKept
import Derived.ChangeMaps4
import Derived.RowKit
namespace Go.Proofs.YtmbmbcamecfnkaaGreatDoor
open Go.RowKit
set_option linter.unusedVariables false
theorem ba_eq (a b:ByteArray):(a==b)=decide (a=b):=by
 obtain ⟨a⟩:=a
 obtain ⟨b⟩:=b
 show (a==b)=_
 rw [Bool.eq_iff_iff]
 simp
inductive Kt where
 | str | int (k:IntKind)
 deriving Inhabited
abbrev Kt.T:Kt→Type
 | .str=>ByteArray
 | .int _=>Int
def Kt.val:(t:Kt)→t.T→Value
 | .str,s=>.string s
 | .int k,n=>.int k n
def Kt.eq:(t:Kt)→t.T→t.T→Bool
 | .str,a,b=>decide (a=b)
 | .int _,a,b=>decide (a=b)
theorem Kt.eq_iff {t:Kt} {a b:t.T}:t.eq a b=true↔a=b:=by cases t <;> simp [Kt.eq]
theorem Kt.eq_self {t:Kt} (a:t.T):t.eq a a=true:=Kt.eq_iff.2 rfl
def ktOf (P:Program) (k:TypeId):Option Kt:=match P.underlying k with
 | some .string=>some .str
 | some (.int kd)=>some (.int kd)
 | _=>none
def asc (t:Kt):List (t.T × Value)→t.T→Nat→Option (Nat × Value)
 | [],_,_=>none
 | p::l,k,i=>match t.eq k p.1 with
  | true=>some (i,p.2)
  | false=>asc t l k (i+1)
def Ents0 (t:Kt) (es:List MapEntry) (l:List (t.T × Value)):Prop:=es.map (fun e=>(e.key,e.val))=l.map fun p=>(t.val p.1,p.2)
def Ents (t:Kt) (es:List MapEntry) (l:List (t.T × Value)):Prop:=Ents0 t es l∧(l.map (·.1)).Nodup
def Qop (t:Kt) (es:Array MapEntry) (clock:Nat) (l:List (t.T × Value)):Prop:=Ents t es.toList l∧MapKept.Stamped es clock
section
variable {P : Program} {w : World} {t k e : TypeId} {kt : Kt}
theorem QrP (hk:ktOf P k=some kt) (key:kt.T):∀ {es:List MapEntry} {l:List (kt.T × Value)} (i:Nat),Ents0 kt es l→∃ d,P.underlying k=some d∧Instr.findNow d (kt.val key) es i=some (asc kt l key i):=by
 intro es
 unfold ktOf at hk
 split at hk
 · rename_i h0
   cases hk
   induction es with
   | nil =>
    intro l i h
    cases l with
    | nil=>exact ⟨_,h0,rfl⟩
    | cons p l=>simp [Ents0] at h
   | cons x es ih =>
    intro l i h
    cases l with
    | nil=>simp [Ents0] at h
    | cons p l =>
     simp only [Ents0,List.map_cons,List.cons.injEq,Prod.mk.injEq] at h
     obtain ⟨d,hd,h2⟩:=ih (l:=l) (i+1) h.2
     rw [h0] at hd; cases hd
     refine ⟨_,h0,?_⟩
     obtain ⟨pk,pv⟩:=p
     have hk2:x.key=.string pk:=h.1.1
     have hv2:x.val=pv:=h.1.2
     simp only [Instr.findNow,hk2,Kt.val,Instr.sameNow,asc,Kt.eq]
     have e1:(key==pk)=decide (key=pk):=ba_eq key pk
     rw [e1]
     by_cases hc:key=pk
     · rw [decide_eq_true hc,hv2]
     · rw [decide_eq_false hc]
       exact h2
 · rename_i kd h0
   cases hk
   induction es with
   | nil =>
    intro l i h
    cases l with
    | nil=>exact ⟨_,h0,rfl⟩
    | cons p l=>simp [Ents0] at h
   | cons x es ih =>
    intro l i h
    cases l with
    | nil=>simp [Ents0] at h
    | cons p l =>
     simp only [Ents0,List.map_cons,List.cons.injEq,Prod.mk.injEq] at h
     obtain ⟨d,hd,h2⟩:=ih (l:=l) (i+1) h.2
     rw [h0] at hd; cases hd
     refine ⟨_,h0,?_⟩
     obtain ⟨pk,pv⟩:=p
     have hk2:x.key=.int kd pk:=h.1.1
     have hv2:x.val=pv:=h.1.2
     simp only [Instr.findNow,hk2,Kt.val,Instr.sameNow,asc,Kt.eq,if_true]
     by_cases hc:key=pk
     · subst hc
       simp [hv2]
     · have:(key==pk)=false:=by simpa using hc
       rw [this,decide_eq_false hc]
       exact h2
 · cases hk
theorem QcO (hk:ktOf P k=some kt) (key:kt.T) (b:Bool):(Instr.checkKey b 10000 k (kt.val key)).run P w=.ok () w:=by
 unfold ktOf at hk
 split at hk
 · rename_i h0
   cases hk
   unfold Instr.checkKey
   simp [run_underlying h0,Kt.val]
 · rename_i kd h0
   cases hk
   unfold Instr.checkKey
   simp [run_underlying h0,Kt.val]
 · cases hk
theorem QbJ (hk:ktOf P k=some kt) (key:kt.T) {es:List MapEntry} {l:List (kt.T × Value)} (h:Ents0 kt es l):(Instr.findKey k (kt.val key) es).run P w=.ok (asc kt l key 0) w:=by
 obtain ⟨d,hd,h2⟩:=QrP hk key 0 h
 unfold Instr.findKey
 simp only [Sem.run_bind,run_underlying hd,Result.andThen_ok,h2]
 rfl
theorem QnW (ht:P.underlying t=some (.map k e)) (hk:ktOf P k=some kt) {b:Nat} {es:Array MapEntry} {clock:Nat} (hb:w.heap[b]?=some (.map es clock)) {l:List (kt.T × Value)} (h:Ents kt es.toList l) (key:kt.T) (c:Bool) :
  (∀ i v,asc kt l key 0=some (i,v)→(Instr.lookup t (.map (some b)) (kt.val key) c).run P w=.ok (if c then .tuple #[v,.bool true] else v) w) ∧
  (∀ z,asc kt l key 0=none→(zeroValue e).run P w=.ok z w→(Instr.lookup t (.map (some b)) (kt.val key) c).run P w=.ok (if c then .tuple #[z,.bool false] else z) w):=by
 refine ⟨fun i v hv=>?_,fun z hn hz=>?_⟩
 · simp [Instr.lookup,run_underlying ht,MapKept.run_getObj_map hb,QcO hk,QbJ hk key h.1,hv,Result.andThen]
 · simp [Instr.lookup,run_underlying ht,MapKept.run_getObj_map hb,QcO hk,QbJ hk key h.1,hn,hz,Result.andThen]
theorem Qo7 (key:kt.T):Instr.sameBits 10000 (kt.val key) (kt.val key)=true:=by
 cases kt with
 | str=>exact (ba_eq key key).trans (decide_eq_true rfl)
 | int kd=>simp [Kt.val,Instr.sameBits]
theorem Qkl {t:Kt}:∀ {l:List (t.T × Value)} {k:t.T} {i j:Nat} {v:Value},asc t l k i=some (j,v)→i≤j∧∃ p,l[j - i]?=some p∧p.1=k∧p.2=v
 | [],k,i,j,v,h=>by cases h
 | p::l,k,i,j,v,h=>by
  unfold asc at h
  split at h
  · rename_i hc
    cases h
    exact ⟨Nat.le_refl _,p,by simp,(Kt.eq_iff.1 hc).symm,rfl⟩
  · obtain ⟨h1,q,h2,h3⟩:=Qkl h
    refine ⟨by omega,q,?_,h3⟩
    rw [show j - i=(j - (i+1))+1 by omega]
    simpa using h2
theorem Qng {t:Kt} (k:t.T) (v:Value) (k':t.T):∀ (l:List (t.T × Value)) (i:Nat),asc t l k i=none→(asc t (l++[(k,v)]) k' i).map (·.2)=if t.eq k' k=true then some v else (asc t l k' i).map (·.2)
 | [],i,h=>by
  simp only [List.nil_append,asc]
  split <;> rename_i hc <;> simp [hc]
 | p::l,i,h=>by
  unfold asc at h
  split at h
  · cases h
  · rename_i hc
    have ih:=Qng k v k' l (i+1) h
    simp only [List.cons_append,asc]
    split
    · rename_i hk
      have:¬ t.eq k' k=true:=fun h2=>by
       have e1:=Kt.eq_iff.1 hk
       have e2:=Kt.eq_iff.1 h2
       subst e1
       rw [← e2,Kt.eq_self] at hc
       cases hc
      rw [if_neg this]
    · exact ih
theorem QqM {t:Kt} (k:t.T) (v:Value) (k':t.T):∀ (l:List (t.T × Value)) (i j:Nat) (u:Value),asc t l k i=some (j,u)→(asc t (l.set (j - i) (k,v)) k' i).map (·.2)=if t.eq k' k=true then some v else (asc t l k' i).map (·.2)
 | [],i,j,u,h=>by cases h
 | p::l,i,j,u,h=>by
  unfold asc at h
  split at h
  · rename_i hc
    cases h
    have hc:=Kt.eq_iff.1 hc
    simp only [Nat.sub_self,List.set_cons_zero,asc]
    split
    · rename_i h2; simp [h2]
    · rename_i h2
      rw [if_neg (by rw [h2]; decide),← hc,h2]
  · rename_i hc
    have h1:=(Qkl h).1
    have ih:=QqM k v k' l (i+1) j u h
    rw [show j - i=(j - (i+1))+1 by omega]
    simp only [List.set_cons_succ,asc]
    split
    · rename_i hk
      have:¬ t.eq k' k=true:=fun h2=>by
       have e1:=Kt.eq_iff.1 hk
       have e2:=Kt.eq_iff.1 h2
       subst e1
       rw [← e2,Kt.eq_self] at hc
       cases hc
      rw [if_neg this]
    · exact ih
theorem Qql {t:Kt} {es:List MapEntry} {l:List (t.T × Value)} (h:Ents0 t es l) (k:t.T) (v:Value) (c:Nat):Ents0 t (es++[{ key:=t.val k,val:=v,born:=c }]) (l++[(k,v)]):=by
 unfold Ents0 at *
 rw [List.map_append,List.map_append,h]; rfl
theorem QrU {t:Kt} {es:List MapEntry} {l:List (t.T × Value)} (h:Ents0 t es l) (k:t.T) (v:Value) (i:Nat) (f:MapEntry→MapEntry) (hf:∀ e,(f e).key=t.val k∧(f e).val=v):Ents0 t (es.modify i f) (l.set i (k,v)):=by
 unfold Ents0 at *
 apply List.ext_getElem?
 intro j
 have hj:=congrArg (fun m=>m[j]?) h
 simp only [List.getElem?_map] at hj ⊢
 rw [List.getElem?_modify,List.getElem?_set]
 by_cases hij:i=j
 · subst hij
   simp only [if_true]
   cases he:es[i]? with
   | none =>
    rw [he] at hj
    cases hl:l[i]? with
    | none =>
     have:=List.getElem?_eq_none_iff.1 hl
     rw [if_neg (by omega)]; rfl
    | some q=>rw [hl] at hj; cases hj
   | some x =>
    rw [he] at hj
    cases hl:l[i]? with
    | none=>rw [hl] at hj; cases hj
    | some q =>
     have:=(List.getElem?_eq_some_iff.1 hl).1
     rw [if_pos this]
     simp [hf x]
 · simp only [if_neg hij]
   rw [← hj]
   cases es[j]? <;> simp [Option.map]
theorem Qgb {t:Kt} {k:t.T}:∀ {l:List (t.T × Value)} {i:Nat},asc t l k i=none→¬ k∈l.map (·.1)
 | [],i,_,hc=>by cases hc
 | p::l,i,h,hc=>by
  unfold asc at h
  split at h
  · cases h
  · rename_i hk
    rcases List.mem_cons.1 hc with rfl | hc
    · rw [Kt.eq_self] at hk; cases hk
    · exact Qgb h hc
theorem QlH {t:Kt} {k:t.T}:∀ {l:List (t.T × Value)} {i:Nat},¬ k∈l.map (·.1)→asc t l k i=none
 | [],i,_=>rfl
 | p::l,i,h=>by
  unfold asc
  split
  · rename_i hk
    exact absurd (Kt.eq_iff.1 hk) fun e=>h (e ▸ List.mem_cons_self ..)
  · exact QlH fun hc=>h (List.mem_cons_of_mem _ hc)
theorem QnO {α:Type} {β:Type} {l:List (α × β)} {k:α} {v:β} (h:(l.map (·.1)).Nodup) (hk:¬ k∈l.map (·.1)):((l++[(k,v)]).map (·.1)).Nodup:=by
 rw [List.map_append,List.nodup_append]
 refine ⟨h,List.nodup_cons.2 ⟨(fun h=>by cases h),List.nodup_nil⟩,fun a ha b hb e=>?_⟩
 rw [e,List.mem_singleton.1 hb] at ha
 exact hk ha
theorem Qt7 {α:Type} {β:Type} {l:List (α × β)} {i:Nat} {k:α} {v:β} {q:α × β} (h1:l[i]?=some q) (h2:q.1=k):(l.set i (k,v)).map (·.1)=l.map (·.1):=by
 apply List.ext_getElem?
 intro j
 rw [List.getElem?_map,List.getElem?_map,List.getElem?_set]
 split
 · rename_i hij
   subst hij
   split
   · rw [h1]; simp [h2]
   · rename_i hlt
     rw [List.getElem?_eq_none (by omega)]
 · rfl
theorem Qkj {t:Kt} (k:t.T):∀ (l:List (t.T × Value)) (i j:Nat),(asc t l k i).map (·.2)=(asc t l k j).map (·.2)
 | [],i,j=>rfl
 | p::l,i,j=>by
  unfold asc
  split
  · rfl
  · exact Qkj k l (i+1) (j+1)
theorem Qkk {t:Kt} (k:t.T) (k':t.T):∀ (l:List (t.T × Value)) (i j:Nat) (u:Value),(l.map (·.1)).Nodup→asc t l k i=some (j,u)→(asc t (l.eraseIdx (j - i)) k' i).map (·.2)=if t.eq k' k=true then none else (asc t l k' i).map (·.2)
 | [],i,j,u,_,h=>by cases h
 | p::l,i,j,u,hn,h=>by
  rw [List.map_cons,List.nodup_cons] at hn
  unfold asc at h
  split at h
  · rename_i hc
    cases h
    have hc:=Kt.eq_iff.1 hc
    rw [Nat.sub_self,List.eraseIdx_cons_zero]
    split
    · rename_i h2
      rw [QlH (by rw [Kt.eq_iff.1 h2,hc]; exact hn.1)]; rfl
    · rename_i h2
      rw [asc.eq_def t (p::l)]
      dsimp only
      split
      · rename_i h3
        exact absurd (by rw [Kt.eq_iff.1 h3,hc]; exact Kt.eq_self _) h2
      · exact Qkj k' l i (i+1)
  · rename_i hc
    have h1:=(Qkl h).1
    have ih:=Qkk k k' l (i+1) j u hn.2 h
    rw [show j - i=(j - (i+1))+1 by omega,List.eraseIdx_cons_succ]
    unfold asc
    split
    · rename_i hk
      have:¬ t.eq k' k=true:=fun h2=>by
       have e1:=Kt.eq_iff.1 hk
       have e2:=Kt.eq_iff.1 h2
       subst e1
       rw [← e2,Kt.eq_self] at hc
       cases hc
      rw [if_neg this]
    · exact ih
theorem QeG {α:Type} {β:Type} (f:α→β):∀ (l:List α) (i:Nat),(l.eraseIdx i).map f=(l.map f).eraseIdx i
 | [],i=>rfl
 | a::l,0=>rfl
 | a::l,i+1=>by rw [List.eraseIdx_cons_succ,List.map_cons,List.map_cons,List.eraseIdx_cons_succ,QeG f l i]
theorem QrW {t:Kt} {es:List MapEntry} {l:List (t.T × Value)} (h:Ents0 t es l) {x:MapEntry} (hx:x∈es) {k:t.T} (e:x.key=t.val k):k∈l.map (·.1):=by
 have h1:(x.key,x.val)∈es.map fun e=>(e.key,e.val):=List.mem_map.2 ⟨x,hx,rfl⟩
 unfold Ents0 at h
 rw [h] at h1
 obtain ⟨p,hp,hpe⟩:=List.mem_map.1 h1
 simp only [Prod.mk.injEq] at hpe
 refine List.mem_map.2 ⟨p,hp,?_⟩
 have h2:t.val p.1=t.val k:=hpe.1.trans e
 cases t with
 | str=>simpa [Kt.val] using h2
 | int kd=>simpa [Kt.val] using h2
theorem QkA {es es':Array MapEntry} {clock:Nat} (h:MapKept.Stamped es clock) (hs:es'.toList.Sublist es.toList):MapKept.Stamped es' clock :=
 ⟨fun x hx=>h.1 x (hs.subset hx),h.2.1.sublist (hs.map _),h.2.2.sublist (hs.map _)⟩
theorem Qfi {α β:Type} (f:α→β) (g:α→α):∀ (l:List α) (i:Nat),(∀ a,l[i]?=some a→f (g a)=f a)→(l.modify i g).map f=l.map f
 | [],i,_=>by cases i <;> rfl
 | a::l,0,h=>by
  show f (g a)::l.map f=f a::l.map f
  rw [h a rfl]
 | a::l,i+1,h=>by
  show f a::(l.modify i g).map f=f a::l.map f
  rw [Qfi f g l i h]
theorem Qhi {es:Array MapEntry} {clock i:Nat} {k v:Value} (h:MapKept.Stamped es clock) (hk:(es.toList[i]?).map (·.key)=some k):MapKept.Stamped (es.modify i fun e=>{ e with key:=k,val:=v }) clock:=by
 have h1:((es.modify i fun e=>{ e with key:=k,val:=v }).toList.map (·.born))=es.toList.map (·.born):=by
  rw [Array.toList_modify]
  exact Qfi _ _ _ _ fun a _=>rfl
 have h2:((es.modify i fun e=>{ e with key:=k,val:=v }).toList.map (·.key))=es.toList.map (·.key):=by
  rw [Array.toList_modify]
  refine Qfi _ _ _ _ fun a ha=>?_
  rw [ha] at hk
  exact (Option.some.inj hk).symm
 refine ⟨fun x hx=>?_,by rw [h1]; exact h.2.1,by rw [h2]; exact h.2.2⟩
 have:x.born∈es.toList.map (·.born):=by rw [← h1]; exact List.mem_map.2 ⟨x,hx,rfl⟩
 obtain ⟨y,hy,e⟩:=List.mem_map.1 this
 rw [← e]
 exact h.1 y hy
theorem Qnp (ht:P.underlying t=some (.map k e)) (hk:ktOf P k=some kt) {b:Nat} {es:Array MapEntry} {clock:Nat} (hb:w.heap[b]?=some (.map es clock)) {l:List (kt.T × Value)} (h:Qop kt es clock l) (key:kt.T) (v:Value) :
  ∃ es' clock' l',(Instr.mapUpdate t (.map (some b)) (kt.val key) v).run P w=.ok () (Go.ChangeMaps.setBlock w b (.map es' clock'))∧Qop kt es' clock' l'∧∀ k',(asc kt l' k' 0).map (·.2)=if kt.eq k' key=true then some v else (asc kt l k' 0).map (·.2):=by
 cases ha:asc kt l key 0 with
 | none =>
  refine ⟨es.push { key:=kt.val key,val:=v,born:=clock },clock+1,l++[(key,v)],?_,?_,fun k'=>Qng key v k' l 0 ha⟩
  · simp only [Instr.mapUpdate,Sem.run_bind,run_underlying ht,Result.andThen_ok,MapKept.run_getObj_map hb,QcO hk,QbJ hk key h.1.1,ha,MapKept.run_setObj_map _ hb]
    rfl
  · refine ⟨by rw [Array.toList_push]; exact ⟨Qql h.1.1 key v clock,QnO h.1.2 (Qgb ha)⟩,MapKept.stamped_push h.2 fun x hx e=>?_⟩
    exact Qgb ha (QrW h.1.1 hx e)
 | some p =>
  obtain ⟨i,u⟩:=p
  obtain ⟨-,q,h1,h2,h3⟩:=Qkl ha
  have hes:(es[i]?).map (·.key)=some (kt.val key):=by
   have:=congrArg (fun m=>m[i]?) h.1.1
   simp only [List.getElem?_map,Nat.sub_zero] at this h1
   rw [h1] at this
   rw [← Array.getElem?_toList]
   cases he:es.toList[i]? with
   | none=>rw [he] at this; cases this
   | some x =>
    rw [he] at this
    simp only [Option.map_some,Option.some.injEq,Prod.mk.injEq] at this
    rw [Option.map_some,this.1,h2]
  refine ⟨es.modify i fun e=>{ e with key:=kt.val key,val:=v },clock,l.set i (key,v),?_,?_,fun k'=>by have:=QqM key v k' l 0 i u ha; simpa using this⟩
  · simp only [Instr.mapUpdate,Sem.run_bind,run_underlying ht,Result.andThen_ok,MapKept.run_getObj_map hb,QcO hk,QbJ hk key h.1.1,ha,hes,Option.getD_some,Instr.keyThatStays,Qo7,if_true,Sem.run_pure,MapKept.run_setObj_map _ hb]
    rfl
  · rw [Nat.sub_zero] at h1
    refine ⟨?_,Qhi h.2 (by rw [Array.getElem?_toList]; exact hes)⟩
    rw [Array.toList_modify]
    refine ⟨QrU h.1.1 key v i _ fun e=>⟨rfl,rfl⟩,?_⟩
    rw [Qt7 h1 h2]
    exact h.1.2
theorem Qoe (ht:P.underlying t=some (.map k e)) (hk:ktOf P k=some kt) {b:Nat} {es:Array MapEntry} {clock:Nat} (hb:w.heap[b]?=some (.map es clock)) {l:List (kt.T × Value)} (h:Qop kt es clock l) (key:kt.T) (k0 ty:TypeId) :
  ∃ es' l',(Builtin.delete_ #[t,k0] ty #[.map (some b),kt.val key]).run P w=.ok (.tuple #[]) (Go.ChangeMaps.setBlock w b (.map es' clock))∧Qop kt es' clock l'∧∀ k',(asc kt l' k' 0).map (·.2)=if kt.eq k' key=true then none else (asc kt l k' 0).map (·.2):=by
 cases ha:asc kt l key 0 with
 | none =>
  refine ⟨es,l,?_,h,fun k'=>?_⟩
  · simp [Builtin.delete_,run_underlying ht,MapKept.run_getObj_map hb,QcO hk,QbJ hk key h.1.1,ha,MapKept.run_setObj_map _ hb,Result.andThen,Go.ChangeMaps.setBlock]
  · split
    · rename_i h2
      rw [Kt.eq_iff.1 h2,ha]; rfl
    · rfl
 | some p =>
  obtain ⟨i,u⟩:=p
  obtain ⟨-,q,h1,h2,h3⟩:=Qkl ha
  rw [Nat.sub_zero] at h1
  have hl:es.toList.length=l.length:=by have:=congrArg List.length h.1.1; simpa using this
  have hi:i<es.size:=by rw [← Array.length_toList,hl]; exact (List.getElem?_eq_some_iff.1 h1).1
  have e1:(es.eraseIdxIfInBounds i).toList=es.toList.eraseIdx i:=by
   unfold Array.eraseIdxIfInBounds
   rw [dif_pos hi,Array.toList_eraseIdx]
  refine ⟨es.eraseIdxIfInBounds i,l.eraseIdx i,?_,⟨⟨?_,?_⟩,?_⟩,fun k'=>?_⟩
  · simp [Builtin.delete_,run_underlying ht,MapKept.run_getObj_map hb,QcO hk,QbJ hk key h.1.1,ha,MapKept.run_setObj_map _ hb,Result.andThen,Go.ChangeMaps.setBlock]
  · have h0:=h.1.1
    unfold Ents0 at h0 ⊢
    rw [e1,QeG,QeG,h0]
  · rw [QeG]
    exact h.1.2.sublist (List.eraseIdx_sublist ..)
  · exact QkA h.2 (by rw [e1]; exact List.eraseIdx_sublist ..)
  · have:=Qkk key k' l 0 i u h.1.2 ha
    rw [Nat.sub_zero] at this
    exact this
end
end Go.Proofs.YtmbmbcamecfnkaaGreatDoor
namespace Go.Proofs.YtmbmbcamecfnkaaGreatDoor
def Qsu (f:FuncId):Bool:=Nat.beq f 70
end Go.Proofs.YtmbmbcamecfnkaaGreatDoor
