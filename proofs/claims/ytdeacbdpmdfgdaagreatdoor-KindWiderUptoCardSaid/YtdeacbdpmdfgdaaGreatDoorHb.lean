/- Kappas expanded, and well formed types, in plain words. -/
import Derived.Test.YtdeacbdpmdfgdaaGreatDoorUa
import Derived.Test.YtdeacbdpmdfgdaaGreatDoorTe
import Derived.Test.YtdeacbdpmdfgdaaGreatDoorKx
import Derived.Test.YtdeacbdpmdfgdaaGreatDoorTf
namespace Go.Proofs.YtdeacbdpmdfgdaaGreatDoor
open Go.RowKit
set_option linter.unusedVariables false
set_option maxRecDepth 100000
def tyP (t:Yw):PV:=.agg (Qac (tyC t))
def tyOf:PV→Option Yw
 | .agg l=>match leafs l with
  | some m=>toTy m
  | none=>none
 | _=>none
theorem Qck {x:PV} {t:Yw} (h:tyOf x=some t):SubB x (tyP t):=by
 unfold tyOf at h
 split at h
 · rename_i l
   split at h
   · rename_i m hm
     have hs:=Qes h
     obtain ⟨h1,h2⟩:=QbL hm
     refine ⟨fun H B v hv=>?_⟩
     obtain ⟨vs,rfl,h3⟩:=PRs.of_agg hv
     refine PRs.agg ⟨by rw [h3.1,← h1,Qdi,hs.len],fun i u y hu hy=>?_⟩
     rw [Qer] at hy
     cases hc:(tyC t)[i]? with
     | none=>rw [hc] at hy; cases hy
     | some z =>
      rw [hc] at hy
      cases hy
      obtain ⟨x,h4,h5⟩:=hs.at hc
      exact .f (h5 _ _ (h3.2 i u _ hu (h2 i x h4)).rd)
   · cases h
 · cases h
theorem Yw.eta:∀ t:Yw,Yw.mk t.fn t.sort t.ref t.params t.result=t
 | .mk _ _ _ _ _=>rfl
theorem Yw.ext {t u:Yw} (h1:t.fn=u.fn) (h2:t.sort=u.sort) (h3:t.ref=u.ref) (h4:t.params=u.params) (h5:t.result=u.result):t=u:=by
 rw [← t.eta,← u.eta,h1,h2,h3,h4,h5]
mutual
def Yw.size:Yw→Nat
 | .mk _ _ _ p r=>szP p+szY r+1
def szQ:ByteArray × Yw→Nat
 | (_,y)=>y.size
def szP:List (ByteArray × Yw)→Nat
 | []=>0
 | x::l=>szQ x+szP l
def szY:List Yw→Nat
 | []=>0
 | y::l=>y.size+szY l
end
theorem Yw.size_eq (t:Yw):t.size=szP t.params+szY t.result+1:=by cases t; rw [Yw.size]; rfl
theorem Qj7 (x:ByteArray × Yw):szQ x=x.2.size:=by obtain ⟨s,y⟩:=x; rw [szQ]
theorem Qj8:∀ {l:List (ByteArray × Yw)} {x:ByteArray × Yw},x∈l→x.2.size≤szP l
 | y::l,x,h=>by
  rw [szP,Qj7]
  rcases List.mem_cons.1 h with rfl | h
  · omega
  · have:=Qj8 h; omega
theorem QeT:∀ {l:List Yw} {x:Yw},x∈l→x.size≤szY l
 | y::l,x,h=>by
  rw [szY]
  rcases List.mem_cons.1 h with rfl | h
  · omega
  · have:=QeT h; omega
mutual
def Yw.fit:Yw→Prop
 | .mk _ s t p r=>(s.size≤4611686018427387904∧t.fitT∧Qbq t)∧(p.length≤100000000∧r.length≤100000000)∧fitP p∧fitY r
def fitQ:ByteArray × Yw→Prop
 | (s,y)=>s.size≤4611686018427387904∧y.fit
def fitP:List (ByteArray × Yw)→Prop
 | []=>True
 | x::l=>fitQ x∧fitP l
def fitY:List Yw→Prop
 | []=>True
 | y::l=>y.fit∧fitY l
end
theorem Yw.fit_eq (t:Yw):t.fit↔(t.sort.size≤4611686018427387904∧t.ref.fitT∧Qbq t.ref)∧(t.params.length≤100000000∧t.result.length≤100000000)∧fitP t.params∧fitY t.result:=by cases t; rw [Yw.fit]; rfl
theorem QrA (x:ByteArray × Yw):fitQ x↔x.1.size≤4611686018427387904∧x.2.fit:=by obtain ⟨s,y⟩:=x; rw [fitQ]
theorem Qdg:∀ {l:List (ByteArray × Yw)} {x:ByteArray × Yw},fitP l→x∈l→x.1.size≤4611686018427387904∧x.2.fit
 | y::l,x,h,hx=>by
  rw [fitP,QrA] at h
  rcases List.mem_cons.1 hx with rfl | hx
  · exact h.1
  · exact Qdg h.2 hx
theorem Qca:∀ {l:List Yw} {x:Yw},fitY l→x∈l→x.fit
 | y::l,x,h,hx=>by
  rw [fitY] at h
  rcases List.mem_cons.1 hx with rfl | hx
  · exact h.1
  · exact Qca h.2 hx
theorem gotD {α:Type} {l:List α} {i:Nat} (d:α) (h:i<l.length):l.getD i d∈l:=by
 rw [List.getD_eq_getElem?_getD,List.getElem?_eq_getElem h]; exact List.getElem_mem h
def Qa0 (t:Yw):Bool:=!t.fn && (decide (t.params.length=0) && decide (t.result.length=0))
noncomputable def funsY (t:Yw):Bool:=t.fn && (decide (t.result.length=1) && (decide (t.sort=⟨#[]⟩) && sameT t.ref Sh.tm.nil))
mutual
def conj:Tw→List Tw
 | .mk k n b d l=>if k=3∧l.length=0 then [] else if k=11 then Qbm l else [.mk k n b d l]
def Qbm:List Tw→List Tw
 | []=>[]
 | t::l=>conj t++Qbm l
end
def Qax:List Tw→Tw
 | []=>.mk 3 ⟨#[]⟩ false [] []
 | [x]=>x
 | x::y::l=>.mk 11 ⟨#[]⟩ false [] (x::y::l)
def addK (ks:List (List UInt8)):List Tw→List Tw
 | []=>[]
 | c::m=>if keyB c∈ks then addK ks m else c::addK (keyB c::ks) m
def allK (l m:List Tw):List Tw:=l++addK (l.map keyB) m
def QaB (t:Yw) (m:Tw):Yw:=if Qa0 t=false∨addK ((conj t.ref).map keyB) (conj m)=[] then t else .mk false t.sort (Qax (allK (conj t.ref) (conj m))) [] []
mutual
theorem QjE:∀ {t x:Tw},x∈conj t→conj x=[x]
 | .mk k n b d l,x,h=>by
  rw [conj] at h
  split at h
  · cases h
  · rename_i h1
    split at h
    · exact Qk1 h
    · rename_i h2
      cases List.mem_singleton.1 h
      rw [conj,if_neg h1,if_neg h2]
theorem Qk1:∀ {l:List Tw} {x:Tw},x∈Qbm l→conj x=[x]
 | t::l,x,h=>by
  rw [Qbm,List.mem_append] at h
  exact h.elim (fun h=>QjE h) fun h=>Qk1 h
end
theorem Qgs:∀ {l:List Tw},(∀ x∈l,conj x=[x])→Qbm l=l
 | [],_=>rfl
 | t::l,h=>by
  rw [Qbm,h t (List.mem_cons_self ..),Qgs fun x hx=>h x (List.mem_cons_of_mem _ hx)]; rfl
theorem QlV:∀ {l:List Tw},(∀ x∈l,conj x=[x])→conj (Qax l)=l
 | [],_=>by rw [Qax,conj]; rfl
 | [x],h=>h x (List.mem_cons_self ..)
 | x::y::l,h=>by
  rw [Qax,conj,if_neg (fun h=>by cases h.1),if_pos rfl,Qgs h]
theorem QjS:∀ {ks:List (List UInt8)} {m:List Tw} {x:Tw},x∈addK ks m→x∈m
 | ks,c::m,x,h=>by
  rw [addK] at h
  split at h
  · exact List.mem_cons_of_mem _ (QjS h)
  · rcases List.mem_cons.1 h with rfl | h
    · exact List.mem_cons_self ..
    · exact List.mem_cons_of_mem _ (QjS h)
theorem QhD:∀ {m:List Tw} {ks:List (List UInt8)} {c:Tw},c∈m→keyB c∈ks∨keyB c∈(addK ks m).map keyB
 | d::m,ks,c,h=>by
  rw [addK]
  rcases List.mem_cons.1 h with rfl | h
  · by_cases hk:keyB c∈ks
    · exact .inl hk
    · rw [if_neg hk]; exact .inr (by simp)
  · split
    · exact QhD h
    · rename_i hk
      rcases QhD (ks:=keyB d::ks) h with h1 | h1
      · rcases List.mem_cons.1 h1 with h1 | h1
        · exact .inr (by rw [h1]; simp)
        · exact .inl h1
      · exact .inr (by rw [List.map_cons]; exact List.mem_cons_of_mem _ h1)
theorem QiI:∀ {m:List Tw} {ks:List (List UInt8)},(∀ c∈m,keyB c∈ks)→addK ks m=[]
 | [],_,_=>rfl
 | c::m,ks,h=>by rw [addK,if_pos (h c (List.mem_cons_self ..)),QiI fun x hx=>h x (List.mem_cons_of_mem _ hx)]
theorem Qsf {t m x:Tw} (h:x∈allK (conj t) (conj m)):conj x=[x]:=by
 rw [allK,List.mem_append] at h
 exact h.elim (fun h=>QjE h) fun h=>QjE (QjS h)
theorem Qlp (t:Yw) (m:Tw):QaB t m=t∨(Qa0 t=true∧QaB t m=.mk false t.sort (Qax (allK (conj t.ref) (conj m))) [] []):=by
 unfold QaB
 split
 · exact .inl rfl
 · rename_i h
   exact .inr ⟨by cases hb:Qa0 t with | true=>rfl | false=>exact absurd (.inl hb) h,rfl⟩
theorem Qlo (t:Yw) (m:Tw):QaB (QaB t m) m=QaB t m:=by
 rcases Qlp t m with h | ⟨hb,h⟩
 · rw [h,h]
 · rw [h]
   unfold QaB
   refine if_pos (Or.inr ?_)
   have h1:conj (Qax (allK (conj t.ref) (conj m)))=allK (conj t.ref) (conj m):=QlV fun x hx=>Qsf hx
   show addK ((conj (Qax (allK (conj t.ref) (conj m)))).map keyB) (conj m)=[]
   rw [h1]
   refine QiI fun c hc=>?_
   rw [allK,List.map_append,List.mem_append]
   exact QhD hc
mutual
noncomputable def alikeY:Yw→Yw→Bool
 | .mk f s t p r,u =>
  if Qa0 (.mk f s t p r)=true∧Qa0 u=true then decide (s=u.sort)
  else if funsY (.mk f s t p r)=true∧funsY u=true then decide (p.length=u.params.length) && (alikeP p u.params && alikeR r u.result)
  else false
noncomputable def alikeQ:ByteArray × Yw→Yw→Bool
 | (_,y),u=>alikeY y u
noncomputable def alikeP:List (ByteArray × Yw)→List (ByteArray × Yw)→Bool
 | x::l,y::m=>alikeQ x y.2 && alikeP l m
 | _,_=>true
noncomputable def alikeR:List Yw→List Yw→Bool
 | x::l,y::m=>alikeY x y
 | _,_=>true
end
end Go.Proofs.YtdeacbdpmdfgdaaGreatDoor
namespace Go.Proofs.YtdeacbdpmdfgdaaGreatDoor
open Go.RowKit
set_option linter.unusedVariables false
set_option maxRecDepth 100000
mutual
def Qa1:Tw→Bool
 | .mk k _ _ _ l=>!decide (k=14) && Qcz l
def Qcz:List Tw→Bool
 | []=>true
 | t::l=>Qa1 t && Qcz l
end
def kapE (K:List Kap) (n:ByteArray) (l:List Tw):Except Int Tw:=match K.find? fun x=>decide (x.name=n) with
 | none=>.error 21
 | some x=>if x.params.length≠l.length then .error 24 else if Qa1 x.body=false then .error 23 else Qf8 (x.params.map Srt.name) l x.body
mutual
def expT (K:List Kap):Tw→Except Int Tw
 | .mk k n b d l=>match expL K l with
  | .error e=>.error e
  | .ok m=>if k=14 then kapE K n m else .ok (.mk k n b d m)
def expL (K:List Kap):List Tw→Except Int (List Tw)
 | []=>.ok []
 | t::l=>match expT K t with
  | .error e=>.error e
  | .ok u=>match expL K l with
   | .error e=>.error e
   | .ok m=>.ok (u::m)
end
def expE (K:List Kap) (t:Tw):Except Int Tw:=match expT K t with
 | .error e=>.error e
 | .ok u=>if u.size≤20000 then .ok u else .error 34
def Qby (D:List Dat) (s:ByteArray):Bool:=decide (s=bInt) || (decide (s=QdQ) || decide (0≤anyB D fun d=>decide (d.name=s)))
def nV:ByteArray:=⟨#[118]⟩
def Qaz (D:List Dat) (K:List Kap) (S:List Srt) (y:Yw):Int:=if Qby D y.sort=false then 23 else match expE K y.ref with
 | .error e=>e
 | .ok t=>match Qaq D (S++[⟨nV,y.sort⟩]) t with
  | .error e=>e
  | .ok s=>if s=QdQ then 0 else 23
def QbU (seen:List ByteArray):List ByteArray→Bool
 | []=>false
 | s::l=>(seen.any fun x=>decide (x=s)) || QbU (seen++[s]) l
def QbA (S:List Srt) (x:ByteArray × Yw):List Srt:=if x.2.fn=true then S else S++[⟨x.1,x.2.sort⟩]
mutual
noncomputable def formedY (D:List Dat) (K:List Kap):List Srt→Yw→Int
 | S,.mk f s t p r =>
  if Qa0 (.mk f s t p r)=true then Qaz D K S (.mk f s t p r)
  else if funsY (.mk f s t p r)=false then 30
  else if 6<p.length then 24
  else if QbU [] (p.map (·.1))=true then 22
  else match formedP D K S p with
   | .error e=>e
   | .ok S'=>formedR D K S' r
noncomputable def formedQ (D:List Dat) (K:List Kap):List Srt→ByteArray × Yw→Int
 | S,(_,y)=>formedY D K S y
noncomputable def formedP (D:List Dat) (K:List Kap):List Srt→List (ByteArray × Yw)→Except Int (List Srt)
 | S,[]=>.ok S
 | S,x::l=>if formedQ D K S x≠0 then .error (formedQ D K S x) else formedP D K (QbA S x) l
noncomputable def formedR (D:List Dat) (K:List Kap):List Srt→List Yw→Int
 | _,[]=>0
 | S,y::_=>formedY D K S y
end
section
variable {D : List Dat} {K : List Kap} {S : List Srt} {m : Srt}
theorem Qc1 (S:List Srt) (x:ByteArray × Yw):formedQ D K S x=formedY D K S x.2:=by obtain ⟨s,y⟩:=x; rw [formedQ]
theorem Qbc (S:List Srt) (y:Yw):formedY D K S y=if Qa0 y=true then Qaz D K S y
  else if funsY y=false then 30
  else if 6<y.params.length then 24
  else if QbU [] (y.params.map (·.1))=true then 22
  else match formedP D K S y.params with
   | .error e=>e
   | .ok S'=>formedR D K S' y.result:=by cases y; rw [formedY]; rfl
def scL (S:List Srt) (l:List (ByteArray × Yw)):List Srt:=l.foldl QbA S
theorem Qgm:∀ {l:List (ByteArray × Yw)} {S S':List Srt},formedP D K S l=.ok S'→S'=scL S l
 | [],S,S',h=>by rw [formedP] at h; cases h; rfl
 | x::l,S,S',h=>by
  rw [formedP] at h
  split at h
  · cases h
  · rw [Qgm h]; rfl
theorem Qgn:∀ {l:List (ByteArray × Yw)} {S S':List Srt} {i:Nat},formedP D K S l=.ok S'→i<l.length→formedY D K (scL S (l.take i)) (l.getD i Sh.prm.nil).2=0
 | x::l,S,S',i,h,hi=>by
  rw [formedP] at h
  split at h
  · cases h
  · rename_i hx
    match i with
    | 0 =>
     rw [Qc1] at hx
     exact Classical.not_not.1 hx
    | i+1=>exact Qgn (i:=i) h (by simpa using hi)
theorem Qlq {n s:ByteArray} (h:varS D S n=.ok s):varS D (m::S) n=.ok s:=by
 unfold varS at h ⊢
 rw [List.reverse_cons,List.find?_append]
 cases hf:S.reverse.find? fun x=>decide (x.name=n) with
 | none=>rw [hf] at h; cases h
 | some x=>rw [hf] at h; exact h
mutual
theorem Qf9:∀ (t:Tw) {s:ByteArray},Qaq D S t=.ok s→Qaq D (m::S) t=.ok s
 | .mk k n b d kids,s,h=>by
  rw [Qaq] at h ⊢
  split at h
  · cases h
  rename_i c1
  rw [if_neg c1]
  split at h
  · cases h
  rename_i c2
  rw [if_neg c2]
  split at h
  · cases h
  rename_i c3
  rw [if_neg c3]
  split at h
  · rename_i c4
    rw [if_pos c4]; exact Qlq h
  rename_i c4
  rw [if_neg c4]
  split at h
  · rename_i q hq
    rw [QeX kids hq]; exact h
  · cases h
theorem QeX:∀ (l:List Tw) {r:List ByteArray},QaR D S l=.ok r→QaR D (m::S) l=.ok r
 | [],r,h=>h
 | t::l,r,h=>by
  rw [QaR] at h
  split at h
  · rename_i s hs
    split at h
    · rename_i q hq
      cases h
      rw [QaR,Qf9 t hs]
      dsimp only
      rw [QeX l hq]
    · cases h
  · cases h
end
theorem QgX {y:Yw} (h:Qaz D K S y=0) (hs:∀ e,expE K y.ref=.error e→e≠0) (hv:∀ t e,Qaq D (S++[⟨nV,y.sort⟩]) t=.error e→e≠0):Qaz D K (m::S) y=0:=by
 unfold Qaz at h ⊢
 split at h
 · cases h
 rename_i c1
 rw [if_neg c1]
 split at h
 · rename_i e he
   exact absurd h (hs e he)
 · rename_i t ht
   split at h
   · rename_i e he
     exact absurd h (hv t e he)
   · rename_i s hs
     have h2:=Qf9 (m:=m) t hs
     rw [List.cons_append,h2]
     exact h
end
end Go.Proofs.YtdeacbdpmdfgdaaGreatDoor
