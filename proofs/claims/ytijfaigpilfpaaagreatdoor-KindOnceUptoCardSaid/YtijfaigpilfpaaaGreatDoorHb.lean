/- Kappas expanded, and well formed types, in plain words. -/
import Derived.Test.YtijfaigpilfpaaaGreatDoorUp
import Derived.Test.YtijfaigpilfpaaaGreatDoorKx
import Derived.Test.YtijfaigpilfpaaaGreatDoorTf
namespace Go.Proofs.YtijfaigpilfpaaaGreatDoor
open Go.RowKit
set_option linter.unusedVariables false
set_option maxRecDepth 100000
def tyP (t:Yw):PV:=.agg (Qae (tyC t))
def tyOf:PV→Option Yw
 | .agg l=>match leafs l with
  | some m=>toTy m
  | none=>none
 | _=>none
theorem Qbp {x:PV} {t:Yw} (h:tyOf x=some t):SubB x (tyP t):=by
 unfold tyOf at h
 split at h
 · rename_i l
   split at h
   · rename_i m hm
     have hs:=QeO h
     obtain ⟨h1,h2⟩:=QbG hm
     refine ⟨fun H B v hv=>?_⟩
     obtain ⟨vs,rfl,h3⟩:=PRs.of_agg hv
     refine PRs.agg ⟨by rw [h3.1,← h1,Qdx,hs.len],fun i u y hu hy=>?_⟩
     rw [QeN] at hy
     cases hc:(tyC t)[i]? with
     | none=>rw [hc] at hy; cases hy
     | some z =>
      rw [hc] at hy
      cases hy
      obtain ⟨x,h4,h5⟩:=hs.at hc
      exact .f (h5 _ _ (h3.2 i u _ hu (h2 i x h4)).rd)
   · cases h
 · cases h
theorem Yw.eta:∀ t:Yw,Yw.mk t.fn t.sort t.ref t.params t.result=t
 | .mk _ _ _ _ _=>rfl
theorem Yw.ext {t u:Yw} (h1:t.fn=u.fn) (h2:t.sort=u.sort) (h3:t.ref=u.ref) (h4:t.params=u.params) (h5:t.result=u.result):t=u:=by
 rw [← t.eta,← u.eta,h1,h2,h3,h4,h5]
mutual
def Yw.size:Yw→Nat
 | .mk _ _ _ p r=>szP p+szY r+1
def szQ:ByteArray × Yw→Nat
 | (_,y)=>y.size
def szP:List (ByteArray × Yw)→Nat
 | []=>0
 | x::l=>szQ x+szP l
def szY:List Yw→Nat
 | []=>0
 | y::l=>y.size+szY l
end
theorem Yw.size_eq (t:Yw):t.size=szP t.params+szY t.result+1:=by cases t; rw [Yw.size]; rfl
theorem QkP (x:ByteArray × Yw):szQ x=x.2.size:=by obtain ⟨s,y⟩:=x; rw [szQ]
theorem Qfe:∀ {l:List (ByteArray × Yw)} {x:ByteArray × Yw},x∈l→x.2.size≤szP l
 | y::l,x,h=>by
  rw [szP,QkP]
  rcases List.mem_cons.1 h with rfl | h
  · omega
  · have:=Qfe h; omega
theorem Qdz:∀ {l:List Yw} {x:Yw},x∈l→x.size≤szY l
 | y::l,x,h=>by
  rw [szY]
  rcases List.mem_cons.1 h with rfl | h
  · omega
  · have:=Qdz h; omega
mutual
def Yw.fit:Yw→Prop
 | .mk _ s t p r=>(s.size≤4611686018427387904∧t.fitT∧QaQ t)∧(p.length≤100000000∧r.length≤100000000)∧fitP p∧fitY r
def fitQ:ByteArray × Yw→Prop
 | (s,y)=>s.size≤4611686018427387904∧y.fit
def fitP:List (ByteArray × Yw)→Prop
 | []=>True
 | x::l=>fitQ x∧fitP l
def fitY:List Yw→Prop
 | []=>True
 | y::l=>y.fit∧fitY l
end
theorem Yw.fit_eq (t:Yw):t.fit↔(t.sort.size≤4611686018427387904∧t.ref.fitT∧QaQ t.ref)∧(t.params.length≤100000000∧t.result.length≤100000000)∧fitP t.params∧fitY t.result:=by cases t; rw [Yw.fit]; rfl
theorem Qtk (x:ByteArray × Yw):fitQ x↔x.1.size≤4611686018427387904∧x.2.fit:=by obtain ⟨s,y⟩:=x; rw [fitQ]
theorem Qb8:∀ {l:List (ByteArray × Yw)} {x:ByteArray × Yw},fitP l→x∈l→x.1.size≤4611686018427387904∧x.2.fit
 | y::l,x,h,hx=>by
  rw [fitP,Qtk] at h
  rcases List.mem_cons.1 hx with rfl | hx
  · exact h.1
  · exact Qb8 h.2 hx
theorem QbC:∀ {l:List Yw} {x:Yw},fitY l→x∈l→x.fit
 | y::l,x,h,hx=>by
  rw [fitY] at h
  rcases List.mem_cons.1 hx with rfl | hx
  · exact h.1
  · exact QbC h.2 hx
theorem gotD {α:Type} {l:List α} {i:Nat} (d:α) (h:i<l.length):l.getD i d∈l:=by
 rw [List.getD_eq_getElem?_getD,List.getElem?_eq_getElem h]; exact List.getElem_mem h
def Qbf (t:Yw):Bool:=!t.fn && (decide (t.params.length=0) && decide (t.result.length=0))
noncomputable def funsY (t:Yw):Bool:=t.fn && (decide (t.result.length=1) && (decide (t.sort=⟨#[]⟩) && sameT t.ref Sh.tm.nil))
mutual
def conj:Tw→List Tw
 | .mk k n b d l=>if k=3∧l.length=0 then [] else if k=11 then Qa6 l else [.mk k n b d l]
def Qa6:List Tw→List Tw
 | []=>[]
 | t::l=>conj t++Qa6 l
end
def Qaw:List Tw→Tw
 | []=>.mk 3 ⟨#[]⟩ false [] []
 | [x]=>x
 | x::y::l=>.mk 11 ⟨#[]⟩ false [] (x::y::l)
def addK (ks:List (List UInt8)):List Tw→List Tw
 | []=>[]
 | c::m=>if keyB c∈ks then addK ks m else c::addK (keyB c::ks) m
def allK (l m:List Tw):List Tw:=l++addK (l.map keyB) m
def QaB (t:Yw) (m:Tw):Yw:=if Qbf t=false∨addK ((conj t.ref).map keyB) (conj m)=[] then t else .mk false t.sort (Qaw (allK (conj t.ref) (conj m))) [] []
mutual
theorem Qkl:∀ {t x:Tw},x∈conj t→conj x=[x]
 | .mk k n b d l,x,h=>by
  rw [conj] at h
  split at h
  · cases h
  · rename_i h1
    split at h
    · exact Ql2 h
    · rename_i h2
      cases List.mem_singleton.1 h
      rw [conj,if_neg h1,if_neg h2]
theorem Ql2:∀ {l:List Tw} {x:Tw},x∈Qa6 l→conj x=[x]
 | t::l,x,h=>by
  rw [Qa6,List.mem_append] at h
  exact h.elim (fun h=>Qkl h) fun h=>Ql2 h
end
theorem QgD:∀ {l:List Tw},(∀ x∈l,conj x=[x])→Qa6 l=l
 | [],_=>rfl
 | t::l,h=>by
  rw [Qa6,h t (List.mem_cons_self ..),QgD fun x hx=>h x (List.mem_cons_of_mem _ hx)]; rfl
theorem QmX:∀ {l:List Tw},(∀ x∈l,conj x=[x])→conj (Qaw l)=l
 | [],_=>by rw [Qaw,conj]; rfl
 | [x],h=>h x (List.mem_cons_self ..)
 | x::y::l,h=>by
  rw [Qaw,conj,if_neg (fun h=>by cases h.1),if_pos rfl,QgD h]
theorem Qh3:∀ {ks:List (List UInt8)} {m:List Tw} {x:Tw},x∈addK ks m→x∈m
 | ks,c::m,x,h=>by
  rw [addK] at h
  split at h
  · exact List.mem_cons_of_mem _ (Qh3 h)
  · rcases List.mem_cons.1 h with rfl | h
    · exact List.mem_cons_self ..
    · exact List.mem_cons_of_mem _ (Qh3 h)
theorem Qh5:∀ {m:List Tw} {ks:List (List UInt8)} {c:Tw},c∈m→keyB c∈ks∨keyB c∈(addK ks m).map keyB
 | d::m,ks,c,h=>by
  rw [addK]
  rcases List.mem_cons.1 h with rfl | h
  · by_cases hk:keyB c∈ks
    · exact .inl hk
    · rw [if_neg hk]; exact .inr (by simp)
  · split
    · exact Qh5 h
    · rename_i hk
      rcases Qh5 (ks:=keyB d::ks) h with h1 | h1
      · rcases List.mem_cons.1 h1 with h1 | h1
        · exact .inr (by rw [h1]; simp)
        · exact .inl h1
      · exact .inr (by rw [List.map_cons]; exact List.mem_cons_of_mem _ h1)
theorem Qjn:∀ {m:List Tw} {ks:List (List UInt8)},(∀ c∈m,keyB c∈ks)→addK ks m=[]
 | [],_,_=>rfl
 | c::m,ks,h=>by rw [addK,if_pos (h c (List.mem_cons_self ..)),Qjn fun x hx=>h x (List.mem_cons_of_mem _ hx)]
theorem QtZ {t m x:Tw} (h:x∈allK (conj t) (conj m)):conj x=[x]:=by
 rw [allK,List.mem_append] at h
 exact h.elim (fun h=>Qkl h) fun h=>Qkl (Qh3 h)
theorem Qb9 (t:Yw) (m:Tw):QaB t m=t∨(Qbf t=true∧QaB t m=.mk false t.sort (Qaw (allK (conj t.ref) (conj m))) [] []):=by
 unfold QaB
 split
 · exact .inl rfl
 · rename_i h
   exact .inr ⟨by cases hb:Qbf t with | true=>rfl | false=>exact absurd (.inl hb) h,rfl⟩
theorem Qd8 (t:Yw) (m:Tw):QaB (QaB t m) m=QaB t m:=by
 rcases Qb9 t m with h | ⟨hb,h⟩
 · rw [h,h]
 · rw [h]
   unfold QaB
   refine if_pos (Or.inr ?_)
   have h1:conj (Qaw (allK (conj t.ref) (conj m)))=allK (conj t.ref) (conj m):=QmX fun x hx=>QtZ hx
   show addK ((conj (Qaw (allK (conj t.ref) (conj m)))).map keyB) (conj m)=[]
   rw [h1]
   refine Qjn fun c hc=>?_
   rw [allK,List.map_append,List.mem_append]
   exact Qh5 hc
theorem QpB (s:ByteArray) (t:Tw):Qbf (.mk false s t [] [])=true:=rfl
theorem Qnq (t:Yw) (m:Tw):(QaB t m).fn=t.fn∧(QaB t m).sort=t.sort∧(QaB t m).params=t.params∧(QaB t m).result=t.result:=by
 rcases Qb9 t m with h | ⟨hb,h⟩
 · rw [h]; exact ⟨rfl,rfl,rfl,rfl⟩
 · rw [h]
   unfold Qbf at hb
   simp only [Bool.and_eq_true,Bool.not_eq_true',decide_eq_true_eq] at hb
   exact ⟨hb.1.symm,rfl,(List.length_eq_zero_iff.1 hb.2.1).symm,(List.length_eq_zero_iff.1 hb.2.2).symm⟩
mutual
noncomputable def alikeY:Yw→Yw→Bool
 | .mk f s t p r,u =>
  if Qbf (.mk f s t p r)=true∧Qbf u=true then decide (s=u.sort)
  else if funsY (.mk f s t p r)=true∧funsY u=true then decide (p.length=u.params.length) && (alikeP p u.params && alikeR r u.result)
  else false
noncomputable def alikeQ:ByteArray × Yw→Yw→Bool
 | (_,y),u=>alikeY y u
noncomputable def alikeP:List (ByteArray × Yw)→List (ByteArray × Yw)→Bool
 | x::l,y::m=>alikeQ x y.2 && alikeP l m
 | _,_=>true
noncomputable def alikeR:List Yw→List Yw→Bool
 | x::l,y::m=>alikeY x y
 | _,_=>true
end
theorem Qew {a b:Yw} (ha:Qbf a=true) (hb:Qbf b=true):alikeY a b=decide (a.sort=b.sort):=by
 cases a
 rw [alikeY,if_pos ⟨ha,hb⟩]
 rfl
theorem Qnf (t:Yw) (m:Tw):alikeY (QaB t m) t=alikeY t t∧alikeY t (QaB t m)=alikeY (QaB t m) t:=by
 rcases Qb9 t m with h | ⟨hb,h⟩
 · rw [h]; exact ⟨rfl,rfl⟩
 · rw [h,Qew (QpB _ _) hb,Qew hb hb,Qew hb (QpB _ _)]
   exact ⟨rfl,rfl⟩
end Go.Proofs.YtijfaigpilfpaaaGreatDoor
namespace Go.Proofs.YtijfaigpilfpaaaGreatDoor
open Go.RowKit
set_option linter.unusedVariables false
set_option maxRecDepth 100000
mutual
def Qa7:Tw→Bool
 | .mk k _ _ _ l=>!decide (k=14) && QcL l
def QcL:List Tw→Bool
 | []=>true
 | t::l=>Qa7 t && QcL l
end
def kapE (K:List Kap) (n:ByteArray) (l:List Tw):Except Int Tw:=match K.find? fun x=>decide (x.name=n) with
 | none=>.error 21
 | some x=>if x.params.length≠l.length then .error 24 else if Qa7 x.body=false then .error 23 else QaC (x.params.map Srt.name) l x.body
mutual
def expT (K:List Kap):Tw→Except Int Tw
 | .mk k n b d l=>match expL K l with
  | .error e=>.error e
  | .ok m=>if k=14 then kapE K n m else .ok (.mk k n b d m)
def expL (K:List Kap):List Tw→Except Int (List Tw)
 | []=>.ok []
 | t::l=>match expT K t with
  | .error e=>.error e
  | .ok u=>match expL K l with
   | .error e=>.error e
   | .ok m=>.ok (u::m)
end
def expE (K:List Kap) (t:Tw):Except Int Tw:=match expT K t with
 | .error e=>.error e
 | .ok u=>if u.size≤20000 then .ok u else .error 34
def QbR (D:List Dat) (s:ByteArray):Bool:=decide (s=bInt) || (decide (s=Qd4) || decide (0≤anyB D fun d=>decide (d.name=s)))
def nV:ByteArray:=⟨#[118]⟩
def QaF (D:List Dat) (K:List Kap) (S:List Srt) (y:Yw):Int:=if QbR D y.sort=false then 23 else match expE K y.ref with
 | .error e=>e
 | .ok t=>match QaK D (S++[⟨nV,y.sort⟩]) t with
  | .error e=>e
  | .ok s=>if s=Qd4 then 0 else 23
def Qca (seen:List ByteArray):List ByteArray→Bool
 | []=>false
 | s::l=>(seen.any fun x=>decide (x=s)) || Qca (seen++[s]) l
def Qdk (S:List Srt) (x:ByteArray × Yw):List Srt:=if x.2.fn=true then S else S++[⟨x.1,x.2.sort⟩]
mutual
noncomputable def formedY (D:List Dat) (K:List Kap):List Srt→Yw→Int
 | S,.mk f s t p r =>
  if Qbf (.mk f s t p r)=true then QaF D K S (.mk f s t p r)
  else if funsY (.mk f s t p r)=false then 30
  else if 6<p.length then 24
  else if Qca [] (p.map (·.1))=true then 22
  else match formedP D K S p with
   | .error e=>e
   | .ok S'=>formedR D K S' r
noncomputable def formedQ (D:List Dat) (K:List Kap):List Srt→ByteArray × Yw→Int
 | S,(_,y)=>formedY D K S y
noncomputable def formedP (D:List Dat) (K:List Kap):List Srt→List (ByteArray × Yw)→Except Int (List Srt)
 | S,[]=>.ok S
 | S,x::l=>if formedQ D K S x≠0 then .error (formedQ D K S x) else formedP D K (Qdk S x) l
noncomputable def formedR (D:List Dat) (K:List Kap):List Srt→List Yw→Int
 | _,[]=>0
 | S,y::_=>formedY D K S y
end
section
variable {D : List Dat} {K : List Kap} {S : List Srt} {m : Srt}
theorem Qek (S:List Srt) (x:ByteArray × Yw):formedQ D K S x=formedY D K S x.2:=by obtain ⟨s,y⟩:=x; rw [formedQ]
theorem QbM (S:List Srt) (y:Yw):formedY D K S y=if Qbf y=true then QaF D K S y
  else if funsY y=false then 30
  else if 6<y.params.length then 24
  else if Qca [] (y.params.map (·.1))=true then 22
  else match formedP D K S y.params with
   | .error e=>e
   | .ok S'=>formedR D K S' y.result:=by cases y; rw [formedY]; rfl
def scL (S:List Srt) (l:List (ByteArray × Yw)):List Srt:=l.foldl Qdk S
end
end Go.Proofs.YtijfaigpilfpaaaGreatDoor
