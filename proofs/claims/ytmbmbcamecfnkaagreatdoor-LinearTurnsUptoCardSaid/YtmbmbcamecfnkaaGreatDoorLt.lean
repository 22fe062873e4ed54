/- The plain law of LinearTurns: sums of two linears. -/
import Derived.Test.YtmbmbcamecfnkaaGreatDoorLq
namespace Go.Proofs.YtmbmbcamecfnkaaGreatDoor
open Go.RowKit
set_option linter.unusedVariables false
set_option maxRecDepth 100000
def sumI (x:Ln) (s:ByteArray):Nat→Int
 | 0=>0
 | k+1=>sumI x s k+if s=x.K.getD k Sh.str.nil then zV (zAt x.C k).1 (zAt x.C k).2.1 else 0
theorem QcA {A:Lz} {c:Rat} {x:Ln} (hA:canL A) (s:ByteArray):∀ k,valL (atL A c x k) s=valL A s+c * ((sumI x s k:Int):Rat)
 | 0=>by
  show valL A s=valL A s+c * ((0:Int):Rat)
  rw [Rat.intCast_zero,Rat.mul_zero,Rat.add_zero]
 | k+1=>by
  rw [atL,Qd5 s (QbW hA k),QcA hA s k,sumI]
  split
  · rw [Rat.intCast_add,Rat.mul_add,Rat.add_assoc]
  · rw [Int.add_zero,Rat.add_zero]
theorem QbU:canL []:=by unfold canL; trivial
theorem QoQ {x:Ln} {s:ByteArray} {P:Nat} (h:∀ j,(zV (zAt x.C j).1 (zAt x.C j).2.1).natAbs≤P):∀ k,(sumI x s k).natAbs≤k * P
 | 0=>by simp [sumI]
 | k+1=>by
  have h1:=QoQ (s:=s) h k
  have h2:=h k
  rw [sumI,Nat.succ_mul]
  split <;> omega
theorem zAt_le {x:Ln} {m:Nat} (h:∀ c∈x.C,c.2.1.length≤m∧∀ d∈c.2.1,d<4294967296) (j:Nat):(zV (zAt x.C j).1 (zAt x.C j).2.1).natAbs≤1000000000 ^ (m+1):=by
 by_cases hj:j<x.C.length
 · obtain ⟨h1,h2⟩:=h _ (gotD (false,[],0) hj)
   have:ZB (zV (zAt x.C j).1 (zAt x.C j).2.1) (m+1):=(Qge _ _ h2).mono (Nat.succ_le_succ h1)
   exact Nat.le_of_lt this
 · unfold zAt
   rw [List.getD_eq_getElem?_getD,List.getElem?_eq_none (by omega)]
   exact Nat.zero_le _
theorem Qid {x:Ln} {m k:Nat} (h:∀ c∈x.C,c.2.1.length≤m∧∀ d∈c.2.1,d<4294967296) (hk:k≤1000000) (s:ByteArray):ZB (sumI x s k) (m+2):=by
 have h1:=QoQ (s:=s) (zAt_le h) k
 unfold ZB
 refine Nat.lt_of_le_of_lt h1 ?_
 rw [show m+2=m+1+1 from rfl,Nat.pow_succ 1000000000 (m+1),Nat.mul_comm]
 exact Nat.mul_lt_mul_of_pos_left (by omega) (Nat.pow_pos (by omega))
theorem Qlq (r:Rat):r * ((r.den:Int):Rat)=(r.num:Rat):=by
 have h:((r.den:Int):Rat)≠0:=fun hc=>by
  have:=Rat.intCast_inj.1 (hc.trans Rat.intCast_zero.symm)
  have:=r.den_pos
  omega
 have e:=Rat.num_divInt_den r
 rw [Rat.divInt_eq_div] at e
 have e2:(r.num:Rat) / ((r.den:Int):Rat) * ((r.den:Int):Rat)=(r.num:Rat):=Rat.div_mul_cancel h
 rwa [e] at e2
theorem Qt9 {r:Rat} {x d:Int} {a b:Nat} (h:r * (d:Rat)=(x:Rat)) (hd:d≠0) (hx:ZB x a) (hb:ZB d b):ZB r.num a∧ZB r.den b:=by
 have h1:r.num * d=x * r.den:=by
  have e:((r.num * d:Int):Rat)=((x * r.den:Int):Rat):=by
   have hr:=Qlq r
   rw [Rat.intCast_mul,Rat.intCast_mul,← hr,← h]
   grind
  exact Rat.intCast_inj.1 e
 have hc:Nat.Coprime r.num.natAbs r.den:=r.reduced
 have h2:r.num.natAbs * d.natAbs=x.natAbs * r.den:=by
  have:=congrArg Int.natAbs h1
  rwa [Int.natAbs_mul,Int.natAbs_mul,Int.natAbs_natCast] at this
 obtain ⟨m,hm⟩:r.den ∣ d.natAbs:=hc.symm.dvd_of_dvd_mul_left ⟨x.natAbs,by rw [h2,Nat.mul_comm]⟩
 have hd0:0<d.natAbs:=Int.natAbs_pos.2 hd
 have hm0:0<m:=by
  rcases Nat.eq_zero_or_pos m with h | h
  · subst h; rw [hm,Nat.mul_zero] at hd0; exact absurd hd0 (Nat.lt_irrefl _)
  · exact h
 have hx2:x.natAbs=r.num.natAbs * m:=by
  have h3:(r.num.natAbs * m) * r.den=x.natAbs * r.den:=by rw [← h2,hm,Nat.mul_assoc,Nat.mul_comm m]
  exact (Nat.eq_of_mul_eq_mul_right r.den_pos h3).symm
 unfold ZB at *
 refine ⟨Nat.lt_of_le_of_lt ?_ hx,Nat.lt_of_le_of_lt ?_ hb⟩
 · rw [hx2]; exact Nat.le_mul_of_pos_right _ hm0
 · rw [Int.natAbs_natCast,hm]; exact Nat.le_mul_of_pos_right _ hm0
theorem QoE {p q:Rat} {s t:Int} {u v u' v' m m' n:Nat} (h1:ZB p.num u) (h2:ZB p.den v) (h3:ZB q.num u') (h4:ZB q.den v') (h5:ZB s m) (h6:ZB t m') (hn:u+v+u'+v'+m+m'+1≤n) :
  ZB (p * (s:Rat)+q * (t:Rat)).num n∧ZB (p * (s:Rat)+q * (t:Rat)).den n:=by
 have hp:p * ((p.den:Int):Rat)=(p.num:Rat):=Qlq p
 have hq:q * ((q.den:Int):Rat)=(q.num:Rat):=Qlq q
 have h:=Qt9 (r:=p * (s:Rat)+q * (t:Rat)) (x:=p.num * s * q.den+q.num * t * p.den) (d:=(p.den:Int) * q.den) (a:=u+m+v'+(u'+m'+v)+1) (b:=v+v') (by
  rw [Rat.intCast_add,Rat.intCast_mul,Rat.intCast_mul,Rat.intCast_mul,Rat.intCast_mul,Rat.intCast_mul,← hp,← hq]
  grind) (Int.mul_ne_zero (by have:=p.den_pos; omega) (by have:=q.den_pos; omega)) (((h1.mul h5).mul h4).add ((h3.mul h6).mul h2)) (h2.mul h4)
 exact ⟨h.1.mono (by omega),h.2.mono (by omega)⟩
theorem Qms {p:Rat} {s:Int} {u v m n:Nat} (h1:ZB p.num u) (h2:ZB p.den v) (h5:ZB s m) (hn:u+v+m+2≤n):ZB (p * (s:Rat)).num n∧ZB (p * (s:Rat)).den n:=by
 have:=QoE (q:=0) (t:=0) h1 h2 (ZB.zero 0) (show ZB ((0:Rat).den:Nat) 1 from ZB.one) h5 (ZB.zero 0) (show u+v+0+1+m+0+1≤n by omega)
 rwa [Rat.zero_mul,Rat.add_zero] at this
theorem Qf4 {A:Lz} {k:Nat} (hc:canL A) (h:∀ s,ZB (valL A s).num k∧ZB (valL A s).den k):fitL k A:=fun x hx=>by
 have:=h x.1
 rwa [Qeh hc x hx] at this
structure SmX (x:Ln) (m:Nat):Prop where
 C:∀ c∈x.C,c.2.1.length≤m∧∀ d∈c.2.1,d<4294967296
 l:x.l.length≤m∧∀ d∈x.l,d<4294967296
 K:x.K.length≤2000∧∀ s∈x.K,s.size≤100000
 k:x.k≤2100∧(∀ c∈x.C,c.2.2≤2100)∧x.C.length≤1000000
structure SmE (e:QE) (u v:Nat):Prop where
 z:ZB (ofE e).num u∧ZB (ofE e).den v
 k:e.1.2.2≤2100∧e.2.2.2≤2100
theorem Qi9:∀ {A:Lz} {s:ByteArray} {q:Rat},(addL A s q).length≤A.length+1
 | [],s,q=>by rw [addL]; split <;> simp
 | (k,v)::A,s,q=>by
  rw [addL]
  split
  · split <;> simp <;> omega
  · split
    · split <;> simp
    · have:=Qi9 (A:=A) (s:=s) (q:=q)
      simp; omega
theorem Qi5 {A:Lz} {c:Rat} {x:Ln}:∀ k,(atL A c x k).length≤A.length+k
 | 0=>Nat.le_refl _
 | k+1=>by
  have h1:=Qi5 (A:=A) (c:=c) (x:=x) k
  have h2:=Qi9 (A:=atL A c x k) (s:=x.K.getD k Sh.str.nil) (q:=c * ((zV (zAt x.C k).1 (zAt x.C k).2.1:Int):Rat))
  rw [atL]; omega
theorem Qhe {A:Lz} {c:Rat} {x:Ln}:∀ k,∀ y∈atL A c x k,y∈A∨y.1=Sh.str.nil∨y.1∈x.K∨∃ z∈A,z.1=y.1
 | 0,y,hy=>.inl hy
 | k+1,y,hy=>by
  rw [atL] at hy
  rcases Qgd hy with e | hy
  · by_cases hk:k<x.K.length
    · exact .inr (.inr (.inl (by rw [e]; exact gotD _ hk)))
    · refine .inr (.inl ?_)
      rw [e,List.getD_eq_getElem?_getD,List.getElem?_eq_none (by omega)]; rfl
  · exact Qhe k y hy
theorem fits2 {e f:QE} {x y:Ln} {u v u' v' m m':Nat} (he:SmE e u v) (hf:SmE f u' v') (hx:SmX x m) (hy:SmX y m') (hn:u+v+u'+v'+m+m'+20≤5000):FitS [e,f] [x,y]:=by
 have v1:∀ s k,valL (atL [] (ofE e) x k) s=ofE e * ((sumI x s k:Int):Rat):=fun s k=>by
  rw [QcA QbU s k]; exact Rat.zero_add _
 have c1:canL (atL [] (ofE e) x x.K.length):=QbW QbU _
 refine ⟨fun g hg=>?_,fun g hg=>?_,⟨by simp,by simp⟩,fun i k hi hk=>?_,fun i hi=>?_,?_,fun z hz=>?_⟩
 · rcases List.mem_cons.1 hg with rfl | hg
   · exact he.k
   · rw [List.mem_singleton.1 hg]; exact hf.k
 · rcases List.mem_cons.1 hg with rfl | hg
   · exact ⟨hx.k.1,hx.k.2.1,hx.k.2.2,by have:=hx.K.1; omega⟩
   · rw [List.mem_singleton.1 hg]; exact ⟨hy.k.1,hy.k.2.1,hy.k.2.2,by have:=hy.K.1; omega⟩
 · match i,hi with
   | 0,_ =>
    refine Qf4 (QbW QbU k) fun s=>?_
    show ZB (valL (atL [] (ofE e) x k) s).num _∧ZB (valL (atL [] (ofE e) x k) s).den _
    rw [v1]
    have hk:k≤x.K.length:=hk
    exact Qms he.z.1 he.z.2 (Qid hx.C (by have:=hx.K.1; omega) s) (by omega)
   | 1,_ =>
    refine Qf4 (QbW c1 k) fun s=>?_
    show ZB (valL (atL (atL [] (ofE e) x x.K.length) (ofE f) y k) s).num _∧ZB (valL (atL (atL [] (ofE e) x x.K.length) (ofE f) y k) s).den _
    rw [QcA c1,v1]
    have hk:k≤y.K.length:=hk
    exact QoE he.z.1 he.z.2 hf.z.1 hf.z.2 (Qid hx.C (by have:=hx.K.1; omega) s) (Qid hy.C (by have:=hy.K.1; omega) s) (by omega)
   | i+2,hi=>simp at hi; omega
 · have zx:ZB (zV x.n x.l) (m+1):=(Qge _ _ hx.l.2).mono (by have:=hx.l.1; omega)
   have zy:ZB (zV y.n y.l) (m'+1):=(Qge _ _ hy.l.2).mono (by have:=hy.l.1; omega)
   match i,hi with
   | 0,_=>exact ⟨ZB.zero _,ZB.one.mono (by omega)⟩
   | 1,_ =>
    show ZB (ofE e * ((zV x.n x.l:Int):Rat)+0).num _∧ZB (ofE e * ((zV x.n x.l:Int):Rat)+0).den _
    rw [Rat.add_zero]
    exact Qms he.z.1 he.z.2 zx (by omega)
   | 2,_ =>
    show ZB (ofE f * ((zV y.n y.l:Int):Rat)+(ofE e * ((zV x.n x.l:Int):Rat)+0)).num _∧ZB (ofE f * ((zV y.n y.l:Int):Rat)+(ofE e * ((zV x.n x.l:Int):Rat)+0)).den _
    rw [Rat.add_zero]
    exact QoE hf.z.1 hf.z.2 he.z.1 he.z.2 zy zx (by omega)
   | i+3,hi=>simp at hi
 · have h1:=Qi5 (A:=[]) (c:=ofE e) (x:=x) x.K.length
   have h2:=Qi5 (A:=atL [] (ofE e) x x.K.length) (c:=ofE f) (x:=y) y.K.length
   have:=hx.K.1
   have:=hy.K.1
   show (atL (atL [] (ofE e) x x.K.length) (ofE f) y y.K.length).length≤_
   simp at h1
   omega
 · have hz:z∈atL (atL [] (ofE e) x x.K.length) (ofE f) y y.K.length:=hz
   have key:z.1=Sh.str.nil∨z.1∈x.K∨z.1∈y.K:=by
    rcases Qhe _ z hz with h | h | h | ⟨w,hw,e⟩
    · rcases Qhe _ z h with h | h | h | ⟨w,hw,e⟩
      · cases h
      · exact .inl h
      · exact .inr (.inl h)
      · cases hw
    · exact .inl h
    · exact .inr (.inr h)
    · rcases Qhe _ w hw with h | h | h | ⟨w,hw,e⟩
      · cases h
      · exact .inl (by rw [← e]; exact h)
      · exact .inr (.inl (by rw [← e]; exact h))
      · cases hw
   unfold maxLen
   rcases key with h | h | h
   · rw [h]; decide
   · have:=hx.K.2 _ h; omega
   · have:=hy.K.2 _ h; omega
theorem fits1 {e:QE} {x:Ln} {u v m:Nat} (he:SmE e u v) (hx:SmX x m) (hn:u+v+m+20≤5000):FitS [e] [x]:=by
 have v1:∀ s k,valL (atL [] (ofE e) x k) s=ofE e * ((sumI x s k:Int):Rat):=fun s k=>by
  rw [QcA QbU s k]; exact Rat.zero_add _
 refine ⟨fun g hg=>?_,fun g hg=>?_,⟨by simp,by simp⟩,fun i k hi hk=>?_,fun i hi=>?_,?_,fun z hz=>?_⟩
 · rw [List.mem_singleton.1 hg]; exact he.k
 · rw [List.mem_singleton.1 hg]; exact ⟨hx.k.1,hx.k.2.1,hx.k.2.2,by have:=hx.K.1; omega⟩
 · match i,hi with
   | 0,_ =>
    refine Qf4 (QbW QbU k) fun s=>?_
    show ZB (valL (atL [] (ofE e) x k) s).num _∧ZB (valL (atL [] (ofE e) x k) s).den _
    rw [v1]
    have hk:k≤x.K.length:=hk
    exact Qms he.z.1 he.z.2 (Qid hx.C (by have:=hx.K.1; omega) s) (by omega)
   | i+1,hi=>simp at hi
 · have zx:ZB (zV x.n x.l) (m+1):=(Qge _ _ hx.l.2).mono (by have:=hx.l.1; omega)
   match i,hi with
   | 0,_=>exact ⟨ZB.zero _,ZB.one.mono (by omega)⟩
   | 1,_ =>
    show ZB (ofE e * ((zV x.n x.l:Int):Rat)+0).num _∧ZB (ofE e * ((zV x.n x.l:Int):Rat)+0).den _
    rw [Rat.add_zero]
    exact Qms he.z.1 he.z.2 zx (by omega)
   | i+2,hi=>simp at hi
 · have h1:=Qi5 (A:=[]) (c:=ofE e) (x:=x) x.K.length
   have:=hx.K.1
   show (atL [] (ofE e) x x.K.length).length≤_
   simp at h1
   omega
 · have hz:z∈atL [] (ofE e) x x.K.length:=hz
   unfold maxLen
   rcases Qhe _ z hz with h | h | h | ⟨w,hw,e⟩
   · cases h
   · rw [h]; decide
   · have:=hx.K.2 _ h; omega
   · cases hw
theorem QoR {e f:QE} {x y:Ln}:sumF [e,f] [x,y]=sumF [f,e] [y,x]:=by
 have hR:(([e,f]:List QE).length=[x,y].length∧allR [e,f] [x,y] [x,y].length)↔(([f,e]:List QE).length=[y,x].length∧allR [f,e] [y,x] [y,x].length):=by
  constructor
  · rintro ⟨-,h⟩
    exact ⟨rfl,fun j hj=>match j,hj with
     | 0,_=>h 1 (by simp)
     | 1,_=>h 0 (by simp)
     | j+2,hj=>by simp at hj; omega⟩
  · rintro ⟨-,h⟩
    exact ⟨rfl,fun j hj=>match j,hj with
     | 0,_=>h 1 (by simp)
     | 1,_=>h 0 (by simp)
     | j+2,hj=>by simp at hj; omega⟩
 by_cases h:([e,f]:List QE).length=[x,y].length∧allR [e,f] [x,y] [x,y].length
 · rw [Qck h,Qck (hR.1 h)]
   have e1:Qa2 [e,f] [x,y] 2=Qa2 [f,e] [y,x] 2:=by
    refine Qmz (Qcj 2) (Qcj 2) fun s=>?_
    show valL (atL (atL [] (ofE e) x x.K.length) (ofE f) y y.K.length) s=valL (atL (atL [] (ofE f) y y.K.length) (ofE e) x x.K.length) s
    rw [QcA (QbW QbU _),QcA QbU,QcA (QbW QbU _),QcA QbU]
    grind
   have e2:QaD [e,f] [x,y] 2=QaD [f,e] [y,x] 2:=by
    show ofE f * _+(ofE e * _+0)=ofE e * _+(ofE f * _+0)
    rw [Rat.add_zero,Rat.add_zero]
    exact Rat.add_comm _ _
   show some (Qa2 [e,f] [x,y] 2,QaD [e,f] [x,y] 2)=some (Qa2 [f,e] [y,x] 2,QaD [f,e] [y,x] 2)
   rw [e1,e2]
 · rw [Qfa h,Qfa fun hc=>h (hR.2 hc)]
theorem Qhx (e f:QE) (x y:Ln):(sumF [e,f] [x,y]).isSome=(Qcn x && (Qcn y && (QeA e && QeA f))):=by
 by_cases h:([e,f]:List QE).length=[x,y].length∧allR [e,f] [x,y] [x,y].length
 · rw [Qck h]
   have h0:=h.2 0 (by simp)
   have h1:=h.2 1 (by simp)
   have a0:QeA e=true:=h0.1
   have a1:Qcn x=true:=h0.2
   have a2:QeA f=true:=h1.1
   have a3:Qcn y=true:=h1.2
   rw [a0,a1,a2,a3]; rfl
 · rw [Qfa h]
   refine Eq.symm (Bool.eq_false_iff.2 fun hc=>h ⟨rfl,?_⟩)
   simp only [Bool.and_eq_true] at hc
   obtain ⟨c1,c2,c3,c4⟩:=hc
   exact fun j hj=>match j,hj with
    | 0,_=>⟨c3,c1⟩
    | 1,_=>⟨c4,c2⟩
    | j+2,hj=>by simp at hj; omega
theorem QoS {e f:QE} {x:Ln} (he:QeA e=true) (hf:QeA f=true) (hx:Qcn x=true) (h:ofE f=-ofE e):sumF [e,f] [x,x]=some ([],0):=by
 have h1:=Qhx e f x x
 rw [he,hf,hx] at h1
 have hy:([e,f]:List QE).length=[x,x].length∧allR [e,f] [x,x] [x,x].length:=by
  refine Classical.byContradiction fun hc=>?_
  rw [Qfa hc] at h1; cases h1
 rw [Qck hy]
 have e1:Qa2 [e,f] [x,x] 2=[]:=by
  refine Qmz (Qcj 2) QbU fun s=>?_
  show valL (atL (atL [] (ofE e) x x.K.length) (ofE f) x x.K.length) s=0
  rw [QcA (QbW QbU _),QcA QbU,h]
  show (0:Rat)+_+_=0
  grind
 have e2:QaD [e,f] [x,x] 2=0:=by
  show ofE f * ((zV x.n x.l:Int):Rat)+(ofE e * ((zV x.n x.l:Int):Rat)+0)=0
  rw [h]
  generalize ((zV x.n x.l:Int):Rat)=q
  grind
 show some (Qa2 [e,f] [x,x] 2,QaD [e,f] [x,x] 2)=_
 rw [e1,e2]
theorem Qkp:∀ {A:Lz} {s:ByteArray} {q:Rat},(∀ x∈A,bs x.1<bs s)→q≠0→addL A s q=A++[(s,q)]
 | [],s,q,_,hq=>by rw [addL,if_neg hq]; rfl
 | (k,v)::A,s,q,h,hq=>by
  have hk:=h (k,v) (List.mem_cons_self ..)
  have h1:s≠k:=fun e=>by subst e; exact List.lt_irrefl _ hk
  have h2:¬ bs s<bs k:=fun e=>List.lt_irrefl _ (List.lt_trans e hk)
  rw [addL,if_neg h1,if_neg h2,Qkp (fun x hx=>h x (List.mem_cons_of_mem _ hx)) hq]; rfl
theorem Qrg {K:List ByteArray} (h:QhF K=true) {i j:Nat} (hij:i<j) (hj:j<K.length):bs (K.getD i Sh.str.nil)<bs (K.getD j Sh.str.nil):=by
 induction j with
 | zero=>omega
 | succ j ih =>
  have h1:=QgC.1 h j hj
  by_cases hc:i=j
  · subst hc; exact h1
  · exact List.lt_trans (ih (by omega) (by omega)) h1
theorem Qfw {x:Ln} (h:Qcn x=true):QhF x.K=true∧x.K.length=x.C.length∧Qak x.n x.l=true∧∀ k,k<x.C.length→Qak (zAt x.C k).1 (zAt x.C k).2.1=true∧zV (zAt x.C k).1 (zAt x.C k).2.1≠0:=by
 unfold Qcn QaX at h
 simp only [Bool.and_eq_true,decide_eq_true_eq,Bool.not_eq_true'] at h
 refine ⟨h.1,h.2.1,h.2.2.1,fun k hk=>?_⟩
 have h1:=List.any_eq_false.1 h.2.2.2 _ (gotD (false,[],0) hk)
 unfold oddZ at h1
 simp only [Bool.or_eq_true,not_or,Bool.not_eq_true',Bool.not_eq_false,decide_eq_true_eq] at h1
 refine ⟨h1.1,fun h0=>h1.2 ?_⟩
 have h2:=(QkQ h1.1).2
 have h3:(zAt x.C k).2.1=digs 1000000000 (zV (zAt x.C k).1 (zAt x.C k).2.1).natAbs:=h2
 rw [h0] at h3
 show (zAt x.C k).2.1.length=0
 rw [h3]; rfl
def QfC (x:Ln) (k:Nat):Lz:=(List.range k).map fun i=>(x.K.getD i Sh.str.nil,((zV (zAt x.C i).1 (zAt x.C i).2.1:Int):Rat))
theorem QqL {x:Ln} (h:Qcn x=true):∀ k,k≤x.K.length→atL [] 1 x k=QfC x k
 | 0,_=>rfl
 | k+1,hk=>by
  obtain ⟨h1,h2,h3,h4⟩:=Qfw h
  have hq:=(h4 k (by omega)).2
  rw [atL,QqL h k (by omega),Rat.one_mul,Qkp (fun y hy=>?_) (fun hc=>hq (Rat.intCast_inj.1 hc))]
  · unfold QfC
    rw [List.range_succ,List.map_append]; rfl
  · obtain ⟨i,hi,rfl⟩:=List.mem_map.1 hy
    exact Qrg h1 (List.mem_range.1 hi) (by omega)
theorem Qq3 {e:QE} {x:Ln} (he:QeA e=true) (h1:ofE e=1) (hx:Qcn x=true):sumF [e] [x]=some (QfC x x.K.length,((zV x.n x.l:Int):Rat)):=by
 rw [Qck ⟨rfl,fun j hj=>match j,hj with
  | 0,_=>⟨he,hx⟩
  | j+1,hj=>by simp at hj⟩]
 show some (atL [] (ofE e) x x.K.length,ofE e * ((zV x.n x.l:Int):Rat)+0)=_
 rw [h1,QqL hx _ (Nat.le_refl _),Rat.one_mul,Rat.add_zero]
theorem Qom (x:Ln):(QfC x x.K.length).map (·.1)=x.K:=by
 unfold QfC
 rw [List.map_map]
 refine List.ext_getElem (by simp) fun i h1 h2=>?_
 simp
 rw [List.getElem?_eq_getElem h2]; rfl
theorem Qsi {x:Ln} {i:Nat} (hi:i<x.K.length):qAt ((QfC x x.K.length).map fun y=>rawE 5000 y.2) i=rawE 5000 ((zV (zAt x.C i).1 (zAt x.C i).2.1:Int):Rat):=by
 unfold qAt QfC
 rw [List.getD_eq_getElem?_getD,List.getElem?_map,List.getElem?_map,List.getElem?_range hi]; rfl
theorem Qm4 {m S:Nat}:∀ {K:List ByteArray} {n:Nat},(∀ s∈K,s.size / 8≤S)→cap6K m n K≤max n (m+1+S)
 | [],n,_=>Nat.le_max_left _ _
 | s::K,n,h=>by
  rw [cap6K]
  split
  · have h1:=h s (List.mem_cons_self ..)
    have h2:=Qm4 (m:=m) (S:=S) (K:=K) (n:=n+1+s.size / 8) fun x hx=>h x (List.mem_cons_of_mem _ hx)
    omega
  · exact Nat.le_max_left _ _
theorem Qm6 {m S:Nat}:∀ {C:List Ze} {n:Nat},(∀ c∈C,1+c.2.1.length≤S)→cap6C m n C≤max n (m+S)
 | [],n,_=>Nat.le_max_left _ _
 | c::C,n,h=>by
  rw [cap6C]
  split
  · have h1:=h c (List.mem_cons_self ..)
    have h2:=Qm6 (m:=m) (S:=S) (C:=C) (n:=n+(1+c.2.1.length)) fun x hx=>h x (List.mem_cons_of_mem _ hx)
    omega
  · exact Nat.le_max_left _ _
theorem Qm5 {m:Nat}:∀ {K:List ByteArray} {n:Nat},cap6K m n K≤m→n+K.length≤cap6K m n K∧∀ s∈K,n+s.size / 8≤cap6K m n K
 | [],n,h=>⟨Nat.le_refl _,fun s hs=>nomatch hs⟩
 | s::K,n,h=>by
  rw [cap6K] at h ⊢
  split at h
  · rename_i h0
    rw [if_pos h0]
    obtain ⟨h1,h2⟩:=Qm5 (K:=K) h
    refine ⟨by rw [List.length_cons]; omega,fun x hx=>?_⟩
    rcases List.mem_cons.1 hx with rfl | hx
    · omega
    · have:=h2 x hx; omega
  · omega
theorem Qm7 {m:Nat}:∀ {C:List Ze} {n:Nat},cap6C m n C≤m→n+C.length≤cap6C m n C∧∀ c∈C,n+c.2.1.length≤cap6C m n C
 | [],n,h=>⟨Nat.le_refl _,fun s hs=>nomatch hs⟩
 | c::C,n,h=>by
  rw [cap6C] at h ⊢
  split at h
  · rename_i h0
    rw [if_pos h0]
    obtain ⟨h1,h2⟩:=Qm7 (C:=C) h
    refine ⟨by rw [List.length_cons]; omega,fun x hx=>?_⟩
    rcases List.mem_cons.1 hx with rfl | hx
    · omega
    · have:=h2 x hx; omega
  · omega
theorem QsM {x:Ln} (h:FitN x):Qc2 2000 x≤1252921504606846976:=by
 have h1:=Qm4 (m:=2000) (S:=576460752303423488) (K:=x.K) (n:=1+x.l.length) fun s hs=>by have:=h.K.2 s hs; omega
 have h2:=Qm6 (m:=2000) (S:=1000000001) (C:=x.C) (n:=cap6K 2000 (1+x.l.length) x.K) fun c hc=>by have:=h.C.2 c hc; omega
 have h3:=h.l
 unfold Qc2
 omega
theorem Qg7 {x:Ln} (h:Qc2 2000 x≤2000):x.l.length≤Qc2 2000 x∧(x.K.length≤2000∧∀ s∈x.K,s.size≤100000)∧x.C.length≤2000∧∀ c∈x.C,c.2.1.length≤Qc2 2000 x:=by
 unfold Qc2 at *
 obtain ⟨h1,h2⟩:=Qm7 h
 obtain ⟨h3,h4⟩:=Qm5 (m:=2000) (K:=x.K) (n:=1+x.l.length) (by omega)
 exact ⟨by omega,⟨by omega,fun s hs=>by have:=h4 s hs; omega⟩,by omega,fun c hc=>by have:=h2 c hc; omega⟩
theorem Qo2 {x:Ln} (h:Qc2 2000 x≤2000) (hC:∀ c∈x.C,∀ d∈c.2.1,d<4294967296) (hl:∀ d∈x.l,d<4294967296) (hk:x.k=x.l.length∧∀ c∈x.C,c.2.2=c.2.1.length):SmX x (Qc2 2000 x):=by
 obtain ⟨h1,h2,h3,h4⟩:=Qg7 h
 exact ⟨fun c hc=>⟨h4 c hc,hC c hc⟩,⟨h1,hl⟩,h2,by rw [hk.1]; omega,fun c hc=>by rw [hk.2 c hc]; have:=h4 c hc; omega,by omega⟩
theorem Qo3 {a c:Bool} {b d:List Nat} {j i:Nat} (hb:∀ x∈b,x<4294967296) (hd:∀ x∈d,x<4294967296) (hj:j≤2100) (hi:i≤2100):SmE ((a,b,j),(c,d,i)) (b.length+1) (d.length+1):=by
 refine ⟨?_,hj,hi⟩
 show ZB (Qaw a b c d).num _∧ZB ((Qaw a b c d).den:Int) _
 cases h:Qa7 a b c d with
 | true =>
  obtain ⟨h1,h2⟩:=Qjk h
  rw [h1,h2]
  exact ⟨(Qge _ _ hb).mono (by omega),(Qge _ _ hd).mono (by omega)⟩
 | false =>
  rw [Qib h]
  exact ⟨ZB.zero _,ZB.one.mono (by omega)⟩
theorem Qtk {e:QE} {q:Rat} {u v j i:Nat} (h:SmE e u v) (hq:q=-ofE e) (hj:j≤2100) (hi:i≤2100):SmE ((zNeg q.num,digs 1000000000 q.num.natAbs,j),(zNeg (q.den:Int),digs 1000000000 (q.den:Int).natAbs,i)) u v:=by
 refine ⟨?_,hj,hi⟩
 have e1:ofE ((zNeg q.num,digs 1000000000 q.num.natAbs,j),(zNeg (q.den:Int),digs 1000000000 (q.den:Int).natAbs,i))=q:=Qaz q
 rw [e1,hq,Rat.neg_num,Rat.neg_den]
 exact ⟨h.z.1.neg,h.z.2⟩
theorem QtG {Q:List QE} {X:List Ln} (h:FitS Q X):(Qbh (sumF Q X)).length≤1000000∧∀ e∈Qbh (sumF Q X),e.1.2.2≤100000∧e.2.2.2≤100000:=by
 by_cases hc:Q.length=X.length∧allR Q X X.length
 · rw [Qck hc]
   refine ⟨by rw [Qbh,List.length_map]; exact h.key.1,fun e he=>?_⟩
   obtain ⟨y,-,rfl⟩:=List.mem_map.1 he
   exact ⟨by show 5000≤100000; decide,by show 5000≤100000; decide⟩
 · rw [Qfa hc]
   exact ⟨Nat.zero_le _,fun e he=>nomatch he⟩
theorem Qsz (z:Option (Lz × Rat)):(Qcb z).length=(Qbh z).length:=by
 cases z with
 | none=>rfl
 | some p=>simp [Qcb,Qbh]
theorem QnC (e:QE):QkE e e=true:=by
 unfold QkE eqB
 simp
theorem QkB (A:List QE):Qgs A A=true:=decide_eq_true ⟨rfl,fun j _=>QnC _⟩
theorem QjJ {z:Option (Lz × Rat)} (h:z.isSome=false):(((Qcb z).length:Int)==0)=true:=by
 cases z with
 | none=>rfl
 | some p=>cases h
theorem Qm1 (z:Int):(cmpI z z==0)=true:=by rw [Qf9]; exact decide_eq_true rfl
theorem bad_a {x y:Bool} (h:x=y) (hb:(!(x==y))=true):False:=by subst h; cases x <;> cases hb
theorem bad_b {x:Bool} (h:x=true) (hb:(!x)=true):False:=by subst h; cases hb
theorem bad_l {m n:Nat} (h:m=n) (hb:((m:Int) != (n:Int))=true):False:=by subst h; simp at hb
theorem bad_q {a b:Bool} {l m:List Nat} (hb:(!((a==a && eqB l l) && (b==b && eqB m m)))=true):False:=by simp [eqB] at hb
theorem QsN {z w:Int} (h:z=w) (hb:(cmpI z w != 0)=true):False:=by
 subst h
 have:=Qm1 z
 simp only [bne,this] at hb
 cases hb
end Go.Proofs.YtmbmbcamecfnkaaGreatDoor
