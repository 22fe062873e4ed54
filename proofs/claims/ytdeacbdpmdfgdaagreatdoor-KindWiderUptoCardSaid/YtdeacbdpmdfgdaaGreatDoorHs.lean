/- KindWider: a scope with one more name ahead; a type's parts in their own scopes. -/
import Derived.Test.YtdeacbdpmdfgdaaGreatDoorHp
import Derived.Test.YtdeacbdpmdfgdaaGreatDoorCn
import Derived.Test.YtdeacbdpmdfgdaaGreatDoorHe
set_option linter.unusedSimpArgs false
namespace Go.Proofs.YtdeacbdpmdfgdaaGreatDoor
open Go.RowKit
set_option linter.unusedVariables false
set_option maxRecDepth 100000
mutual
def cntY:Yw→Nat
 | .mk _ _ t p r=>1+cntT t+cntP p+QaF r
def cntQ:ByteArray × Yw→Nat
 | (_,y)=>1+cntY y
def cntP:List (ByteArray × Yw)→Nat
 | []=>0
 | x::l=>cntQ x+cntP l
def QaF:List Yw→Nat
 | []=>0
 | y::l=>cntY y+QaF l
end
mutual
def capY:Int→Yw→Int
 | m,.mk _ _ t p r=>if 1+capT m t≤m then (if 1+capT m t+capP (m - (1+capT m t)) p≤m then 1+capT m t+capP (m - (1+capT m t)) p+QaD (m - (1+capT m t+capP (m - (1+capT m t)) p)) r else 1+capT m t+capP (m - (1+capT m t)) p) else 1+capT m t
def capQ:Int→ByteArray × Yw→Int
 | m,(_,y)=>1+capY m y
def capP:Int→List (ByteArray × Yw)→Int
 | _,[]=>0
 | m,x::l=>if 0≤m then capQ m x+capP (m - capQ m x) l else 0
def QaD:Int→List Yw→Int
 | _,[]=>0
 | m,y::l=>if 0≤m then capY m y+QaD (m - capY m y) l else 0
end
theorem QrG (y:Yw):cntY y=1+cntT y.ref+cntP y.params+QaF y.result:=by cases y; rw [cntY]; rfl
theorem QrI (x:ByteArray × Yw):cntQ x=1+cntY x.2:=by obtain ⟨s,y⟩:=x; rw [cntQ]
theorem QrQ (m:Int) (x:ByteArray × Yw):capQ m x=1+capY m x.2:=by obtain ⟨s,y⟩:=x; rw [capQ]
theorem capY_1 {m:Int} {y:Yw} (h:¬ 1+capT m y.ref≤m):capY m y=1+capT m y.ref:=by
 obtain ⟨f,s,t,p,r⟩:=y
 rw [capY]
 exact if_neg h
theorem capY_2 {m:Int} {y:Yw} (h:1+capT m y.ref≤m) (h1:¬ 1+capT m y.ref+capP (m - (1+capT m y.ref)) y.params≤m):capY m y=1+capT m y.ref+capP (m - (1+capT m y.ref)) y.params:=by
 obtain ⟨f,s,t,p,r⟩:=y
 rw [capY]
 exact (if_pos h).trans (if_neg h1)
theorem capY_3 {m:Int} {y:Yw} (h:1+capT m y.ref≤m) (h1:1+capT m y.ref+capP (m - (1+capT m y.ref)) y.params≤m):capY m y=1+capT m y.ref+capP (m - (1+capT m y.ref)) y.params+QaD (m - (1+capT m y.ref+capP (m - (1+capT m y.ref)) y.params)) y.result:=by
 obtain ⟨f,s,t,p,r⟩:=y
 rw [capY]
 exact (if_pos h).trans (if_pos h1)
theorem QrO {m a:Int} {y:Yw} (ha:a=capT m y.ref) (h:¬ 1+a≤m):capY m y=1+a:=by
 subst ha
 exact capY_1 h
theorem QrN {m a b m1:Int} {y:Yw} (ha:a=capT m y.ref) (h:1+a≤m) (hm1:m1=m - (1+a)) (hb:b=capP m1 y.params) (h1:¬ 1+a+b≤m):capY m y=1+a+b:=by
 subst ha hm1 hb
 exact capY_2 h h1
theorem QrM {m a b c m1 m2:Int} {y:Yw} (ha:a=capT m y.ref) (h:1+a≤m) (hm1:m1=m - (1+a)) (hb:b=capP m1 y.params) (h1:1+a+b≤m) (hm2:m2=m - (1+a+b)) (hc:c=QaD m2 y.result):capY m y=1+a+b+c:=by
 subst ha hm1 hb hm2 hc
 exact capY_3 h h1
mutual
theorem Qhs:∀ (y:Yw) (m:Int),1≤capY m y∧capY m y≤cntY y
 | .mk f s t p r,m=>by
  have h0:=Qcf t m
  have h1:=Qhu p (m - (1+capT m t))
  have h2:=QfO r (m - (1+capT m t+capP (m - (1+capT m t)) p))
  rw [capY,cntY]
  split
  · split <;> omega
  · omega
theorem QpQ:∀ (x:ByteArray × Yw) (m:Int),1≤capQ m x∧capQ m x≤cntQ x
 | (s,y),m=>by
  have h0:=Qhs y m
  rw [capQ,cntQ]
  omega
theorem Qhu:∀ (l:List (ByteArray × Yw)) (m:Int),0≤capP m l∧capP m l≤cntP l
 | [],m=>by rw [capP,cntP]; exact ⟨Int.le_refl _,Int.le_refl _⟩
 | x::l,m=>by
  have h1:=QpQ x m
  have h2:=Qhu l (m - capQ m x)
  rw [capP,cntP]
  split <;> omega
theorem QfO:∀ (l:List Yw) (m:Int),0≤QaD m l∧QaD m l≤QaF l
 | [],m=>by rw [QaD,QaF]; exact ⟨Int.le_refl _,Int.le_refl _⟩
 | x::l,m=>by
  have h1:=Qhs x m
  have h2:=QfO l (m - capY m x)
  rw [QaD,QaF]
  split <;> omega
end
theorem Qfz {α:Type} {l:List α} {i:Nat} (d:α) (h:i<l.length):l.drop i=l.getD i d::l.drop (i+1):=by
 rw [List.drop_eq_getElem_cons h,List.getD_eq_getElem?_getD,List.getElem?_eq_getElem h]; rfl
theorem Qht {l:List Yw} {i:Nat} {m n:Int} (h:QaD m l=n+QaD (m - n) (l.drop i)) (hi:i<l.length) (hm:n≤m) {c:Int} (hc:c=n+capY (m - n) (l.getD i Sh.ty.nil)):QaD m l=c+QaD (m - c) (l.drop (i+1)):=by
 have e:=h
 rw [Qfz Sh.ty.nil hi,QaD,if_pos (by omega)] at e
 rw [e,hc,Int.add_assoc,show m - n - capY (m - n) (l.getD i Sh.ty.nil)=m - (n+capY (m - n) (l.getD i Sh.ty.nil)) by omega]
theorem Qgy {l:List Yw} {i:Nat} {m n:Int} (h:QaD m l=n+QaD (m - n) (l.drop i)) (hi:¬ i<l.length∨¬ n≤m):QaD m l=n:=by
 rw [h]
 rcases hi with hi | hi
 · rw [List.drop_eq_nil_of_le (by omega),QaD]; omega
 · cases l.drop i with
   | nil=>rw [QaD]; omega
   | cons t r=>rw [QaD,if_neg (by omega)]; omega
theorem QrR {l:List (ByteArray × Yw)} {i:Nat} {m n:Int} (h:capP m l=n+capP (m - n) (l.drop i)) (hi:i<l.length) (hm:n≤m) {c:Int} (hc:c=n+capQ (m - n) (l.getD i Sh.prm.nil)):capP m l=c+capP (m - c) (l.drop (i+1)):=by
 have e:=h
 rw [Qfz Sh.prm.nil hi,capP,if_pos (by omega)] at e
 rw [e,hc,Int.add_assoc,show m - n - capQ (m - n) (l.getD i Sh.prm.nil)=m - (n+capQ (m - n) (l.getD i Sh.prm.nil)) by omega]
theorem QiB {l:List (ByteArray × Yw)} {i:Nat} {m n:Int} (h:capP m l=n+capP (m - n) (l.drop i)) (hi:¬ i<l.length∨¬ n≤m):capP m l=n:=by
 rw [h]
 rcases hi with hi | hi
 · rw [List.drop_eq_nil_of_le (by omega),capP]; omega
 · cases l.drop i with
   | nil=>rw [capP]; omega
   | cons t r=>rw [capP,if_neg (by omega)]; omega
theorem QfI:∀ l m:List Yw,QaF (l++m)=QaF l+QaF m
 | [],m=>by rw [List.nil_append,QaF,Nat.zero_add]
 | t::l,m=>by rw [List.cons_append,QaF,QaF,QfI l m,Nat.add_assoc]
theorem QlX (l:List Yw) (i:Nat):QaF (l.take i)≤QaF l:=by
 have:=QfI (l.take i) (l.drop i)
 rw [List.take_append_drop] at this
 omega
theorem QlY {l:List Yw} {i:Nat} (h:i<l.length):QaF (l.take (i+1))=QaF (l.take i)+cntY (l.getD i Sh.ty.nil):=by
 rw [List.take_add_one,QfI,List.getElem?_eq_getElem h,List.getD_eq_getElem?_getD,List.getElem?_eq_getElem h]
 simp only [Option.toList_some,Option.getD_some,QaF,Nat.add_zero]
theorem Qho:∀ l m:List (ByteArray × Yw),cntP (l++m)=cntP l+cntP m
 | [],m=>by rw [List.nil_append,cntP,Nat.zero_add]
 | t::l,m=>by rw [List.cons_append,cntP,cntP,Qho l m,Nat.add_assoc]
theorem Qn5 (l:List (ByteArray × Yw)) (i:Nat):cntP (l.take i)≤cntP l:=by
 have:=Qho (l.take i) (l.drop i)
 rw [List.take_append_drop] at this
 omega
theorem Qn6 {l:List (ByteArray × Yw)} {i:Nat} (h:i<l.length):cntP (l.take (i+1))=cntP (l.take i)+cntQ (l.getD i Sh.prm.nil):=by
 rw [List.take_add_one,Qho,List.getElem?_eq_getElem h,List.getD_eq_getElem?_getD,List.getElem?_eq_getElem h]
 simp only [Option.toList_some,Option.getD_some,cntP,Nat.add_zero]
theorem Qoe {m:Int} {y:Yw} (h:0≤m):QaD m [y]=capY m y:=by
 rw [QaD,if_pos h,QaD]; omega
noncomputable def sTypesN (n:Nat):Spec
 | [.f (.dt .ty l),.f (.v (.int .i64 m))]=>some (some (2 * szY l+1<n∧QaF l≤4000000∧0≤m∧m≤4000000),.nm Int (QaD m l) iV)
 | _=>none
noncomputable def sParamsN (n:Nat):Spec
 | [.f (.dt .prm l),.f (.v (.int .i64 m))]=>some (some (2 * szP l+2<n∧cntP l≤4000000∧0≤m∧m≤4000000),.nm Int (capP m l) iV)
 | _=>none
set_option maxHeartbeats 8000000 in
theorem Qhx {E:Env} (hU:Up E):∀ n,Contract Tryz.prog E 19 (sTypesN n)∧Contract Tryz.prog E 41 (sParamsN n)
 | 0=>by
  refine ⟨fun xs p r hs hp=>?_,fun xs p r hs hp=>?_⟩
  · unfold sTypesN at hs
    split at hs
    · cases hs
      exact absurd (hp _ rfl).1 (Nat.not_lt_zero _)
    · cases hs
  · unfold sParamsN at hs
    split at hs
    · cases hs
      exact absurd (hp _ rfl).1 (Nat.not_lt_zero _)
    · cases hs
 | n+1=>by
  refine ⟨?_,?_⟩
  · refine Qad [(40,QcR 9000000),(41,sParamsN n),(19,sTypesN n)] [] Tryz.ntmps19 Tryz.func19 (by kernel_rfl) (by kernel_rfl) hU ⟨(Qok hU 9000000).1,(Qhx hU n).2,(Qhx hU n).1,trivial⟩ trivial ?_
    intro xs p r hs hp
    unfold sTypesN at hs
    split at hs
    · rename_i l m
      cases hs
      obtain ⟨hn,hc,hm0,hm⟩:=hp _ rfl
      refine ⟨[.f (.dt .ty l),.f (.v (.int .i64 m))],[(3,.s ⟨Nat × Int,fun y=>⟨[(0,.f (.dt .ty l)),(1,iV m),(5,iV y.2),(6,iV y.1)],[]⟩,fun y=>y.1≤l.length∧QaD m l=y.2+QaD (m - y.2) (l.drop y.1)∧0≤y.2∧y.2≤QaF (l.take y.1),fun y=>l.length - y.1⟩)],.cons (.refl _) (.cons (.refl _) .nil),rfl,fun _ hsh=>?_⟩
      have hl:=Qat hsh.1
      refine Qab (p:=∃ (x1:Nat × Int),(True∧SubB (PV.f (Lf.dt Sh.ty l)) (PV.f (Lf.dt Sh.ty l))∧SubB (iV m) (iV m)∧SubB (iV 0) (iV x1.snd)∧SubB (iV 0) (iV (↑x1.fst:Int))∧True)∧(x1.fst≤l.length∧QaD m l=x1.snd+QaD (m - x1.snd) (List.drop x1.fst l)∧(0:Int)≤x1.snd∧x1.snd≤(↑(QaF (List.take x1.fst l)):Int))∧True∧∀ (z2:Nat × Int),z2.fst≤l.length∧QaD m l=z2.snd+QaD (m - z2.snd) (List.drop z2.fst l)∧(0:Int)≤z2.snd∧z2.snd≤(↑(QaF (List.take z2.fst l)):Int)→True→ifB (decide ((↑z2.fst:Int)<(↑l.length:Int))) (ifB (decide (z2.snd≤m)) (((0:Int)≤(↑z2.fst:Int)∧(↑z2.fst:Int)<(↑l.length:Int))∧(2 * (Tw.mk (Yw.ref (l.getD (↑z2.fst:Int).toNat Sh.ty.nil)).kind (Yw.ref (l.getD (↑z2.fst:Int).toNat Sh.ty.nil)).name (Yw.ref (l.getD (↑z2.fst:Int).toNat Sh.ty.nil)).neg (Yw.ref (l.getD (↑z2.fst:Int).toNat Sh.ty.nil)).digits (Yw.ref (l.getD (↑z2.fst:Int).toNat Sh.ty.nil)).kids).size<9000000∧cntT (Tw.mk (Yw.ref (l.getD (↑z2.fst:Int).toNat Sh.ty.nil)).kind (Yw.ref (l.getD (↑z2.fst:Int).toNat Sh.ty.nil)).name (Yw.ref (l.getD (↑z2.fst:Int).toNat Sh.ty.nil)).neg (Yw.ref (l.getD (↑z2.fst:Int).toNat Sh.ty.nil)).digits (Yw.ref (l.getD (↑z2.fst:Int).toNat Sh.ty.nil)).kids)≤4000000∧(0:Int)≤IntKind.i64.wrap (m - z2.snd)∧IntKind.i64.wrap (m - z2.snd)≤(4000000:Int))∧∀ (z3:Int),z3=capT (IntKind.i64.wrap (m - z2.snd)) (Tw.mk (Yw.ref (l.getD (↑z2.fst:Int).toNat Sh.ty.nil)).kind (Yw.ref (l.getD (↑z2.fst:Int).toNat Sh.ty.nil)).name (Yw.ref (l.getD (↑z2.fst:Int).toNat Sh.ty.nil)).neg (Yw.ref (l.getD (↑z2.fst:Int).toNat Sh.ty.nil)).digits (Yw.ref (l.getD (↑z2.fst:Int).toNat Sh.ty.nil)).kids)→ifB (decide (IntKind.i64.wrap (IntKind.i64.wrap (z2.snd+(1:Int))+z3)≤m)) (((0:Int)≤(↑z2.fst:Int)∧(↑z2.fst:Int)<(↑l.length:Int))∧(2 * szP (Yw.params (l.getD (↑z2.fst:Int).toNat Sh.ty.nil))+2<n∧cntP (Yw.params (l.getD (↑z2.fst:Int).toNat Sh.ty.nil))≤4000000∧(0:Int)≤IntKind.i64.wrap (m - IntKind.i64.wrap (IntKind.i64.wrap (z2.snd+(1:Int))+z3))∧IntKind.i64.wrap (m - IntKind.i64.wrap (IntKind.i64.wrap (z2.snd+(1:Int))+z3))≤(4000000:Int))∧∀ (z4:Int),z4=capP (IntKind.i64.wrap (m - IntKind.i64.wrap (IntKind.i64.wrap (z2.snd+(1:Int))+z3))) (Yw.params (l.getD (↑z2.fst:Int).toNat Sh.ty.nil))→ifB (decide (IntKind.i64.wrap (IntKind.i64.wrap (IntKind.i64.wrap (z2.snd+(1:Int))+z3)+z4)≤m)) (((0:Int)≤(↑z2.fst:Int)∧(↑z2.fst:Int)<(↑l.length:Int))∧(2 * szY (Yw.result (l.getD (↑z2.fst:Int).toNat Sh.ty.nil))+1<n∧QaF (Yw.result (l.getD (↑z2.fst:Int).toNat Sh.ty.nil))≤4000000∧(0:Int)≤IntKind.i64.wrap (m - IntKind.i64.wrap (IntKind.i64.wrap (IntKind.i64.wrap (z2.snd+(1:Int))+z3)+z4))∧IntKind.i64.wrap (m - IntKind.i64.wrap (IntKind.i64.wrap (IntKind.i64.wrap (z2.snd+(1:Int))+z3)+z4))≤(4000000:Int))∧∀ (z5:Int),z5=QaD (IntKind.i64.wrap (m - IntKind.i64.wrap (IntKind.i64.wrap (IntKind.i64.wrap (z2.snd+(1:Int))+z3)+z4))) (Yw.result (l.getD (↑z2.fst:Int).toNat Sh.ty.nil))→∃ (x6:Nat × Int),(True∧SubB (PV.f (Lf.dt Sh.ty l)) (PV.f (Lf.dt Sh.ty l))∧SubB (iV m) (iV m)∧SubB (iV (IntKind.i64.wrap (IntKind.i64.wrap (IntKind.i64.wrap (IntKind.i64.wrap (z2.snd+(1:Int))+z3)+z4)+z5))) (iV x6.snd)∧SubB (iV (IntKind.i64.wrap ((↑z2.fst:Int)+(1:Int)))) (iV (↑x6.fst:Int))∧True)∧(x6.fst≤l.length∧QaD m l=x6.snd+QaD (m - x6.snd) (List.drop x6.fst l)∧(0:Int)≤x6.snd∧x6.snd≤(↑(QaF (List.take x6.fst l)):Int))∧True∧(l.length - x6.fst).succ.le (l.length - z2.fst)) (∃ (x5:Nat × Int),(True∧SubB (PV.f (Lf.dt Sh.ty l)) (PV.f (Lf.dt Sh.ty l))∧SubB (iV m) (iV m)∧SubB (iV (IntKind.i64.wrap (IntKind.i64.wrap (IntKind.i64.wrap (z2.snd+(1:Int))+z3)+z4))) (iV x5.snd)∧SubB (iV (IntKind.i64.wrap ((↑z2.fst:Int)+(1:Int)))) (iV (↑x5.fst:Int))∧True)∧(x5.fst≤l.length∧QaD m l=x5.snd+QaD (m - x5.snd) (List.drop x5.fst l)∧(0:Int)≤x5.snd∧x5.snd≤(↑(QaF (List.take x5.fst l)):Int))∧True∧(l.length - x5.fst).succ.le (l.length - z2.fst))) (ifB (decide (IntKind.i64.wrap (IntKind.i64.wrap (z2.snd+(1:Int))+z3)≤m)) (((0:Int)≤(↑z2.fst:Int)∧(↑z2.fst:Int)<(↑l.length:Int))∧(2 * szY (Yw.result (l.getD (↑z2.fst:Int).toNat Sh.ty.nil))+1<n∧QaF (Yw.result (l.getD (↑z2.fst:Int).toNat Sh.ty.nil))≤4000000∧(0:Int)≤IntKind.i64.wrap (m - IntKind.i64.wrap (IntKind.i64.wrap (z2.snd+(1:Int))+z3))∧IntKind.i64.wrap (m - IntKind.i64.wrap (IntKind.i64.wrap (z2.snd+(1:Int))+z3))≤(4000000:Int))∧∀ (z4:Int),z4=QaD (IntKind.i64.wrap (m - IntKind.i64.wrap (IntKind.i64.wrap (z2.snd+(1:Int))+z3))) (Yw.result (l.getD (↑z2.fst:Int).toNat Sh.ty.nil))→∃ (x5:Nat × Int),(True∧SubB (PV.f (Lf.dt Sh.ty l)) (PV.f (Lf.dt Sh.ty l))∧SubB (iV m) (iV m)∧SubB (iV (IntKind.i64.wrap (IntKind.i64.wrap (IntKind.i64.wrap (z2.snd+(1:Int))+z3)+z4))) (iV x5.snd)∧SubB (iV (IntKind.i64.wrap ((↑z2.fst:Int)+(1:Int)))) (iV (↑x5.fst:Int))∧True)∧(x5.fst≤l.length∧QaD m l=x5.snd+QaD (m - x5.snd) (List.drop x5.fst l)∧(0:Int)≤x5.snd∧x5.snd≤(↑(QaF (List.take x5.fst l)):Int))∧True∧(l.length - x5.fst).succ.le (l.length - z2.fst)) (∃ (x4:Nat × Int),(True∧SubB (PV.f (Lf.dt Sh.ty l)) (PV.f (Lf.dt Sh.ty l))∧SubB (iV m) (iV m)∧SubB (iV (IntKind.i64.wrap (IntKind.i64.wrap (z2.snd+(1:Int))+z3))) (iV x4.snd)∧SubB (iV (IntKind.i64.wrap ((↑z2.fst:Int)+(1:Int)))) (iV (↑x4.fst:Int))∧True)∧(x4.fst≤l.length∧QaD m l=x4.snd+QaD (m - x4.snd) (List.drop x4.fst l)∧(0:Int)≤x4.snd∧x4.snd≤(↑(QaF (List.take x4.fst l)):Int))∧True∧(l.length - x4.fst).succ.le (l.length - z2.fst)))) (true=true∧Sub (iV z2.snd) (iV (QaD m l)))) (true=true∧Sub (iV z2.snd) (iV (QaD m l)))) ?kr ?_
      case kr=>kernel_rfl
      refine ⟨?x0,⟨⟨trivial,⟨.refl _,⟨.refl _,⟨?m0,⟨?m1,trivial⟩⟩⟩⟩⟩,⟨?s0,⟨trivial,fun z2=>fun hq0=>fun _=>Qaa.2 ⟨fun hb1=>Qaa.2 ⟨fun hb2=>⟨?s1,⟨?s2,fun z3=>fun hz3=>Qaa.2 ⟨fun hb3=>⟨?s3,⟨?s4,fun z4=>fun hz4=>Qaa.2 ⟨fun hb4=>⟨?s5,⟨?s6,fun z5=>fun hz5=>⟨?x1,⟨⟨trivial,⟨.refl _,⟨.refl _,⟨?m2,⟨?m3,trivial⟩⟩⟩⟩⟩,⟨?s7,⟨trivial,?m4⟩⟩⟩⟩⟩⟩,fun hb4=>⟨?x2,⟨⟨trivial,⟨.refl _,⟨.refl _,⟨?m5,⟨?m6,trivial⟩⟩⟩⟩⟩,⟨?s8,⟨trivial,?m7⟩⟩⟩⟩⟩⟩⟩,fun hb3=>Qaa.2 ⟨fun hb5=>⟨?s9,⟨?s10,fun z4=>fun hz4=>⟨?x3,⟨⟨trivial,⟨.refl _,⟨.refl _,⟨?m8,⟨?m9,trivial⟩⟩⟩⟩⟩,⟨?s11,⟨trivial,?m10⟩⟩⟩⟩⟩⟩,fun hb5=>⟨?x4,⟨⟨trivial,⟨.refl _,⟨.refl _,⟨?m11,⟨?m12,trivial⟩⟩⟩⟩⟩,⟨?s12,⟨trivial,?m13⟩⟩⟩⟩⟩⟩⟩⟩,fun hb2=>⟨rfl,?m14⟩⟩,fun hb1=>⟨rfl,?m15⟩⟩⟩⟩⟩⟩
      case x0=>exact (0,0)
      case x1=>exact (z2.1+1,z2.2+1+z3+z4+z5)
      case x2=>exact (z2.1+1,z2.2+1+z3+z4)
      case x3=>exact (z2.1+1,z2.2+1+z3+z4)
      case x4=>exact (z2.1+1,z2.2+1+z3)
      all_goals try simp only [decide_eq_true_eq,decide_eq_false_iff_not,Int.toNat_natCast,Tw.eta,Yw.eta] at *
      case m0=>exact .refl _
      case m1=>exact .refl _
      case s0=>exact ⟨Nat.zero_le _,by simp,by simp,by simp [QaF]⟩
      all_goals obtain ⟨q1,q2,q3,q4⟩:=hq0
      case m14=>exact (Qae (Qgy q2 (.inr (by omega))).symm).sub
      case m15=>exact (Qae (Qgy q2 (.inl (by omega))).symm).sub
      all_goals have hz:z2.1<l.length:=by omega
      all_goals have t1:=QlX l (z2.1+1)
      all_goals have t2:=QlY hz
      all_goals have t3:=QrG (l.getD z2.1 Sh.ty.nil)
      all_goals have t4:=QeT (gotD Sh.ty.nil hz)
      all_goals have t5:=(l.getD z2.1 Sh.ty.nil).size_eq
      all_goals have t6:=QdH (l.getD z2.1 Sh.ty.nil).ref
      all_goals have e1:IntKind.i64.wrap (m - z2.2)=m - z2.2:=wJ _ (by omega) (by omega)
      case s1=>omega
      case s3=>omega
      case s5=>omega
      case s9=>omega
      case s2=>rw [e1]; exact ⟨by omega,by omega,by omega,by omega⟩
      all_goals rw [e1] at hz3
      all_goals have r0:=Qcf (l.getD z2.1 Sh.ty.nil).ref (m - z2.2)
      all_goals rw [← hz3] at r0
      all_goals have e2:IntKind.i64.wrap (IntKind.i64.wrap (z2.2+1)+z3)=z2.2+1+z3:=by simp (disch:=omega) only [wJ]
      all_goals rw [e2] at hb3
      case s10=>rw [e2] at hb5; omega
      case m8=>rw [e2] at hb5; omega
      case m9=>rw [e2] at hb5; omega
      case s11=>rw [e2] at hb5; omega
      case m10=>rw [e2] at hb5; omega
      case m11=>rw [e2]; exact .refl _
      case m12=>exact Qae (wJ _ (by omega) (by omega))
      case s12=>exact ⟨by omega,Qht q2 hz (by omega) (by rw [QrO hz3 (by omega)]; show _=z2.2+(1+z3); omega),by show 0≤z2.2+1+z3; omega,by show z2.2+1+z3≤_; omega⟩
      case m13=>exact (by omega:l.length - (z2.1+1)<l.length - z2.1)
      all_goals have e3:IntKind.i64.wrap (m - (z2.2+1+z3))=m - (z2.2+1+z3):=wJ _ (by omega) (by omega)
      case s4=>rw [e2,e3]; exact ⟨by omega,by omega,by omega,by omega⟩
      all_goals rw [e2,e3] at hz4
      all_goals have r1:=Qhu (l.getD z2.1 Sh.ty.nil).params (m - (z2.2+1+z3))
      all_goals rw [← hz4] at r1
      all_goals have e4:IntKind.i64.wrap (z2.2+1+z3+z4)=z2.2+1+z3+z4:=wJ _ (by omega) (by omega)
      all_goals rw [e2,e4] at hb4
      case m5=>rw [e2,e4]; exact .refl _
      case m6=>exact Qae (wJ _ (by omega) (by omega))
      case s8=>exact ⟨by omega,Qht q2 hz (by omega) (by rw [QrN hz3 (by omega) (by omega) hz4 (by omega)]; show _=z2.2+(1+z3+z4); omega),by show 0≤z2.2+1+z3+z4; omega,by show z2.2+1+z3+z4≤_; omega⟩
      case m7=>exact (by omega:l.length - (z2.1+1)<l.length - z2.1)
      all_goals have e5:IntKind.i64.wrap (m - (z2.2+1+z3+z4))=m - (z2.2+1+z3+z4):=wJ _ (by omega) (by omega)
      case s6=>rw [e2,e4,e5]; exact ⟨by omega,by omega,by omega,by omega⟩
      all_goals rw [e2,e4,e5] at hz5
      all_goals have r2:=QfO (l.getD z2.1 Sh.ty.nil).result (m - (z2.2+1+z3+z4))
      all_goals rw [← hz5] at r2
      case m2=>rw [e2,e4]; exact Qae (wJ _ (by omega) (by omega))
      case m3=>exact Qae (wJ _ (by omega) (by omega))
      case s7=>exact ⟨by omega,Qht q2 hz (by omega) (by rw [QrM hz3 (by omega) (by omega) hz4 (by omega) (by omega) hz5]; show _=z2.2+(1+z3+z4+z5); omega),by show 0≤z2.2+1+z3+z4+z5; omega,by show z2.2+1+z3+z4+z5≤_; omega⟩
      case m4=>exact (by omega:l.length - (z2.1+1)<l.length - z2.1)
    · cases hs
  · refine Qad [(19,sTypesN n)] [] Tryz.ntmps41 Tryz.func41 (by kernel_rfl) (by kernel_rfl) hU ⟨(Qhx hU n).1,trivial⟩ trivial ?_
    intro xs p r hs hp
    unfold sParamsN at hs
    split at hs
    · rename_i l m
      cases hs
      obtain ⟨hn,hc,hm0,hm⟩:=hp _ rfl
      refine ⟨[.f (.dt .prm l),.f (.v (.int .i64 m))],[(3,.s ⟨Nat × Int,fun y=>⟨[(0,.f (.dt .prm l)),(1,iV m),(5,iV y.2),(6,iV y.1)],[]⟩,fun y=>y.1≤l.length∧capP m l=y.2+capP (m - y.2) (l.drop y.1)∧0≤y.2∧y.2≤cntP (l.take y.1),fun y=>l.length - y.1⟩)],.cons (.refl _) (.cons (.refl _) .nil),rfl,fun _ hsh=>?_⟩
      have hl:=Qat hsh.1
      refine Qab (p:=∃ (x1:Nat × Int),(True∧SubB (PV.f (Lf.dt Sh.prm l)) (PV.f (Lf.dt Sh.prm l))∧SubB (iV m) (iV m)∧SubB (iV 0) (iV x1.snd)∧SubB (iV 0) (iV (↑x1.fst:Int))∧True)∧(x1.fst≤l.length∧capP m l=x1.snd+capP (m - x1.snd) (List.drop x1.fst l)∧(0:Int)≤x1.snd∧x1.snd≤(↑(cntP (List.take x1.fst l)):Int))∧True∧∀ (z2:Nat × Int),z2.fst≤l.length∧capP m l=z2.snd+capP (m - z2.snd) (List.drop z2.fst l)∧(0:Int)≤z2.snd∧z2.snd≤(↑(cntP (List.take z2.fst l)):Int)→True→ifB (decide ((↑z2.fst:Int)<(↑l.length:Int))) (ifB (decide (z2.snd≤m)) (((0:Int)≤(↑z2.fst:Int)∧(↑z2.fst:Int)<(↑l.length:Int))∧(2 * szY [Yw.mk (l.getD (↑z2.fst:Int).toNat Sh.prm.nil).snd.fn (l.getD (↑z2.fst:Int).toNat Sh.prm.nil).snd.sort (Tw.mk (l.getD (↑z2.fst:Int).toNat Sh.prm.nil).snd.ref.kind (l.getD (↑z2.fst:Int).toNat Sh.prm.nil).snd.ref.name (l.getD (↑z2.fst:Int).toNat Sh.prm.nil).snd.ref.neg (l.getD (↑z2.fst:Int).toNat Sh.prm.nil).snd.ref.digits (l.getD (↑z2.fst:Int).toNat Sh.prm.nil).snd.ref.kids) (l.getD (↑z2.fst:Int).toNat Sh.prm.nil).snd.params (l.getD (↑z2.fst:Int).toNat Sh.prm.nil).snd.result]+1<n∧QaF [Yw.mk (l.getD (↑z2.fst:Int).toNat Sh.prm.nil).snd.fn (l.getD (↑z2.fst:Int).toNat Sh.prm.nil).snd.sort (Tw.mk (l.getD (↑z2.fst:Int).toNat Sh.prm.nil).snd.ref.kind (l.getD (↑z2.fst:Int).toNat Sh.prm.nil).snd.ref.name (l.getD (↑z2.fst:Int).toNat Sh.prm.nil).snd.ref.neg (l.getD (↑z2.fst:Int).toNat Sh.prm.nil).snd.ref.digits (l.getD (↑z2.fst:Int).toNat Sh.prm.nil).snd.ref.kids) (l.getD (↑z2.fst:Int).toNat Sh.prm.nil).snd.params (l.getD (↑z2.fst:Int).toNat Sh.prm.nil).snd.result]≤4000000∧(0:Int)≤IntKind.i64.wrap (m - z2.snd)∧IntKind.i64.wrap (m - z2.snd)≤(4000000:Int))∧∀ (z3:Int),z3=QaD (IntKind.i64.wrap (m - z2.snd)) [Yw.mk (l.getD (↑z2.fst:Int).toNat Sh.prm.nil).snd.fn (l.getD (↑z2.fst:Int).toNat Sh.prm.nil).snd.sort (Tw.mk (l.getD (↑z2.fst:Int).toNat Sh.prm.nil).snd.ref.kind (l.getD (↑z2.fst:Int).toNat Sh.prm.nil).snd.ref.name (l.getD (↑z2.fst:Int).toNat Sh.prm.nil).snd.ref.neg (l.getD (↑z2.fst:Int).toNat Sh.prm.nil).snd.ref.digits (l.getD (↑z2.fst:Int).toNat Sh.prm.nil).snd.ref.kids) (l.getD (↑z2.fst:Int).toNat Sh.prm.nil).snd.params (l.getD (↑z2.fst:Int).toNat Sh.prm.nil).snd.result]→∃ (x4:Nat × Int),(True∧SubB (PV.f (Lf.dt Sh.prm l)) (PV.f (Lf.dt Sh.prm l))∧SubB (iV m) (iV m)∧SubB (iV (IntKind.i64.wrap (IntKind.i64.wrap (z2.snd+(1:Int))+z3))) (iV x4.snd)∧SubB (iV (IntKind.i64.wrap ((↑z2.fst:Int)+(1:Int)))) (iV (↑x4.fst:Int))∧True)∧(x4.fst≤l.length∧capP m l=x4.snd+capP (m - x4.snd) (List.drop x4.fst l)∧(0:Int)≤x4.snd∧x4.snd≤(↑(cntP (List.take x4.fst l)):Int))∧True∧(l.length - x4.fst).succ.le (l.length - z2.fst)) (true=true∧Sub (iV z2.snd) (iV (capP m l)))) (true=true∧Sub (iV z2.snd) (iV (capP m l)))) ?kr ?_
      case kr=>kernel_rfl
      refine ⟨?x0,⟨⟨trivial,⟨.refl _,⟨.refl _,⟨?m0,⟨?m1,trivial⟩⟩⟩⟩⟩,⟨?s0,⟨trivial,fun z2=>fun hq0=>fun _=>Qaa.2 ⟨fun hb1=>Qaa.2 ⟨fun hb2=>⟨?s1,⟨?s2,fun z3=>fun hz3=>⟨?x1,⟨⟨trivial,⟨.refl _,⟨.refl _,⟨?m2,⟨?m3,trivial⟩⟩⟩⟩⟩,⟨?s3,⟨trivial,?m4⟩⟩⟩⟩⟩⟩,fun hb2=>⟨rfl,?m5⟩⟩,fun hb1=>⟨rfl,?m6⟩⟩⟩⟩⟩⟩
      case x0=>exact (0,0)
      case x1=>exact (z2.1+1,z2.2+1+z3)
      all_goals try simp only [decide_eq_true_eq,decide_eq_false_iff_not,Int.toNat_natCast,Tw.eta,Yw.eta] at *
      case m0=>exact .refl _
      case m1=>exact .refl _
      case s0=>exact ⟨Nat.zero_le _,by simp,by simp,by simp [cntP]⟩
      all_goals obtain ⟨q1,q2,q3,q4⟩:=hq0
      case m5=>exact (Qae (QiB q2 (.inr (by omega))).symm).sub
      case m6=>exact (Qae (QiB q2 (.inl (by omega))).symm).sub
      all_goals have hz:z2.1<l.length:=by omega
      all_goals have t1:=Qn5 l (z2.1+1)
      all_goals have t2:=Qn6 hz
      all_goals have t3:=QrI (l.getD z2.1 Sh.prm.nil)
      all_goals have t4:=Qj8 (gotD Sh.prm.nil hz)
      all_goals have e1:IntKind.i64.wrap (m - z2.2)=m - z2.2:=wJ _ (by omega) (by omega)
      all_goals have y1:szY [(l.getD z2.1 Sh.prm.nil).2]=(l.getD z2.1 Sh.prm.nil).2.size:=by rw [szY,szY]; rfl
      all_goals have y2:QaF [(l.getD z2.1 Sh.prm.nil).2]=cntY (l.getD z2.1 Sh.prm.nil).2:=by rw [QaF,QaF]; rfl
      case s1=>omega
      case s2=>rw [e1,y1,y2]; exact ⟨by omega,by omega,by omega,by omega⟩
      all_goals rw [e1,Qoe (by omega)] at hz3
      all_goals have r0:=Qhs (l.getD z2.1 Sh.prm.nil).2 (m - z2.2)
      all_goals rw [← hz3] at r0
      all_goals have e2:IntKind.i64.wrap (IntKind.i64.wrap (z2.2+1)+z3)=z2.2+1+z3:=by simp (disch:=omega) only [wJ]
      case m2=>rw [e2]; exact .refl _
      case m3=>exact Qae (wJ _ (by omega) (by omega))
      case s3=>exact ⟨by omega,QrR q2 hz (by omega) (by rw [QrQ,← hz3]; show _=z2.2+(1+z3); omega),by show 0≤z2.2+1+z3; omega,by show z2.2+1+z3≤_; omega⟩
      case m4=>exact (by omega:l.length - (z2.1+1)<l.length - z2.1)
    · cases hs
mutual
theorem QfH:∀ y:Yw,y.size≤cntY y∧y.wt≤cntY y
 | .mk f s t p r=>by
  have h1:=Qiq p
  have h2:=Qd9 r
  have h3:=QdH t
  rw [Yw.size,Yw.wt,cntY]
  omega
theorem Qn4:∀ x:ByteArray × Yw,szQ x≤cntQ x∧wtQ x≤cntQ x
 | (s,y)=>by
  have h1:=QfH y
  rw [szQ,wtQ,cntQ]
  omega
theorem Qiq:∀ l:List (ByteArray × Yw),szP l≤cntP l∧wtP l≤cntP l
 | []=>by rw [szP,wtP]; exact ⟨Nat.zero_le _,Nat.zero_le _⟩
 | x::l=>by
  have h1:=Qn4 x
  have h2:=Qiq l
  rw [szP,wtP,cntP]
  omega
theorem Qd9:∀ l:List Yw,szY l≤QaF l∧wtY l≤QaF l
 | []=>by rw [szY,wtY]; exact ⟨Nat.zero_le _,Nat.zero_le _⟩
 | x::l=>by
  have h1:=QfH x
  have h2:=Qd9 l
  rw [szY,wtY,QaF]
  omega
end
def QgQ:Spec
 | [.f (.dt .ty l),.f (.v (.int .i64 m))]=>some (some (QaF l≤4000000∧0≤m∧m≤4000000),.nm Int (QaD m l) iV)
 | _=>none
theorem QpV {E:Env} (hU:Up E):Contract Tryz.prog E 19 QgQ:=by
 intro xs p r hs hp
 unfold QgQ at hs
 split at hs
 · rename_i l m
   cases hs
   obtain ⟨h1,h2,h3⟩:=hp _ rfl
   have h4:=(Qd9 l).1
   exact (Qhx hU 9000000).1 [.f (.dt .ty l),.f (.v (.int .i64 m))] _ _ rfl (fun q hq=>by cases hq; exact ⟨by omega,h1,h2,h3⟩)
 · cases hs
/-! Kappas. -/
def Qa6:List Kap→Nat
 | []=>0
 | k::l=>1+k.name.size / 8+k.params.length+cntT k.body+Qa6 l
def Ql8 (m:Int) (k:Kap):Int:=((1+k.name.size / 8+k.params.length:Nat):Int)+capT m k.body
def Qbd:Int→List Kap→Int
 | _,[]=>0
 | m,k::l=>if 0≤m then Ql8 m k+Qbd (m - Ql8 m k) l else 0
theorem QpR {l:List Kap} {i:Nat} {m n:Int} (h:Qbd m l=n+Qbd (m - n) (l.drop i)) (hi:i<l.length) (hm:n≤m) {c:Int} (hc:c=n+Ql8 (m - n) (l.getD i Sh.kap.nil)):Qbd m l=c+Qbd (m - c) (l.drop (i+1)):=by
 have e:=h
 rw [Qfz Sh.kap.nil hi,Qbd,if_pos (by omega)] at e
 rw [e,hc,Int.add_assoc,show m - n - Ql8 (m - n) (l.getD i Sh.kap.nil)=m - (n+Ql8 (m - n) (l.getD i Sh.kap.nil)) by omega]
theorem QgA {l:List Kap} {i:Nat} {m n:Int} (h:Qbd m l=n+Qbd (m - n) (l.drop i)) (hi:¬ i<l.length∨¬ n≤m):Qbd m l=n:=by
 rw [h]
 rcases hi with hi | hi
 · rw [List.drop_eq_nil_of_le (by omega),Qbd]; omega
 · cases l.drop i with
   | nil=>rw [Qbd]; omega
   | cons t r=>rw [Qbd,if_neg (by omega)]; omega
theorem QfK:∀ l m:List Kap,Qa6 (l++m)=Qa6 l+Qa6 m
 | [],m=>by rw [List.nil_append,Qa6,Nat.zero_add]
 | t::l,m=>by
  rw [List.cons_append,Qa6,Qa6,QfK l m]
  omega
theorem Ql0 (l:List Kap) (i:Nat):Qa6 (l.take i)≤Qa6 l:=by
 have:=QfK (l.take i) (l.drop i)
 rw [List.take_append_drop] at this
 omega
theorem Ql1 {l:List Kap} {i:Nat} (h:i<l.length):Qa6 (l.take (i+1))=Qa6 (l.take i)+(1+(Kap.name (l.getD i Sh.kap.nil)).size / 8+(Kap.params (l.getD i Sh.kap.nil)).length+cntT (Kap.body (l.getD i Sh.kap.nil))):=by
 rw [List.take_add_one,QfK,List.getElem?_eq_getElem h,List.getD_eq_getElem?_getD,List.getElem?_eq_getElem h]
 simp only [Option.toList_some,Option.getD_some,Qa6,Nat.add_zero]
def Qe1:Spec
 | [.f (.dt .kap l),.f (.v (.int .i64 m))]=>some (some (Qa6 l≤4000000∧0≤m∧m≤4000000),.nm Int (Qbd m l) iV)
 | _=>none
theorem Qoj {E:Env} (hU:Up E):Contract Tryz.prog E 18 Qe1:=by
 refine Qad [(40,QcR 9000000)] [] Tryz.ntmps18 Tryz.func18 (by kernel_rfl) (by kernel_rfl) hU ⟨(Qok hU 9000000).1,trivial⟩ trivial ?_
 intro xs p r hs hp
 unfold Qe1 at hs
 split at hs
 · rename_i l m
   cases hs
   obtain ⟨hc,hm0,hm⟩:=hp _ rfl
   refine ⟨[.f (.dt .kap l),.f (.v (.int .i64 m))],[(3,.s ⟨Nat × Int,fun y=>⟨[(0,.f (.dt .kap l)),(1,iV m),(5,iV y.2),(6,iV y.1)],[]⟩,fun y=>y.1≤l.length∧Qbd m l=y.2+Qbd (m - y.2) (l.drop y.1)∧0≤y.2∧y.2≤Qa6 (l.take y.1),fun y=>l.length - y.1⟩)],.cons (.refl _) (.cons (.refl _) .nil),rfl,fun _ hsh=>?_⟩
   have hl:=Qat hsh.1
   refine Qab (p:=∃ (x1:Nat × Int),(True∧SubB (PV.f (Lf.dt Sh.kap l)) (PV.f (Lf.dt Sh.kap l))∧SubB (iV m) (iV m)∧SubB (iV 0) (iV x1.snd)∧SubB (iV 0) (iV (↑x1.fst:Int))∧True)∧(x1.fst≤l.length∧Qbd m l=x1.snd+Qbd (m - x1.snd) (List.drop x1.fst l)∧(0:Int)≤x1.snd∧x1.snd≤(↑(Qa6 (List.take x1.fst l)):Int))∧True∧∀ (z2:Nat × Int),z2.fst≤l.length∧Qbd m l=z2.snd+Qbd (m - z2.snd) (List.drop z2.fst l)∧(0:Int)≤z2.snd∧z2.snd≤(↑(Qa6 (List.take z2.fst l)):Int)→True→ifB (decide ((↑z2.fst:Int)<(↑l.length:Int))) (ifB (decide (z2.snd≤m)) (((0:Int)≤(↑z2.fst:Int)∧(↑z2.fst:Int)<(↑l.length:Int))∧((0:Int)≤(↑z2.fst:Int)∧(↑z2.fst:Int)<(↑l.length:Int))∧((0:Int)≤(↑z2.fst:Int)∧(↑z2.fst:Int)<(↑l.length:Int))∧(2 * (Tw.mk (l.getD (↑z2.fst:Int).toNat Sh.kap.nil).body.kind (l.getD (↑z2.fst:Int).toNat Sh.kap.nil).body.name (l.getD (↑z2.fst:Int).toNat Sh.kap.nil).body.neg (l.getD (↑z2.fst:Int).toNat Sh.kap.nil).body.digits (l.getD (↑z2.fst:Int).toNat Sh.kap.nil).body.kids).size<9000000∧cntT (Tw.mk (l.getD (↑z2.fst:Int).toNat Sh.kap.nil).body.kind (l.getD (↑z2.fst:Int).toNat Sh.kap.nil).body.name (l.getD (↑z2.fst:Int).toNat Sh.kap.nil).body.neg (l.getD (↑z2.fst:Int).toNat Sh.kap.nil).body.digits (l.getD (↑z2.fst:Int).toNat Sh.kap.nil).body.kids)≤4000000∧(0:Int)≤IntKind.i64.wrap (m - z2.snd)∧IntKind.i64.wrap (m - z2.snd)≤(4000000:Int))∧∀ (z3:Int),z3=capT (IntKind.i64.wrap (m - z2.snd)) (Tw.mk (l.getD (↑z2.fst:Int).toNat Sh.kap.nil).body.kind (l.getD (↑z2.fst:Int).toNat Sh.kap.nil).body.name (l.getD (↑z2.fst:Int).toNat Sh.kap.nil).body.neg (l.getD (↑z2.fst:Int).toNat Sh.kap.nil).body.digits (l.getD (↑z2.fst:Int).toNat Sh.kap.nil).body.kids)→∃ (x4:Nat × Int),(True∧SubB (PV.f (Lf.dt Sh.kap l)) (PV.f (Lf.dt Sh.kap l))∧SubB (iV m) (iV m)∧SubB (iV (IntKind.i64.wrap (IntKind.i64.wrap (IntKind.i64.wrap (IntKind.i64.wrap (z2.snd+(1:Int))+IntKind.i64.wrap ((↑(l.getD (↑z2.fst:Int).toNat Sh.kap.nil).name.size:Int).tdiv (8:Int)))+(↑(l.getD (↑z2.fst:Int).toNat Sh.kap.nil).params.length:Int))+z3))) (iV x4.snd)∧SubB (iV (IntKind.i64.wrap ((↑z2.fst:Int)+(1:Int)))) (iV (↑x4.fst:Int))∧True)∧(x4.fst≤l.length∧Qbd m l=x4.snd+Qbd (m - x4.snd) (List.drop x4.fst l)∧(0:Int)≤x4.snd∧x4.snd≤(↑(Qa6 (List.take x4.fst l)):Int))∧True∧(l.length - x4.fst).succ.le (l.length - z2.fst)) (true=true∧Sub (iV z2.snd) (iV (Qbd m l)))) (true=true∧Sub (iV z2.snd) (iV (Qbd m l)))) ?kr ?_
   case kr=>kernel_rfl
   refine ⟨?x0,⟨⟨trivial,⟨.refl _,⟨.refl _,⟨?m0,⟨?m1,trivial⟩⟩⟩⟩⟩,⟨?s0,⟨trivial,fun z2=>fun hq0=>fun _=>Qaa.2 ⟨fun hb1=>Qaa.2 ⟨fun hb2=>⟨?s1,⟨?s2,⟨?s3,⟨?s4,fun z3=>fun hz3=>⟨?x1,⟨⟨trivial,⟨.refl _,⟨.refl _,⟨?m2,⟨?m3,trivial⟩⟩⟩⟩⟩,⟨?s5,⟨trivial,?m4⟩⟩⟩⟩⟩⟩⟩⟩,fun hb2=>⟨rfl,?m5⟩⟩,fun hb1=>⟨rfl,?m6⟩⟩⟩⟩⟩⟩
   case x0=>exact (0,0)
   case x1=>exact (z2.1+1,z2.2+((1+(Kap.name (l.getD z2.1 Sh.kap.nil)).size / 8+(Kap.params (l.getD z2.1 Sh.kap.nil)).length:Nat):Int)+z3)
   all_goals try simp only [decide_eq_true_eq,decide_eq_false_iff_not,Int.toNat_natCast,Tw.eta,Yw.eta] at *
   case m0=>exact .refl _
   case m1=>exact .refl _
   case s0=>exact ⟨Nat.zero_le _,by simp,by simp,by simp [Qa6]⟩
   all_goals obtain ⟨q1,q2,q3,q4⟩:=hq0
   case m5=>exact (Qae (QgA q2 (.inr (by omega))).symm).sub
   case m6=>exact (Qae (QgA q2 (.inl (by omega))).symm).sub
   all_goals have hz:z2.1<l.length:=by omega
   all_goals have t1:=Ql0 l (z2.1+1)
   all_goals have t2:=Ql1 hz
   all_goals have t6:=QdH (Kap.body (l.getD z2.1 Sh.kap.nil))
   all_goals have e1:IntKind.i64.wrap (m - z2.2)=m - z2.2:=wJ _ (by omega) (by omega)
   all_goals have e8:(((Kap.name (l.getD z2.1 Sh.kap.nil)).size:Int)).tdiv 8=(((Kap.name (l.getD z2.1 Sh.kap.nil)).size / 8:Nat):Int):=(Int.ofNat_tdiv _ 8).symm
   case s1=>omega
   case s2=>omega
   case s3=>omega
   case s4=>rw [e1]; exact ⟨by omega,by omega,by omega,by omega⟩
   all_goals rw [e1] at hz3
   all_goals have r0:=Qcf (Kap.body (l.getD z2.1 Sh.kap.nil)) (m - z2.2)
   all_goals rw [← hz3] at r0
   case m2 =>
    refine Qae ?_
    rw [e8]
    simp (disch:=omega) only [wJ]
    omega
   case m3=>exact Qae (wJ _ (by omega) (by omega))
   case s5=>exact ⟨by omega,QpR q2 hz (by omega) (by unfold Ql8; rw [← hz3]; show z2.2+_+z3=_; omega),by show 0≤z2.2+_+z3; omega,by show z2.2+_+z3≤_; omega⟩
   case m4=>exact (by omega:l.length - (z2.1+1)<l.length - z2.1)
 · cases hs
end Go.Proofs.YtdeacbdpmdfgdaaGreatDoor
namespace Go.Proofs.YtdeacbdpmdfgdaaGreatDoor
open Go.RowKit
set_option linter.unusedVariables false
set_option maxRecDepth 100000
noncomputable def sWF:Spec
 | [.f a,.f b,.f c,x]=>match dtOf .dat a,dtOf .kap b,dtOf .srt c,tyOf x with
  | some D,some K,some S,some y=>some (some (y.fit∧fitK K∧y.wt≤100000000∧S.length+y.size≤100000000),.nm Int (formedY D K S y) iV)
  | _,_,_,_=>none
 | _=>none
noncomputable def sFormed:Spec
 | [x]=>match kwOf x with
  | some w=>some (some (w.y.fit∧fitK w.K∧w.y.wt≤100000000∧w.S.length+w.y.size≤100000000),.nm Int (formedY w.D w.K w.S w.y) iV)
  | none=>none
 | _=>none
theorem Qr5 {E:Env} (hU:Up E):Contract Tryz.prog E 21 sFormed:=by
 intro xs p r hs hp
 unfold sFormed at hs
 split at hs
 · rename_i x
   split at hs
   · rename_i w hw
     cases hs
     exact Qk9 hU (w.y.size+1) [x] _ _ (by simp only [sFormedN,hw]; rfl) (fun q hq=>by cases hq; exact ⟨Nat.lt_succ_self _,hp _ rfl⟩)
   · cases hs
 · cases hs
theorem cWF {E:Env} (hU:Up E):Contract Tryz.prog E 7 sWF:=by
 refine Qad [(21,sFormed)] [] Tryz.ntmps7 Tryz.func7 (by kernel_rfl) (by kernel_rfl) hU ⟨Qr5 hU,trivial⟩ trivial ?_
 intro xs p r hs hp
 unfold sWF at hs
 split at hs
 · rename_i a b c x
   split at hs
   · rename_i D K S y ha hb hc hx
     cases hs
     obtain ⟨h1,h2,h3,h4⟩:=hp _ rfl
     refine ⟨[.f (.dt .dat D),.f (.dt .kap K),.f (.dt .srt S),tyP y],[],.cons (QbN ha).sub (.cons (QbN hb).sub (.cons (QbN hc).sub (.cons (Qck hx).sub .nil))),rfl,fun _ hsh=>?_⟩
     have h0:=h1
     refine Qab (p:=((Yw.mk y.fn y.sort (Tw.mk y.ref.kind y.ref.name y.ref.neg y.ref.digits y.ref.kids) y.params y.result).fit∧fitK K∧(Yw.mk y.fn y.sort (Tw.mk y.ref.kind y.ref.name y.ref.neg y.ref.digits y.ref.kids) y.params y.result).wt≤100000000∧S.length+(Yw.mk y.fn y.sort (Tw.mk y.ref.kind y.ref.name y.ref.neg y.ref.digits y.ref.kids) y.params y.result).size≤100000000)∧∀ (z1:Int),z1=formedY D K S (Yw.mk y.fn y.sort (Tw.mk y.ref.kind y.ref.name y.ref.neg y.ref.digits y.ref.kids) y.params y.result)→true=true∧Sub (iV z1) (iV (formedY D K S y))) ?kr ?_
     case kr=>kernel_rfl
     refine ⟨?s0,fun z1=>fun hz1=>⟨rfl,?m0⟩⟩
     all_goals try simp only [Tw.eta,Yw.eta] at *
     case s0=>exact ⟨h1,h2,h3,h4⟩
     case m0=>rw [hz1]; exact .refl _
   · cases hs
 · cases hs
def tV14:Tw:=.mk 1 ⟨#[118]⟩ false [] []
def Qdk:Tw:=.mk 2 ⟨#[]⟩ false [3] []
def sV14:Spec
 | []=>some (none,.nm Tw tV14 tmP)
 | _=>none
theorem cV14 {E:Env} (hU:Up E):Contract Tryz.prog E 14 sV14:=by
 refine Qad [] [] Tryz.ntmps14 Tryz.func14 (by kernel_rfl) (by kernel_rfl) hU trivial trivial ?_
 intro xs p r hs hp
 unfold sV14 at hs
 split at hs
 · cases hs
   refine ⟨[],[],.nil,rfl,fun _ hsh=>?_⟩
   have h0:=hsh
   refine Qab (p:=true=true∧Sub (PV.agg [PV.f (Lf.v (Value.int IntKind.u8 1)),sV (ByteArray.mk #[(118:UInt8)]),bV false,PV.f (Lf.v (Value.slice none 0 0)),PV.f (Lf.v (Value.slice none 0 0))]) (PV.agg [PV.f (Lf.v (Value.int IntKind.u8 tV14.kind)),sV tV14.name,bV tV14.neg,PV.f (Lf.lr tV14.digits 0),PV.f (Lf.dt Sh.tm [])])) ?kr ?_
   case kr=>kernel_rfl
   refine ⟨rfl,?m0⟩
   case m0=>exact (QaM (t:=tV14) rfl).sub
 · cases hs
def QmL:Spec
 | []=>some (none,.nm Tw Qdk tmP)
 | _=>none
theorem cThree {E:Env} (hU:Up E):Contract Tryz.prog E 15 QmL:=by
 refine Qad [(38,sOf)] [] Tryz.ntmps15 Tryz.func15 (by kernel_rfl) (by kernel_rfl) hU ⟨cOf hU,trivial⟩ trivial ?_
 intro xs p r hs hp
 unfold QmL at hs
 split at hs
 · cases hs
   refine ⟨[],[],.nil,rfl,fun _ hsh=>?_⟩
   have h0:=hsh
   refine Qab (p:=((-9223372036854775808:Int)≤(3:Int)∧(3:Int)≤(9223372036854775807:Int))∧∀ (z1:Int),z1=(3:Int)→true=true∧Sub (PV.agg [PV.f (Lf.v (Value.int IntKind.u8 2)),sV (ByteArray.mk #[]),PV.f (Lf.zn z1),PV.f (Lf.zd z1 3),PV.f (Lf.v (Value.slice none 0 0))]) (PV.agg [PV.f (Lf.v (Value.int IntKind.u8 Qdk.kind)),sV Qdk.name,bV Qdk.neg,PV.f (Lf.lr Qdk.digits 1),PV.f (Lf.dt Sh.tm [])])) ?kr ?_
   case kr=>kernel_rfl
   refine ⟨?s0,fun z1=>fun hz1=>⟨rfl,?m0⟩⟩
   case s0=>omega
   case m0=>subst hz1; exact (QaM (t:=Qdk) rfl).sub
 · cases hs
def gt14 (D:List Dat) (K:List Kap) (S:List Srt) (Y:List Yw) (T:List Tw):Bool:=decide (300<S.length) || (decide (300<capD 300 D) || (decide (300<Qbd 300 K) || (decide (300<QaD 300 Y) || decide (300<QaW 300 T))))
def QgT:Spec
 | [.f a,.f b,.f c,.f d,.f e]=>match dtOf .dat a,dtOf .kap b,dtOf .srt c,dtOf .ty d,dtOf .tm e with
  | some D,some K,some S,some Y,some T=>some (some (cntD D≤4000000∧Qa6 K≤4000000∧QaF Y≤4000000∧QaL T≤4000000),.nm Bool (gt14 D K S Y T) bV)
  | _,_,_,_,_=>none
 | _=>none
theorem QpX {E:Env} (hU:Up E):Contract Tryz.prog E 6 QgT:=by
 refine Qad [(17,QgU),(18,Qe1),(19,QgQ),(20,Qcv 9000000)] [] Tryz.ntmps6 Tryz.func6 (by kernel_rfl) (by kernel_rfl) hU ⟨QpY hU,Qoj hU,QpV hU,(Qok hU _).2,trivial⟩ trivial ?_
 intro xs p r hs hp
 unfold QgT at hs
 split at hs
 · rename_i a b c d e
   split at hs
   · rename_i D K S Y T ha hb hc hd he
     cases hs
     obtain ⟨h1,h2,h3,h4⟩:=hp _ rfl
     refine ⟨[.f (.dt .dat D),.f (.dt .kap K),.f (.dt .srt S),.f (.dt .ty Y),.f (.dt .tm T)],[],.cons (QbN ha).sub (.cons (QbN hb).sub (.cons (QbN hc).sub (.cons (QbN hd).sub (.cons (QbN he).sub .nil)))),rfl,fun _ hsh=>?_⟩
     have h5:=Qea T
     refine Qab (p:=ifB (decide ((↑S.length:Int) > (300:Int))) (true=true∧Sub (bV true) (bV (gt14 D K S Y T))) ((cntD D≤4000000∧(0:Int)≤(300:Int)∧(300:Int)≤(4000000:Int))∧∀ (z1:Int),z1=capD (300:Int) D→ifB (decide (z1 > (300:Int))) (true=true∧Sub (bV true) (bV (gt14 D K S Y T))) ((Qa6 K≤4000000∧(0:Int)≤(300:Int)∧(300:Int)≤(4000000:Int))∧∀ (z2:Int),z2=Qbd (300:Int) K→ifB (decide (z2 > (300:Int))) (true=true∧Sub (bV true) (bV (gt14 D K S Y T))) ((QaF Y≤4000000∧(0:Int)≤(300:Int)∧(300:Int)≤(4000000:Int))∧∀ (z3:Int),z3=QaD (300:Int) Y→ifB (decide (z3 > (300:Int))) (true=true∧Sub (bV true) (bV (gt14 D K S Y T))) ((2 * szL T+1<9000000∧QaL T≤4000000∧(-1:Int)≤(300:Int)∧(300:Int)≤(4000000:Int))∧∀ (z4:Int),z4=QaW (300:Int) T→true=true∧Sub (bV (decide (z4 > (300:Int)))) (bV (gt14 D K S Y T))))))) ?kr ?_
     case kr=>kernel_rfl
     refine Qaa.2 ⟨fun hb0=>⟨rfl,?m0⟩,fun hb0=>⟨?s0,fun z1=>fun hz1=>Qaa.2 ⟨fun hb1=>⟨rfl,?m1⟩,fun hb1=>⟨?s1,fun z2=>fun hz2=>Qaa.2 ⟨fun hb2=>⟨rfl,?m2⟩,fun hb2=>⟨?s2,fun z3=>fun hz3=>Qaa.2 ⟨fun hb3=>⟨rfl,?m3⟩,fun hb3=>⟨?s3,fun z4=>fun hz4=>⟨rfl,?m4⟩⟩⟩⟩⟩⟩⟩⟩⟩
     all_goals try simp only [decide_eq_true_eq,decide_eq_false_iff_not] at *
     all_goals try subst hz1
     all_goals try subst hz2
     all_goals try subst hz3
     all_goals try subst hz4
     case s0=>exact ⟨h1,by omega,by omega⟩
     case s1=>exact ⟨h2,by omega,by omega⟩
     case s2=>exact ⟨h3,by omega,by omega⟩
     case s3=>exact ⟨by omega,h4,by omega,by omega⟩
     all_goals refine (Qay ?_).sub
     all_goals unfold gt14
     case m0=>rw [decide_eq_true (by omega:300<S.length)]; rfl
     all_goals rw [decide_eq_false (by omega:¬ 300<S.length)]
     case m1=>rw [decide_eq_true (by omega:300<capD 300 D)]; rfl
     all_goals rw [decide_eq_false (by omega:¬ 300<capD 300 D)]
     case m2=>rw [decide_eq_true (by omega:300<Qbd 300 K)]; rfl
     all_goals rw [decide_eq_false (by omega:¬ 300<Qbd 300 K)]
     case m3=>rw [decide_eq_true (by omega:300<QaD 300 Y)]; rfl
     all_goals rw [decide_eq_false (by omega:¬ 300<QaD 300 Y)]
     case m4=>rfl
   · cases hs
 · cases hs
def QmU:Spec
 | [.f (.v (.string s)),.f x]=>match dtOf .tm x with
  | some l=>some (some (l.length≤100000000),.nm Yw (.mk false s (Qax l) [] []) tyP)
  | none=>none
 | _=>none
theorem cBaseN {E:Env} (hU:Up E):Contract Tryz.prog E 16 QmU:=by
 intro xs p r hs hp
 unfold QmU at hs
 split at hs
 · rename_i s x
   split at hs
   · rename_i l hl
     cases hs
     exact Qqx hU [.f (.v (.string s)),.f x] _ (.one (tyP (.mk false s (Qax l) [] []))) (by simp only [Qkh,hl]) hp
   · cases hs
 · cases hs
def QmI:Spec
 | [x,y]=>match tyOf x,tmOf y with
  | some t,some m=>some (some (t.fit∧(m.fitT∧Qbq m)∧(t.ref.size≤10000000∧m.size≤10000000)∧(keyB t.ref).length≤140737488355328∧(keyB m).length≤140737488355328),.nm Yw (QaB t m) tyP)
  | _,_=>none
 | _=>none
theorem cWithN {E:Env} (hU:Up E) (hT:∀ K w H,E K w H→Tab w):Contract Tryz.prog E 9 QmI:=by
 intro xs p r hs hp
 unfold QmI at hs
 split at hs
 · rename_i x y
   split at hs
   · rename_i t m h1 h2
     cases hs
     exact cWith hU hT [x,y] _ (.one (tyP (QaB t m))) (by simp only [QqW,h1,h2]) hp
   · cases hs
 · cases hs
def tLE:Tw:=.mk 9 ⟨#[]⟩ false [] [.mk 2 ⟨#[]⟩ false [] [],tV14]
def tEQ:Tw:=.mk 8 ⟨#[]⟩ false [] [tV14,Qdk]
def yT14:Yw:=.mk false bInt tLE [] []
def yU14:Yw:=.mk false bInt (.mk 11 ⟨#[]⟩ false [] [tLE,tEQ]) [] []
theorem Qqa:tV14.fitT:=⟨by decide,by decide,by decide,trivial⟩
theorem Qlu:Qdk.fitT:=⟨by decide,by decide,by decide,trivial⟩
theorem Qmt:tLE.fitT:=⟨by decide,by decide,by decide,⟨by decide,by decide,by decide,trivial⟩,Qqa,trivial⟩
theorem QiN:tEQ.fitT:=⟨by decide,by decide,by decide,Qqa,Qlu,trivial⟩
theorem QjZ:QaB yT14 tEQ=yU14:=by kernel_rfl
theorem QoI:QaB yU14 tEQ=yU14:=by rw [← QjZ,Qlo]
theorem QjY:sameY yU14 yU14=true:=QbB.2 rfl
theorem QoH:sameY yT14 yU14=false:=Bool.eq_false_iff.2 fun h=>absurd (congrArg (fun y:Yw=>y.ref.kind) (QbB.1 h)) (by decide)
theorem QoG:alikeY yT14 yU14=true:=by rw [QaX,if_pos ⟨rfl,rfl⟩]; rfl
theorem QoF:formedY [] [] [] yU14=0:=(QkL rfl).trans (by kernel_rfl)
theorem Qms:Qbq tV14:=⟨⟨by decide,fun x hx=>by cases hx⟩,trivial⟩
theorem Qj5:Qbq tLE:=⟨⟨by decide,fun x hx=>by cases hx⟩,⟨⟨by decide,fun x hx=>by cases hx⟩,trivial⟩,Qms,trivial⟩
theorem QgJ:Qbq tEQ:=⟨⟨by decide,fun x hx=>by cases hx⟩,Qms,⟨⟨by decide,fun x hx=>by cases hx with | head=>decide | tail _ h=>cases h⟩,trivial⟩,trivial⟩
theorem Qmi:yT14.fit:=(Yw.fit_eq _).2 ⟨⟨by decide,Qmt,Qj5⟩,⟨by decide,by decide⟩,trivial,trivial⟩
theorem Qee:yU14.fit:=(Yw.fit_eq _).2 ⟨⟨by decide,⟨by decide,by decide,by decide,Qmt,QiN,trivial⟩,⟨⟨by decide,fun x hx=>by cases hx⟩,Qj5,QgJ,trivial⟩⟩,⟨by decide,by decide⟩,trivial,trivial⟩
def QiW:Spec
 | []=>some (none,.one (bV true))
 | _=>none
set_option maxHeartbeats 4000000 in
theorem QpZ {E:Env} (hU:Up E) (hT:∀ K w H,E K w H→Tab w):Contract Tryz.prog E 5 QiW:=by
 refine Qad [(14,sV14),(15,QmL),(16,QmU),(9,QmI),(11,sSameY),(13,sAlike),(7,sWF)] [] Tryz.ntmps5 Tryz.func5 (by kernel_rfl) (by kernel_rfl) hU ⟨cV14 hU,cThree hU,cBaseN hU,cWithN hU hT,cSameY hU,cAlike hU,cWF hU,trivial⟩ trivial ?_
 intro xs p r hs hp
 unfold QiW at hs
 split at hs
 · cases hs
   refine ⟨[],[],.nil,rfl,fun _ hsh=>?_⟩
   have h0:=hsh
   refine Qab (p:=∀ (z1:Tw),z1=tV14→∀ (z2:Tw),z2=tV14→∀ (z3:Tw),z3=Qdk→1≤100000000∧∀ (z4:Yw),z4=Yw.mk false (ByteArray.mk #[(105:UInt8),(110:UInt8),(116:UInt8)]) (Qax [Tw.mk (9:Int) (ByteArray.mk #[]) false [] [Tw.mk (2:Int) (ByteArray.mk #[]) false [] [],Tw.mk z1.kind z1.name z1.neg z1.digits z1.kids]]) [] []→((Yw.mk z4.fn z4.sort (Tw.mk z4.ref.kind z4.ref.name z4.ref.neg z4.ref.digits z4.ref.kids) z4.params z4.result).fit∧((Tw.mk (8:Int) (ByteArray.mk #[]) false [] [Tw.mk z2.kind z2.name z2.neg z2.digits z2.kids,Tw.mk z3.kind z3.name z3.neg z3.digits z3.kids]).fitT∧Qbq (Tw.mk (8:Int) (ByteArray.mk #[]) false [] [Tw.mk z2.kind z2.name z2.neg z2.digits z2.kids,Tw.mk z3.kind z3.name z3.neg z3.digits z3.kids]))∧((Yw.mk z4.fn z4.sort (Tw.mk z4.ref.kind z4.ref.name z4.ref.neg z4.ref.digits z4.ref.kids) z4.params z4.result).ref.size≤10000000∧(Tw.mk (8:Int) (ByteArray.mk #[]) false [] [Tw.mk z2.kind z2.name z2.neg z2.digits z2.kids,Tw.mk z3.kind z3.name z3.neg z3.digits z3.kids]).size≤10000000)∧(keyB (Yw.mk z4.fn z4.sort (Tw.mk z4.ref.kind z4.ref.name z4.ref.neg z4.ref.digits z4.ref.kids) z4.params z4.result).ref).length≤140737488355328∧(keyB (Tw.mk (8:Int) (ByteArray.mk #[]) false [] [Tw.mk z2.kind z2.name z2.neg z2.digits z2.kids,Tw.mk z3.kind z3.name z3.neg z3.digits z3.kids])).length≤140737488355328)∧∀ (z5:Yw),z5=QaB (Yw.mk z4.fn z4.sort (Tw.mk z4.ref.kind z4.ref.name z4.ref.neg z4.ref.digits z4.ref.kids) z4.params z4.result) (Tw.mk (8:Int) (ByteArray.mk #[]) false [] [Tw.mk z2.kind z2.name z2.neg z2.digits z2.kids,Tw.mk z3.kind z3.name z3.neg z3.digits z3.kids])→2≤100000000∧∀ (z6:Yw),z6=Yw.mk false (ByteArray.mk #[(105:UInt8),(110:UInt8),(116:UInt8)]) (Qax [Tw.mk (9:Int) (ByteArray.mk #[]) false [] [Tw.mk (2:Int) (ByteArray.mk #[]) false [] [],Tw.mk z1.kind z1.name z1.neg z1.digits z1.kids],Tw.mk (8:Int) (ByteArray.mk #[]) false [] [Tw.mk z2.kind z2.name z2.neg z2.digits z2.kids,Tw.mk z3.kind z3.name z3.neg z3.digits z3.kids]]) [] []→((Yw.mk z5.fn z5.sort (Tw.mk z5.ref.kind z5.ref.name z5.ref.neg z5.ref.digits z5.ref.kids) z5.params z5.result).fit∧(Yw.mk z6.fn z6.sort (Tw.mk z6.ref.kind z6.ref.name z6.ref.neg z6.ref.digits z6.ref.kids) z6.params z6.result).fit)∧∀ (z7:Bool),z7=sameY (Yw.mk z5.fn z5.sort (Tw.mk z5.ref.kind z5.ref.name z5.ref.neg z5.ref.digits z5.ref.kids) z5.params z5.result) (Yw.mk z6.fn z6.sort (Tw.mk z6.ref.kind z6.ref.name z6.ref.neg z6.ref.digits z6.ref.kids) z6.params z6.result)→ifB z7 (((Yw.mk z5.fn z5.sort (Tw.mk z5.ref.kind z5.ref.name z5.ref.neg z5.ref.digits z5.ref.kids) z5.params z5.result).fit∧((Tw.mk (8:Int) (ByteArray.mk #[]) false [] [Tw.mk z2.kind z2.name z2.neg z2.digits z2.kids,Tw.mk z3.kind z3.name z3.neg z3.digits z3.kids]).fitT∧Qbq (Tw.mk (8:Int) (ByteArray.mk #[]) false [] [Tw.mk z2.kind z2.name z2.neg z2.digits z2.kids,Tw.mk z3.kind z3.name z3.neg z3.digits z3.kids]))∧((Yw.mk z5.fn z5.sort (Tw.mk z5.ref.kind z5.ref.name z5.ref.neg z5.ref.digits z5.ref.kids) z5.params z5.result).ref.size≤10000000∧(Tw.mk (8:Int) (ByteArray.mk #[]) false [] [Tw.mk z2.kind z2.name z2.neg z2.digits z2.kids,Tw.mk z3.kind z3.name z3.neg z3.digits z3.kids]).size≤10000000)∧(keyB (Yw.mk z5.fn z5.sort (Tw.mk z5.ref.kind z5.ref.name z5.ref.neg z5.ref.digits z5.ref.kids) z5.params z5.result).ref).length≤140737488355328∧(keyB (Tw.mk (8:Int) (ByteArray.mk #[]) false [] [Tw.mk z2.kind z2.name z2.neg z2.digits z2.kids,Tw.mk z3.kind z3.name z3.neg z3.digits z3.kids])).length≤140737488355328)∧∀ (z8:Yw),z8=QaB (Yw.mk z5.fn z5.sort (Tw.mk z5.ref.kind z5.ref.name z5.ref.neg z5.ref.digits z5.ref.kids) z5.params z5.result) (Tw.mk (8:Int) (ByteArray.mk #[]) false [] [Tw.mk z2.kind z2.name z2.neg z2.digits z2.kids,Tw.mk z3.kind z3.name z3.neg z3.digits z3.kids])→((Yw.mk z8.fn z8.sort (Tw.mk z8.ref.kind z8.ref.name z8.ref.neg z8.ref.digits z8.ref.kids) z8.params z8.result).fit∧(Yw.mk z5.fn z5.sort (Tw.mk z5.ref.kind z5.ref.name z5.ref.neg z5.ref.digits z5.ref.kids) z5.params z5.result).fit)∧∀ (z9:Bool),z9=sameY (Yw.mk z8.fn z8.sort (Tw.mk z8.ref.kind z8.ref.name z8.ref.neg z8.ref.digits z8.ref.kids) z8.params z8.result) (Yw.mk z5.fn z5.sort (Tw.mk z5.ref.kind z5.ref.name z5.ref.neg z5.ref.digits z5.ref.kids) z5.params z5.result)→ifB z9 (((Yw.mk z4.fn z4.sort (Tw.mk z4.ref.kind z4.ref.name z4.ref.neg z4.ref.digits z4.ref.kids) z4.params z4.result).fit∧(Yw.mk z5.fn z5.sort (Tw.mk z5.ref.kind z5.ref.name z5.ref.neg z5.ref.digits z5.ref.kids) z5.params z5.result).fit)∧∀ (z10:Bool),z10=sameY (Yw.mk z4.fn z4.sort (Tw.mk z4.ref.kind z4.ref.name z4.ref.neg z4.ref.digits z4.ref.kids) z4.params z4.result) (Yw.mk z5.fn z5.sort (Tw.mk z5.ref.kind z5.ref.name z5.ref.neg z5.ref.digits z5.ref.kids) z5.params z5.result)→ifB (!z10) (((Yw.mk z4.fn z4.sort (Tw.mk z4.ref.kind z4.ref.name z4.ref.neg z4.ref.digits z4.ref.kids) z4.params z4.result).fit∧(Yw.mk z5.fn z5.sort (Tw.mk z5.ref.kind z5.ref.name z5.ref.neg z5.ref.digits z5.ref.kids) z5.params z5.result).fit)∧∀ (z11:Bool),z11=alikeY (Yw.mk z4.fn z4.sort (Tw.mk z4.ref.kind z4.ref.name z4.ref.neg z4.ref.digits z4.ref.kids) z4.params z4.result) (Yw.mk z5.fn z5.sort (Tw.mk z5.ref.kind z5.ref.name z5.ref.neg z5.ref.digits z5.ref.kids) z5.params z5.result)→ifB z11 (((Yw.mk z5.fn z5.sort (Tw.mk z5.ref.kind z5.ref.name z5.ref.neg z5.ref.digits z5.ref.kids) z5.params z5.result).fit∧fitK []∧(Yw.mk z5.fn z5.sort (Tw.mk z5.ref.kind z5.ref.name z5.ref.neg z5.ref.digits z5.ref.kids) z5.params z5.result).wt≤100000000∧0+(Yw.mk z5.fn z5.sort (Tw.mk z5.ref.kind z5.ref.name z5.ref.neg z5.ref.digits z5.ref.kids) z5.params z5.result).size≤100000000)∧∀ (z12:Int),z12=formedY [] [] [] (Yw.mk z5.fn z5.sort (Tw.mk z5.ref.kind z5.ref.name z5.ref.neg z5.ref.digits z5.ref.kids) z5.params z5.result)→true=true∧Sub (bV (z12==(0:Int))) (bV true)) (true=true∧Sub (bV false) (bV true))) (true=true∧Sub (bV false) (bV true))) (true=true∧Sub (bV false) (bV true))) (true=true∧Sub (bV false) (bV true))) ?kr ?_
   case kr=>kernel_rfl
   refine fun z1=>fun hz1=>fun z2=>fun hz2=>fun z3=>fun hz3=>⟨?s0,fun z4=>fun hz4=>⟨?s1,fun z5=>fun hz5=>⟨?s2,fun z6=>fun hz6=>⟨?s3,fun z7=>fun hz7=>Qaa.2 ⟨fun hb0=>⟨?s4,fun z8=>fun hz8=>⟨?s5,fun z9=>fun hz9=>Qaa.2 ⟨fun hb1=>⟨?s6,fun z10=>fun hz10=>Qaa.2 ⟨fun hb2=>⟨?s7,fun z11=>fun hz11=>Qaa.2 ⟨fun hb3=>⟨?s8,fun z12=>fun hz12=>⟨rfl,?m0⟩⟩,fun hb3=>⟨rfl,?m1⟩⟩⟩,fun hb2=>⟨rfl,?m2⟩⟩⟩,fun hb1=>⟨rfl,?m3⟩⟩⟩⟩,fun hb0=>⟨rfl,?m4⟩⟩⟩⟩⟩⟩
   all_goals try simp only [Tw.eta,Yw.eta] at *
   all_goals subst hz1
   case s0=>omega
   all_goals subst hz2
   all_goals subst hz3
   all_goals have e4:z4=yT14:=hz4
   all_goals clear hz4
   all_goals subst e4
   case s1=>exact ⟨Qmi,⟨QiN,QgJ⟩,⟨by decide,by decide⟩,Nat.le_of_ble_eq_true (by kernel_rfl),Nat.le_of_ble_eq_true (by kernel_rfl)⟩
   all_goals have e5:z5=yU14:=Eq.trans (b:=QaB yT14 tEQ) hz5 QjZ
   all_goals clear hz5
   all_goals subst e5
   case s2=>omega
   all_goals have e6:z6=yU14:=hz6
   all_goals clear hz6
   all_goals subst e6
   case s3=>exact ⟨Qee,Qee⟩
   case m4=>rw [hz7,QjY] at hb0; cases hb0
   case s4=>exact ⟨Qee,⟨QiN,QgJ⟩,⟨by decide,by decide⟩,Nat.le_of_ble_eq_true (by kernel_rfl),Nat.le_of_ble_eq_true (by kernel_rfl)⟩
   all_goals have e8:z8=yU14:=Eq.trans (b:=QaB yU14 tEQ) hz8 QoI
   all_goals clear hz8
   all_goals subst e8
   case s5=>exact ⟨Qee,Qee⟩
   case m3=>rw [hz9,QjY] at hb1; cases hb1
   case s6=>exact ⟨Qmi,Qee⟩
   case m2=>rw [hz10,QoH] at hb2; cases hb2
   case s7=>exact ⟨Qmi,Qee⟩
   case m1=>rw [hz11,QoG] at hb3; cases hb3
   case s8=>exact ⟨Qee,(fun k hk=>by cases hk),Nat.le_of_ble_eq_true (by kernel_rfl),Nat.le_of_ble_eq_true (by kernel_rfl)⟩
   case m0=>rw [hz12,QoF]; exact .refl _
 · cases hs
end Go.Proofs.YtdeacbdpmdfgdaaGreatDoor
namespace Go.Proofs.YtdeacbdpmdfgdaaGreatDoor
open Go.RowKit
set_option linter.unusedVariables false
set_option maxRecDepth 100000
section
variable {D : List Dat} {K : List Kap} {m : Srt}
theorem QiS (S:List Srt) (x:ByteArray × Yw):QbA (m::S) x=m::QbA S x:=by
 unfold QbA
 split <;> rfl
theorem Qdf:∀ {l:List (ByteArray × Yw)} {S:List Srt} {e:Int},formedP D K S l=.error e→e≠0
 | [],S,e,h=>by rw [formedP] at h; cases h
 | x::l,S,e,h=>by
  rw [formedP] at h
  split at h
  · rename_i hx; cases h; exact hx
  · exact Qdf h
mutual
theorem QcG:∀ (y:Yw) {S:List Srt},formedY D K S y=0→formedY D K (m::S) y=0
 | .mk f s t p r,S,h=>by
  rw [formedY] at h ⊢
  split at h
  · rename_i hb
    rw [if_pos hb]
    exact QgX h (fun e=>QnY) (fun t e=>Qdl)
  rename_i c1
  rw [if_neg c1]
  split at h
  · cases h
  rename_i c2
  rw [if_neg c2]
  split at h
  · cases h
  rename_i c3
  rw [if_neg c3]
  split at h
  · cases h
  rename_i c4
  rw [if_neg c4]
  split at h
  · rename_i e he
    exact absurd h (Qdf he)
  · rename_i S' hS
    rw [Qdz p hS]
    exact Qhb r h
theorem Qhc:∀ (x:ByteArray × Yw) {S:List Srt},formedQ D K S x=0→formedQ D K (m::S) x=0
 | (s,y),S,h=>by
  rw [formedQ] at h ⊢
  exact QcG y h
theorem Qdz:∀ (l:List (ByteArray × Yw)) {S S':List Srt},formedP D K S l=.ok S'→formedP D K (m::S) l=.ok (m::S')
 | [],S,S',h=>by rw [formedP] at h ⊢; cases h; rfl
 | x::l,S,S',h=>by
  rw [formedP] at h ⊢
  split at h
  · cases h
  · rename_i hx
    rw [if_neg (fun hc=>hc (Qhc x (Classical.not_not.1 hx))),QiS]
    exact Qdz l h
theorem Qhb:∀ (l:List Yw) {S:List Srt},formedR D K S l=0→formedR D K (m::S) l=0
 | [],S,h=>by rw [formedR]
 | y::l,S,h=>by
  rw [formedR] at h ⊢
  exact QcG y h
end
theorem QbM {S:List Srt} {y:Yw} (h:formedY D K S y=0) (hb:Qa0 y=false):funsY y=true∧(∀ i,i<y.params.length→formedY D K (scL S (y.params.take i)) (y.params.getD i Sh.prm.nil).2=0)∧formedY D K (scL S y.params) (y.result.getD 0 Sh.ty.nil)=0:=by
 rw [Qbc,if_neg (by rw [hb]; decide)] at h
 split at h
 · cases h
 rename_i c2
 have hf:funsY y=true:=by
  cases hc:funsY y with
  | true=>rfl
  | false=>exact absurd hc c2
 split at h
 · cases h
 split at h
 · cases h
 split at h
 · rename_i e he
   exact absurd h (Qdf he)
 · rename_i S' hS
   rw [Qfo (QaC hf),Qgm hS] at h
   exact ⟨hf,fun i hi=>Qgn hS hi,h⟩
theorem Qp3 {y:Yw} (h:Qa0 y=true):y.params.length=0∧y.fn=false:=by
 unfold Qa0 at h
 rw [Bool.and_eq_true,Bool.and_eq_true,decide_eq_true_eq] at h
 exact ⟨h.2.1,by simpa using h.1⟩
end
noncomputable def sWider:Spec
 | [.f a,.f b,.f c,x,.agg [.f (.v (.string p)),.f (.v (.string q))]]=>match dtOf .dat a,dtOf .kap b,dtOf .srt c,tyOf x with
  | some D,some K,some S,some y=>some (some ((y.fit∧fitK K)∧cntD D≤4000000∧Qa6 K≤4000000∧cntY y≤4000000∧S.length≤4000000),.one (bV true))
  | _,_,_,_=>none
 | _=>none
set_option maxHeartbeats 8000000 in
theorem cWider {E:Env} (hU:Up E) (hT:∀ K w H,E K w H→Tab w):Contract Tryz.prog E 3 sWider:=by
 refine Qad [(5,QiW),(6,QgT),(7,sWF)] [] Tryz.ntmps3 Tryz.func3 (by kernel_rfl) (by kernel_rfl) hU ⟨QpZ hU hT,QpX hU,cWF hU,trivial⟩ trivial ?_
 intro xs pp r hs hp
 unfold sWider at hs
 split at hs
 · rename_i a b c x p q
   split at hs
   · rename_i D K S y ha hb hc hx
     cases hs
     obtain ⟨⟨hf,hK⟩,c1,c2,c3,c4⟩:=hp _ rfl
     refine ⟨[.f (.dt .dat D),.f (.dt .kap K),.f (.dt .srt S),tyP y,.agg [.f (.v (.string p)),.f (.v (.string q))]],[
      (12,.s ⟨Nat,fun i=>⟨[(0,.f (.dt .dat D)),(1,.f (.dt .kap K)),(8,.bp 0 0),(12,.tl 3 (.dt .srt (scL S (y.params.take i)))),(13,iV i)],[.cells (Qac (tyC y)),.cells [sV p,sV q],.gone,.tail 37 2]⟩,fun i=>i≤y.params.length∧formedY D K S y=0,fun i=>y.params.length - i⟩)],.cons (QbN ha).sub (.cons (QbN hb).sub (.cons (QbN hc).sub (.cons (Qck hx).sub (.cons (.refl _) .nil)))),rfl,fun _ hsh=>?_⟩
     have f2:=(Yw.fit_eq y).1 hf
     refine Qab (p:=(cntD D≤4000000∧Qa6 K≤4000000∧QaF [Yw.mk y.fn y.sort (Tw.mk y.ref.kind y.ref.name y.ref.neg y.ref.digits y.ref.kids) y.params y.result]≤4000000∧0≤4000000)∧∀ (z1:Bool),z1=gt14 D K S [Yw.mk y.fn y.sort (Tw.mk y.ref.kind y.ref.name y.ref.neg y.ref.digits y.ref.kids) y.params y.result] []→ifB z1 (true=true∧Sub (bV true) (bV true)) (((Yw.mk y.fn y.sort (Tw.mk y.ref.kind y.ref.name y.ref.neg y.ref.digits y.ref.kids) y.params y.result).fit∧fitK K∧(Yw.mk y.fn y.sort (Tw.mk y.ref.kind y.ref.name y.ref.neg y.ref.digits y.ref.kids) y.params y.result).wt≤100000000∧S.length+(Yw.mk y.fn y.sort (Tw.mk y.ref.kind y.ref.name y.ref.neg y.ref.digits y.ref.kids) y.params y.result).size≤100000000)∧∀ (z2:Int),z2=formedY D K S (Yw.mk y.fn y.sort (Tw.mk y.ref.kind y.ref.name y.ref.neg y.ref.digits y.ref.kids) y.params y.result)→ifB (z2 != (0:Int)) (true=true∧Sub (bV true) (bV true)) ((1+S.length≤9223372036854775807∧(1+S.length) * 32≤140737488355328)∧((Yw.mk y.fn y.sort (Tw.mk y.ref.kind y.ref.name y.ref.neg y.ref.digits y.ref.kids) y.params y.result).fit∧fitK K∧(Yw.mk y.fn y.sort (Tw.mk y.ref.kind y.ref.name y.ref.neg y.ref.digits y.ref.kids) y.params y.result).wt≤100000000∧([Srt.mk p q]++S).length+(Yw.mk y.fn y.sort (Tw.mk y.ref.kind y.ref.name y.ref.neg y.ref.digits y.ref.kids) y.params y.result).size≤100000000)∧∀ (z3:Int),z3=formedY D K ([Srt.mk p q]++S) (Yw.mk y.fn y.sort (Tw.mk y.ref.kind y.ref.name y.ref.neg y.ref.digits y.ref.kids) y.params y.result)→ifB (z3 != (0:Int)) (true=true∧Sub (bV false) (bV true)) ((S.length≤9223372036854775807∧S.length * 32≤140737488355328)∧∃ (x4:Nat),(((SubB (bV y.fn) (bV y.fn)∧SubB (sV y.sort) (sV y.sort)∧SubB (PV.f (Lf.v (Value.int IntKind.u8 y.ref.kind))) (PV.f (Lf.v (Value.int IntKind.u8 y.ref.kind)))∧SubB (sV y.ref.name) (sV y.ref.name)∧SubB (bV y.ref.neg) (bV y.ref.neg)∧SubB (PV.f (Lf.lr y.ref.digits y.ref.digits.length)) (PV.f (Lf.lr y.ref.digits y.ref.digits.length))∧SubB (PV.f (Lf.dt Sh.tm y.ref.kids)) (PV.f (Lf.dt Sh.tm y.ref.kids))∧SubB (PV.f (Lf.dt Sh.prm y.params)) (PV.f (Lf.dt Sh.prm y.params))∧SubB (PV.f (Lf.dt Sh.ty y.result)) (PV.f (Lf.dt Sh.ty y.result))∧True)∧(SubB (sV p) (sV p)∧SubB (sV q) (sV q)∧True)∧True)∧SubB (PV.f (Lf.dt Sh.dat D)) (PV.f (Lf.dt Sh.dat D))∧SubB (PV.f (Lf.dt Sh.kap K)) (PV.f (Lf.dt Sh.kap K))∧SubB (PV.bp 0 0) (PV.bp 0 0)∧SubB (PV.tl 3 (Lf.dt Sh.srt S)) (PV.tl 3 (Lf.dt Sh.srt (scL S (List.take x4 y.params))))∧SubB (iV 0) (iV (↑x4:Int))∧True)∧(x4≤y.params.length∧formedY D K S y=(0:Int))∧True∧∀ (z5:Nat),z5≤y.params.length∧formedY D K S y=(0:Int)→True→ifB (decide ((↑z5:Int)<(↑y.params.length:Int))) (((0:Int)≤(↑z5:Int)∧(↑z5:Int)<(↑y.params.length:Int))∧((Yw.mk (y.params.getD (↑z5:Int).toNat Sh.prm.nil).snd.fn (y.params.getD (↑z5:Int).toNat Sh.prm.nil).snd.sort (Tw.mk (y.params.getD (↑z5:Int).toNat Sh.prm.nil).snd.ref.kind (y.params.getD (↑z5:Int).toNat Sh.prm.nil).snd.ref.name (y.params.getD (↑z5:Int).toNat Sh.prm.nil).snd.ref.neg (y.params.getD (↑z5:Int).toNat Sh.prm.nil).snd.ref.digits (y.params.getD (↑z5:Int).toNat Sh.prm.nil).snd.ref.kids) (y.params.getD (↑z5:Int).toNat Sh.prm.nil).snd.params (y.params.getD (↑z5:Int).toNat Sh.prm.nil).snd.result).fit∧fitK K∧(Yw.mk (y.params.getD (↑z5:Int).toNat Sh.prm.nil).snd.fn (y.params.getD (↑z5:Int).toNat Sh.prm.nil).snd.sort (Tw.mk (y.params.getD (↑z5:Int).toNat Sh.prm.nil).snd.ref.kind (y.params.getD (↑z5:Int).toNat Sh.prm.nil).snd.ref.name (y.params.getD (↑z5:Int).toNat Sh.prm.nil).snd.ref.neg (y.params.getD (↑z5:Int).toNat Sh.prm.nil).snd.ref.digits (y.params.getD (↑z5:Int).toNat Sh.prm.nil).snd.ref.kids) (y.params.getD (↑z5:Int).toNat Sh.prm.nil).snd.params (y.params.getD (↑z5:Int).toNat Sh.prm.nil).snd.result).wt≤100000000∧(scL S (List.take z5 y.params)).length+(Yw.mk (y.params.getD (↑z5:Int).toNat Sh.prm.nil).snd.fn (y.params.getD (↑z5:Int).toNat Sh.prm.nil).snd.sort (Tw.mk (y.params.getD (↑z5:Int).toNat Sh.prm.nil).snd.ref.kind (y.params.getD (↑z5:Int).toNat Sh.prm.nil).snd.ref.name (y.params.getD (↑z5:Int).toNat Sh.prm.nil).snd.ref.neg (y.params.getD (↑z5:Int).toNat Sh.prm.nil).snd.ref.digits (y.params.getD (↑z5:Int).toNat Sh.prm.nil).snd.ref.kids) (y.params.getD (↑z5:Int).toNat Sh.prm.nil).snd.params (y.params.getD (↑z5:Int).toNat Sh.prm.nil).snd.result).size≤100000000)∧∀ (z6:Int),z6=formedY D K (scL S (List.take z5 y.params)) (Yw.mk (y.params.getD (↑z5:Int).toNat Sh.prm.nil).snd.fn (y.params.getD (↑z5:Int).toNat Sh.prm.nil).snd.sort (Tw.mk (y.params.getD (↑z5:Int).toNat Sh.prm.nil).snd.ref.kind (y.params.getD (↑z5:Int).toNat Sh.prm.nil).snd.ref.name (y.params.getD (↑z5:Int).toNat Sh.prm.nil).snd.ref.neg (y.params.getD (↑z5:Int).toNat Sh.prm.nil).snd.ref.digits (y.params.getD (↑z5:Int).toNat Sh.prm.nil).snd.ref.kids) (y.params.getD (↑z5:Int).toNat Sh.prm.nil).snd.params (y.params.getD (↑z5:Int).toNat Sh.prm.nil).snd.result)→ifB (z6 != (0:Int)) (true=true∧Sub (bV false) (bV true)) (ifB (!(y.params.getD (↑z5:Int).toNat Sh.prm.nil).snd.fn) (((scL S (List.take z5 y.params)).length+1≤9223372036854775807∧((scL S (List.take z5 y.params)).length+1) * 32≤140737488355328)∧∃ (x7:Nat),(((SubB (bV y.fn) (bV y.fn)∧SubB (sV y.sort) (sV y.sort)∧SubB (PV.f (Lf.v (Value.int IntKind.u8 y.ref.kind))) (PV.f (Lf.v (Value.int IntKind.u8 y.ref.kind)))∧SubB (sV y.ref.name) (sV y.ref.name)∧SubB (bV y.ref.neg) (bV y.ref.neg)∧SubB (PV.f (Lf.lr y.ref.digits y.ref.digits.length)) (PV.f (Lf.lr y.ref.digits y.ref.digits.length))∧SubB (PV.f (Lf.dt Sh.tm y.ref.kids)) (PV.f (Lf.dt Sh.tm y.ref.kids))∧SubB (PV.f (Lf.dt Sh.prm y.params)) (PV.f (Lf.dt Sh.prm y.params))∧SubB (PV.f (Lf.dt Sh.ty y.result)) (PV.f (Lf.dt Sh.ty y.result))∧True)∧(SubB (sV p) (sV p)∧SubB (sV q) (sV q)∧True)∧True)∧SubB (PV.f (Lf.dt Sh.dat D)) (PV.f (Lf.dt Sh.dat D))∧SubB (PV.f (Lf.dt Sh.kap K)) (PV.f (Lf.dt Sh.kap K))∧SubB (PV.bp 0 0) (PV.bp 0 0)∧SubB (PV.tl 3 (Lf.dt Sh.srt (scL S (List.take z5 y.params)++[Srt.mk (y.params.getD (↑z5:Int).toNat Sh.prm.nil).fst (y.params.getD (↑z5:Int).toNat Sh.prm.nil).snd.sort]))) (PV.tl 3 (Lf.dt Sh.srt (scL S (List.take x7 y.params))))∧SubB (iV (IntKind.i64.wrap ((↑z5:Int)+(1:Int)))) (iV (↑x7:Int))∧True)∧(x7≤y.params.length∧formedY D K S y=(0:Int))∧True∧(y.params.length - x7).succ.le (y.params.length - z5)) (∃ (x7:Nat),(((SubB (bV y.fn) (bV y.fn)∧SubB (sV y.sort) (sV y.sort)∧SubB (PV.f (Lf.v (Value.int IntKind.u8 y.ref.kind))) (PV.f (Lf.v (Value.int IntKind.u8 y.ref.kind)))∧SubB (sV y.ref.name) (sV y.ref.name)∧SubB (bV y.ref.neg) (bV y.ref.neg)∧SubB (PV.f (Lf.lr y.ref.digits y.ref.digits.length)) (PV.f (Lf.lr y.ref.digits y.ref.digits.length))∧SubB (PV.f (Lf.dt Sh.tm y.ref.kids)) (PV.f (Lf.dt Sh.tm y.ref.kids))∧SubB (PV.f (Lf.dt Sh.prm y.params)) (PV.f (Lf.dt Sh.prm y.params))∧SubB (PV.f (Lf.dt Sh.ty y.result)) (PV.f (Lf.dt Sh.ty y.result))∧True)∧(SubB (sV p) (sV p)∧SubB (sV q) (sV q)∧True)∧True)∧SubB (PV.f (Lf.dt Sh.dat D)) (PV.f (Lf.dt Sh.dat D))∧SubB (PV.f (Lf.dt Sh.kap K)) (PV.f (Lf.dt Sh.kap K))∧SubB (PV.bp 0 0) (PV.bp 0 0)∧SubB (PV.tl 3 (Lf.dt Sh.srt (scL S (List.take z5 y.params)))) (PV.tl 3 (Lf.dt Sh.srt (scL S (List.take x7 y.params))))∧SubB (iV (IntKind.i64.wrap ((↑z5:Int)+(1:Int)))) (iV (↑x7:Int))∧True)∧(x7≤y.params.length∧formedY D K S y=(0:Int))∧True∧(y.params.length - x7).succ.le (y.params.length - z5)))) (ifB (!y.fn) (true=true∧Sub (bV true) (bV true)) (((0:Int)≤(0:Int)∧(0:Int)<(↑y.result.length:Int))∧((Yw.mk (Yw.fn (y.result.getD (Int.toNat (0:Int)) Sh.ty.nil)) (Yw.sort (y.result.getD (Int.toNat (0:Int)) Sh.ty.nil)) (Tw.mk (Yw.ref (y.result.getD (Int.toNat (0:Int)) Sh.ty.nil)).kind (Yw.ref (y.result.getD (Int.toNat (0:Int)) Sh.ty.nil)).name (Yw.ref (y.result.getD (Int.toNat (0:Int)) Sh.ty.nil)).neg (Yw.ref (y.result.getD (Int.toNat (0:Int)) Sh.ty.nil)).digits (Yw.ref (y.result.getD (Int.toNat (0:Int)) Sh.ty.nil)).kids) (Yw.params (y.result.getD (Int.toNat (0:Int)) Sh.ty.nil)) (Yw.result (y.result.getD (Int.toNat (0:Int)) Sh.ty.nil))).fit∧fitK K∧(Yw.mk (Yw.fn (y.result.getD (Int.toNat (0:Int)) Sh.ty.nil)) (Yw.sort (y.result.getD (Int.toNat (0:Int)) Sh.ty.nil)) (Tw.mk (Yw.ref (y.result.getD (Int.toNat (0:Int)) Sh.ty.nil)).kind (Yw.ref (y.result.getD (Int.toNat (0:Int)) Sh.ty.nil)).name (Yw.ref (y.result.getD (Int.toNat (0:Int)) Sh.ty.nil)).neg (Yw.ref (y.result.getD (Int.toNat (0:Int)) Sh.ty.nil)).digits (Yw.ref (y.result.getD (Int.toNat (0:Int)) Sh.ty.nil)).kids) (Yw.params (y.result.getD (Int.toNat (0:Int)) Sh.ty.nil)) (Yw.result (y.result.getD (Int.toNat (0:Int)) Sh.ty.nil))).wt≤100000000∧(scL S (List.take z5 y.params)).length+(Yw.mk (Yw.fn (y.result.getD (Int.toNat (0:Int)) Sh.ty.nil)) (Yw.sort (y.result.getD (Int.toNat (0:Int)) Sh.ty.nil)) (Tw.mk (Yw.ref (y.result.getD (Int.toNat (0:Int)) Sh.ty.nil)).kind (Yw.ref (y.result.getD (Int.toNat (0:Int)) Sh.ty.nil)).name (Yw.ref (y.result.getD (Int.toNat (0:Int)) Sh.ty.nil)).neg (Yw.ref (y.result.getD (Int.toNat (0:Int)) Sh.ty.nil)).digits (Yw.ref (y.result.getD (Int.toNat (0:Int)) Sh.ty.nil)).kids) (Yw.params (y.result.getD (Int.toNat (0:Int)) Sh.ty.nil)) (Yw.result (y.result.getD (Int.toNat (0:Int)) Sh.ty.nil))).size≤100000000)∧∀ (z6:Int),z6=formedY D K (scL S (List.take z5 y.params)) (Yw.mk (Yw.fn (y.result.getD (Int.toNat (0:Int)) Sh.ty.nil)) (Yw.sort (y.result.getD (Int.toNat (0:Int)) Sh.ty.nil)) (Tw.mk (Yw.ref (y.result.getD (Int.toNat (0:Int)) Sh.ty.nil)).kind (Yw.ref (y.result.getD (Int.toNat (0:Int)) Sh.ty.nil)).name (Yw.ref (y.result.getD (Int.toNat (0:Int)) Sh.ty.nil)).neg (Yw.ref (y.result.getD (Int.toNat (0:Int)) Sh.ty.nil)).digits (Yw.ref (y.result.getD (Int.toNat (0:Int)) Sh.ty.nil)).kids) (Yw.params (y.result.getD (Int.toNat (0:Int)) Sh.ty.nil)) (Yw.result (y.result.getD (Int.toNat (0:Int)) Sh.ty.nil)))→true=true∧Sub (bV (z6==(0:Int))) (bV true))))))) ?kr ?_
     case kr=>kernel_rfl
     refine ⟨?s0,fun z1=>fun hz1=>Qaa.2 ⟨fun hb0=>⟨rfl,?m0⟩,fun hb0=>⟨?s1,fun z2=>fun hz2=>Qaa.2 ⟨fun hb1=>⟨rfl,?m1⟩,fun hb1=>⟨?s2,⟨?s3,fun z3=>fun hz3=>Qaa.2 ⟨fun hb2=>⟨rfl,?m2⟩,fun hb2=>⟨?s4,⟨?x0,⟨⟨⟨⟨.refl _,⟨.refl _,⟨.refl _,⟨.refl _,⟨.refl _,⟨.refl _,⟨.refl _,⟨.refl _,⟨.refl _,trivial⟩⟩⟩⟩⟩⟩⟩⟩⟩,⟨⟨.refl _,⟨.refl _,trivial⟩⟩,trivial⟩⟩,⟨.refl _,⟨.refl _,⟨.refl _,⟨?m3,⟨?m4,trivial⟩⟩⟩⟩⟩⟩,⟨?s5,⟨trivial,fun z5=>fun hq3=>fun _=>Qaa.2 ⟨fun hb4=>⟨?s6,⟨?s7,fun z6=>fun hz6=>Qaa.2 ⟨fun hb5=>⟨rfl,?m5⟩,fun hb5=>Qaa.2 ⟨fun hb6=>⟨?s8,⟨?x1,⟨⟨⟨⟨.refl _,⟨.refl _,⟨.refl _,⟨.refl _,⟨.refl _,⟨.refl _,⟨.refl _,⟨.refl _,⟨.refl _,trivial⟩⟩⟩⟩⟩⟩⟩⟩⟩,⟨⟨.refl _,⟨.refl _,trivial⟩⟩,trivial⟩⟩,⟨.refl _,⟨.refl _,⟨.refl _,⟨?m6,⟨?m7,trivial⟩⟩⟩⟩⟩⟩,⟨?s9,⟨trivial,?m8⟩⟩⟩⟩⟩,fun hb6=>⟨?x2,⟨⟨⟨⟨.refl _,⟨.refl _,⟨.refl _,⟨.refl _,⟨.refl _,⟨.refl _,⟨.refl _,⟨.refl _,⟨.refl _,trivial⟩⟩⟩⟩⟩⟩⟩⟩⟩,⟨⟨.refl _,⟨.refl _,trivial⟩⟩,trivial⟩⟩,⟨.refl _,⟨.refl _,⟨.refl _,⟨?m9,⟨?m10,trivial⟩⟩⟩⟩⟩⟩,⟨?s10,⟨trivial,?m11⟩⟩⟩⟩⟩⟩⟩⟩,fun hb4=>Qaa.2 ⟨fun hb7=>⟨rfl,?m12⟩,fun hb7=>⟨?s11,⟨?s12,fun z6=>fun hz6=>⟨rfl,?m13⟩⟩⟩⟩⟩⟩⟩⟩⟩⟩⟩⟩⟩⟩⟩⟩⟩
     case x0=>exact 0
     case x1=>exact z5+1
     case x2=>exact z5+1
     all_goals try simp only [Tw.eta,Yw.eta,Bool.not_eq_true',Bool.not_eq_false',decide_eq_true_eq,decide_eq_false_iff_not,Int.toNat_natCast,Int.toNat_zero,Int.ofNat_lt,bne_iff_ne,ne_eq,bne_eq_false_iff_eq,beq_iff_eq] at *
     all_goals have e1:=QfH y
     all_goals have e2:=y.size_eq
     all_goals have e3:=y.wt_eq
     case s0=>exact ⟨c1,c2,by rw [QaF,QaF]; omega,by omega⟩
     case m0=>exact .refl _
     case s1=>exact ⟨hf,hK,by omega,by omega⟩
     case m1=>exact .refl _
     all_goals rw [hz2] at hb1
     case s2=>omega
     case s3=>exact ⟨hf,hK,by omega,by show S.length+1+y.size≤100000000; omega⟩
     case m2=>exact absurd (hz3.trans (QcG (m:=⟨p,q⟩) y hb1)) hb2
     case s4=>omega
     case m3=>exact .refl _
     case m4=>exact .refl _
     case s5=>exact ⟨Nat.zero_le _,hb1⟩
     all_goals have hsl:=QiT (l:=y.params.take z5) (S:=S)
     all_goals have htl:(y.params.take z5).length≤z5:=by rw [List.length_take]; omega
     all_goals have hpl:=Qmv (l:=y.params)
     case m12=>exact .refl _
     case s11 =>
      have hp:=QbM hb1 (by unfold Qa0; rw [hb7]; rfl)
      have:=QaC hp.1
      omega
     case s12 =>
      have hp:=QbM hb1 (by unfold Qa0; rw [hb7]; rfl)
      have hi:=gotD Sh.ty.nil (show 0<y.result.length by have:=QaC hp.1; omega)
      have h5:=QeT hi
      have h6:=Qmj hi
      exact ⟨Qca f2.2.2.2 hi,hK,by omega,by omega⟩
     case m13 =>
      have hp:=QbM hb1 (by unfold Qa0; rw [hb7]; rfl)
      obtain rfl:z5=y.params.length:=by omega
      rw [List.take_length] at hz6
      rw [hz6,hp.2.2]
      exact .refl _
     all_goals have hz:z5<y.params.length:=by omega
     all_goals have hbf:Qa0 y=false:=Bool.eq_false_iff.2 fun h=>by have:=(Qp3 h).1; omega
     all_goals have hp:=QbM hb1 hbf
     all_goals have hi:=gotD Sh.prm.nil hz
     all_goals have h5:=QiO hz
     all_goals have h6:=Qmk hi
     case s7=>exact ⟨(Qdg f2.2.2.1 hi).2,hK,by omega,by omega⟩
     case m5=>exact absurd (hz6.trans (hp.2.1 z5 hz)) hb5
     all_goals first
      | omega
      | exact (by omega:y.params.length - (z5+1)<y.params.length - z5)
      | exact Qae (by rw [wJ _ (by omega) (by omega)]; rfl)
      | exact ⟨by omega,hb1⟩
      | (rw [Qex hz,QbA,if_neg (by rw [hb6]; decide)]; exact .refl _)
      | (rw [Qex hz,QbA,if_pos hb6]; exact .refl _)
   · cases hs
 · cases hs
end Go.Proofs.YtdeacbdpmdfgdaaGreatDoor
