/- Chapter 14's law: its parts. -/
import Derived.Test.YtijfaigpilfpaaaGreatDoorHp
import Derived.Test.YtijfaigpilfpaaaGreatDoorCn
import Derived.Test.YtijfaigpilfpaaaGreatDoorHe
set_option linter.unusedSimpArgs false
namespace Go.Proofs.YtijfaigpilfpaaaGreatDoor
open Go.RowKit
set_option linter.unusedVariables false
set_option maxRecDepth 100000
mutual
def cntY:Yw→Nat
 | .mk _ _ t p r=>1+cntT t+cntP p+QaI r
def cntQ:ByteArray × Yw→Nat
 | (_,y)=>1+cntY y
def cntP:List (ByteArray × Yw)→Nat
 | []=>0
 | x::l=>cntQ x+cntP l
def QaI:List Yw→Nat
 | []=>0
 | y::l=>cntY y+QaI l
end
mutual
def capY:Int→Yw→Int
 | m,.mk _ _ t p r=>if 1+capT m t≤m then (if 1+capT m t+capP (m - (1+capT m t)) p≤m then 1+capT m t+capP (m - (1+capT m t)) p+QaD (m - (1+capT m t+capP (m - (1+capT m t)) p)) r else 1+capT m t+capP (m - (1+capT m t)) p) else 1+capT m t
def capQ:Int→ByteArray × Yw→Int
 | m,(_,y)=>1+capY m y
def capP:Int→List (ByteArray × Yw)→Int
 | _,[]=>0
 | m,x::l=>if 0≤m then capQ m x+capP (m - capQ m x) l else 0
def QaD:Int→List Yw→Int
 | _,[]=>0
 | m,y::l=>if 0≤m then capY m y+QaD (m - capY m y) l else 0
end
theorem Qtq (y:Yw):cntY y=1+cntT y.ref+cntP y.params+QaI y.result:=by cases y; rw [cntY]; rfl
theorem Qtr (x:ByteArray × Yw):cntQ x=1+cntY x.2:=by obtain ⟨s,y⟩:=x; rw [cntQ]
theorem Qtz (m:Int) (x:ByteArray × Yw):capQ m x=1+capY m x.2:=by obtain ⟨s,y⟩:=x; rw [capQ]
theorem capY_1 {m:Int} {y:Yw} (h:¬ 1+capT m y.ref≤m):capY m y=1+capT m y.ref:=by
 obtain ⟨f,s,t,p,r⟩:=y
 rw [capY]
 exact if_neg h
theorem capY_2 {m:Int} {y:Yw} (h:1+capT m y.ref≤m) (h1:¬ 1+capT m y.ref+capP (m - (1+capT m y.ref)) y.params≤m):capY m y=1+capT m y.ref+capP (m - (1+capT m y.ref)) y.params:=by
 obtain ⟨f,s,t,p,r⟩:=y
 rw [capY]
 exact (if_pos h).trans (if_neg h1)
theorem capY_3 {m:Int} {y:Yw} (h:1+capT m y.ref≤m) (h1:1+capT m y.ref+capP (m - (1+capT m y.ref)) y.params≤m):capY m y=1+capT m y.ref+capP (m - (1+capT m y.ref)) y.params+QaD (m - (1+capT m y.ref+capP (m - (1+capT m y.ref)) y.params)) y.result:=by
 obtain ⟨f,s,t,p,r⟩:=y
 rw [capY]
 exact (if_pos h).trans (if_pos h1)
theorem Qtx {m a:Int} {y:Yw} (ha:a=capT m y.ref) (h:¬ 1+a≤m):capY m y=1+a:=by
 subst ha
 exact capY_1 h
theorem Qtw {m a b m1:Int} {y:Yw} (ha:a=capT m y.ref) (h:1+a≤m) (hm1:m1=m - (1+a)) (hb:b=capP m1 y.params) (h1:¬ 1+a+b≤m):capY m y=1+a+b:=by
 subst ha hm1 hb
 exact capY_2 h h1
theorem Qtv {m a b c m1 m2:Int} {y:Yw} (ha:a=capT m y.ref) (h:1+a≤m) (hm1:m1=m - (1+a)) (hb:b=capP m1 y.params) (h1:1+a+b≤m) (hm2:m2=m - (1+a+b)) (hc:c=QaD m2 y.result):capY m y=1+a+b+c:=by
 subst ha hm1 hb hm2 hc
 exact capY_3 h h1
mutual
theorem QhP:∀ (y:Yw) (m:Int),1≤capY m y∧capY m y≤cntY y
 | .mk f s t p r,m=>by
  have h0:=Qcv t m
  have h1:=QhR p (m - (1+capT m t))
  have h2:=Qf1 r (m - (1+capT m t+capP (m - (1+capT m t)) p))
  rw [capY,cntY]
  split
  · split <;> omega
  · omega
theorem Qq8:∀ (x:ByteArray × Yw) (m:Int),1≤capQ m x∧capQ m x≤cntQ x
 | (s,y),m=>by
  have h0:=QhP y m
  rw [capQ,cntQ]
  omega
theorem QhR:∀ (l:List (ByteArray × Yw)) (m:Int),0≤capP m l∧capP m l≤cntP l
 | [],m=>by rw [capP,cntP]; exact ⟨Int.le_refl _,Int.le_refl _⟩
 | x::l,m=>by
  have h1:=Qq8 x m
  have h2:=QhR l (m - capQ m x)
  rw [capP,cntP]
  split <;> omega
theorem Qf1:∀ (l:List Yw) (m:Int),0≤QaD m l∧QaD m l≤QaI l
 | [],m=>by rw [QaD,QaI]; exact ⟨Int.le_refl _,Int.le_refl _⟩
 | x::l,m=>by
  have h1:=QhP x m
  have h2:=Qf1 l (m - capY m x)
  rw [QaD,QaI]
  split <;> omega
end
theorem QfR {α:Type} {l:List α} {i:Nat} (d:α) (h:i<l.length):l.drop i=l.getD i d::l.drop (i+1):=by
 rw [List.drop_eq_getElem_cons h,List.getD_eq_getElem?_getD,List.getElem?_eq_getElem h]; rfl
theorem QhQ {l:List Yw} {i:Nat} {m n:Int} (h:QaD m l=n+QaD (m - n) (l.drop i)) (hi:i<l.length) (hm:n≤m) {c:Int} (hc:c=n+capY (m - n) (l.getD i Sh.ty.nil)):QaD m l=c+QaD (m - c) (l.drop (i+1)):=by
 have e:=h
 rw [QfR Sh.ty.nil hi,QaD,if_pos (by omega)] at e
 rw [e,hc,Int.add_assoc,show m - n - capY (m - n) (l.getD i Sh.ty.nil)=m - (n+capY (m - n) (l.getD i Sh.ty.nil)) by omega]
theorem QgJ {l:List Yw} {i:Nat} {m n:Int} (h:QaD m l=n+QaD (m - n) (l.drop i)) (hi:¬ i<l.length∨¬ n≤m):QaD m l=n:=by
 rw [h]
 rcases hi with hi | hi
 · rw [List.drop_eq_nil_of_le (by omega),QaD]; omega
 · cases l.drop i with
   | nil=>rw [QaD]; omega
   | cons t r=>rw [QaD,if_neg (by omega)]; omega
theorem QtA {l:List (ByteArray × Yw)} {i:Nat} {m n:Int} (h:capP m l=n+capP (m - n) (l.drop i)) (hi:i<l.length) (hm:n≤m) {c:Int} (hc:c=n+capQ (m - n) (l.getD i Sh.prm.nil)):capP m l=c+capP (m - c) (l.drop (i+1)):=by
 have e:=h
 rw [QfR Sh.prm.nil hi,capP,if_pos (by omega)] at e
 rw [e,hc,Int.add_assoc,show m - n - capQ (m - n) (l.getD i Sh.prm.nil)=m - (n+capQ (m - n) (l.getD i Sh.prm.nil)) by omega]
theorem Qjd {l:List (ByteArray × Yw)} {i:Nat} {m n:Int} (h:capP m l=n+capP (m - n) (l.drop i)) (hi:¬ i<l.length∨¬ n≤m):capP m l=n:=by
 rw [h]
 rcases hi with hi | hi
 · rw [List.drop_eq_nil_of_le (by omega),capP]; omega
 · cases l.drop i with
   | nil=>rw [capP]; omega
   | cons t r=>rw [capP,if_neg (by omega)]; omega
theorem QfZ:∀ l m:List Yw,QaI (l++m)=QaI l+QaI m
 | [],m=>by rw [List.nil_append,QaI,Nat.zero_add]
 | t::l,m=>by rw [List.cons_append,QaI,QaI,QfZ l m,Nat.add_assoc]
theorem QmZ (l:List Yw) (i:Nat):QaI (l.take i)≤QaI l:=by
 have:=QfZ (l.take i) (l.drop i)
 rw [List.take_append_drop] at this
 omega
theorem Qm0 {l:List Yw} {i:Nat} (h:i<l.length):QaI (l.take (i+1))=QaI (l.take i)+cntY (l.getD i Sh.ty.nil):=by
 rw [List.take_add_one,QfZ,List.getElem?_eq_getElem h,List.getD_eq_getElem?_getD,List.getElem?_eq_getElem h]
 simp only [Option.toList_some,Option.getD_some,QaI,Nat.add_zero]
theorem QhL:∀ l m:List (ByteArray × Yw),cntP (l++m)=cntP l+cntP m
 | [],m=>by rw [List.nil_append,cntP,Nat.zero_add]
 | t::l,m=>by rw [List.cons_append,cntP,cntP,QhL l m,Nat.add_assoc]
theorem Qpe (l:List (ByteArray × Yw)) (i:Nat):cntP (l.take i)≤cntP l:=by
 have:=QhL (l.take i) (l.drop i)
 rw [List.take_append_drop] at this
 omega
theorem Qpf {l:List (ByteArray × Yw)} {i:Nat} (h:i<l.length):cntP (l.take (i+1))=cntP (l.take i)+cntQ (l.getD i Sh.prm.nil):=by
 rw [List.take_add_one,QhL,List.getElem?_eq_getElem h,List.getD_eq_getElem?_getD,List.getElem?_eq_getElem h]
 simp only [Option.toList_some,Option.getD_some,cntP,Nat.add_zero]
theorem Qpn {m:Int} {y:Yw} (h:0≤m):QaD m [y]=capY m y:=by
 rw [QaD,if_pos h,QaD]; omega
noncomputable def sTypesN (n:Nat):Spec
 | [.f (.dt .ty l),.f (.v (.int .i64 m))]=>some (some (2 * szY l+1<n∧QaI l≤4000000∧0≤m∧m≤4000000),.nm Int (QaD m l) iV)
 | _=>none
noncomputable def sParamsN (n:Nat):Spec
 | [.f (.dt .prm l),.f (.v (.int .i64 m))]=>some (some (2 * szP l+2<n∧cntP l≤4000000∧0≤m∧m≤4000000),.nm Int (capP m l) iV)
 | _=>none
set_option maxHeartbeats 8000000 in
theorem QhU {E:Env} (hU:Up E):∀ n,Contract Tryz.prog E 34 (sTypesN n)∧Contract Tryz.prog E 97 (sParamsN n)
 | 0=>by
  refine ⟨fun xs p r hs hp=>?_,fun xs p r hs hp=>?_⟩
  · unfold sTypesN at hs
    split at hs
    · cases hs
      exact absurd (hp _ rfl).1 (Nat.not_lt_zero _)
    · cases hs
  · unfold sParamsN at hs
    split at hs
    · cases hs
      exact absurd (hp _ rfl).1 (Nat.not_lt_zero _)
    · cases hs
 | n+1=>by
  refine ⟨?_,?_⟩
  · refine Qac [(96,Qc5 9000000),(97,sParamsN n),(34,sTypesN n)] [] Tryz.ntmps34 Tryz.func34 (by kernel_rfl) (by kernel_rfl) hU ⟨(Qpv hU 9000000).1,(QhU hU n).2,(QhU hU n).1,trivial⟩ trivial ?_
    intro xs p r hs hp
    unfold sTypesN at hs
    split at hs
    · rename_i l m
      cases hs
      obtain ⟨hn,hc,hm0,hm⟩:=hp _ rfl
      refine ⟨[.f (.dt .ty l),.f (.v (.int .i64 m))],[(3,.s ⟨Nat × Int,fun y=>⟨[(0,.f (.dt .ty l)),(1,iV m),(5,iV y.2),(6,iV y.1)],[]⟩,fun y=>y.1≤l.length∧QaD m l=y.2+QaD (m - y.2) (l.drop y.1)∧0≤y.2∧y.2≤QaI (l.take y.1),fun y=>l.length - y.1⟩)],.cons (.refl _) (.cons (.refl _) .nil),rfl,fun _ hsh=>?_⟩
      have hl:=Qap hsh.1
      refine Qab (p:=∃ (x1:Nat × Int),(True∧rfB (dP Sh.ty l)∧rfB (iV m)∧SubB (iV 0) (iV x1.snd)∧SubB (iV 0) (iV (↑x1.fst:Int))∧True)∧(x1.fst≤l.length∧QaD m l=x1.snd+QaD (m - x1.snd) (List.drop x1.fst l)∧(0:Int)≤x1.snd∧x1.snd≤(↑(QaI (List.take x1.fst l)):Int))∧True∧∀ (z2:Nat × Int),z2.fst≤l.length∧QaD m l=z2.snd+QaD (m - z2.snd) (List.drop z2.fst l)∧(0:Int)≤z2.snd∧z2.snd≤(↑(QaI (List.take z2.fst l)):Int)→True→ifB (decide ((↑z2.fst:Int)<(↑l.length:Int))) (ifB (decide (z2.snd≤m)) (((0:Int)≤(↑z2.fst:Int)∧(↑z2.fst:Int)<(↑l.length:Int))∧(2 * (etaT (Yw.ref (l.getD (↑z2.fst:Int).toNat Sh.ty.nil))).size<9000000∧cntT (etaT (Yw.ref (l.getD (↑z2.fst:Int).toNat Sh.ty.nil)))≤4000000∧(0:Int)≤IntKind.i64.wrap (m - z2.snd)∧IntKind.i64.wrap (m - z2.snd)≤(4000000:Int))∧∀ (z3:Int),z3=capT (IntKind.i64.wrap (m - z2.snd)) (etaT (Yw.ref (l.getD (↑z2.fst:Int).toNat Sh.ty.nil)))→ifB (decide (IntKind.i64.wrap (IntKind.i64.wrap (z2.snd+(1:Int))+z3)≤m)) (((0:Int)≤(↑z2.fst:Int)∧(↑z2.fst:Int)<(↑l.length:Int))∧(2 * szP (Yw.params (l.getD (↑z2.fst:Int).toNat Sh.ty.nil))+2<n∧cntP (Yw.params (l.getD (↑z2.fst:Int).toNat Sh.ty.nil))≤4000000∧(0:Int)≤IntKind.i64.wrap (m - IntKind.i64.wrap (IntKind.i64.wrap (z2.snd+(1:Int))+z3))∧IntKind.i64.wrap (m - IntKind.i64.wrap (IntKind.i64.wrap (z2.snd+(1:Int))+z3))≤(4000000:Int))∧∀ (z4:Int),z4=capP (IntKind.i64.wrap (m - IntKind.i64.wrap (IntKind.i64.wrap (z2.snd+(1:Int))+z3))) (Yw.params (l.getD (↑z2.fst:Int).toNat Sh.ty.nil))→ifB (decide (IntKind.i64.wrap (IntKind.i64.wrap (IntKind.i64.wrap (z2.snd+(1:Int))+z3)+z4)≤m)) (((0:Int)≤(↑z2.fst:Int)∧(↑z2.fst:Int)<(↑l.length:Int))∧(2 * szY (Yw.result (l.getD (↑z2.fst:Int).toNat Sh.ty.nil))+1<n∧QaI (Yw.result (l.getD (↑z2.fst:Int).toNat Sh.ty.nil))≤4000000∧(0:Int)≤IntKind.i64.wrap (m - IntKind.i64.wrap (IntKind.i64.wrap (IntKind.i64.wrap (z2.snd+(1:Int))+z3)+z4))∧IntKind.i64.wrap (m - IntKind.i64.wrap (IntKind.i64.wrap (IntKind.i64.wrap (z2.snd+(1:Int))+z3)+z4))≤(4000000:Int))∧∀ (z5:Int),z5=QaD (IntKind.i64.wrap (m - IntKind.i64.wrap (IntKind.i64.wrap (IntKind.i64.wrap (z2.snd+(1:Int))+z3)+z4))) (Yw.result (l.getD (↑z2.fst:Int).toNat Sh.ty.nil))→∃ (x6:Nat × Int),(True∧rfB (dP Sh.ty l)∧rfB (iV m)∧SubB (iV (IntKind.i64.wrap (IntKind.i64.wrap (IntKind.i64.wrap (IntKind.i64.wrap (z2.snd+(1:Int))+z3)+z4)+z5))) (iV x6.snd)∧SubB (iV (IntKind.i64.wrap ((↑z2.fst:Int)+(1:Int)))) (iV (↑x6.fst:Int))∧True)∧(x6.fst≤l.length∧QaD m l=x6.snd+QaD (m - x6.snd) (List.drop x6.fst l)∧(0:Int)≤x6.snd∧x6.snd≤(↑(QaI (List.take x6.fst l)):Int))∧True∧(l.length - x6.fst).succ.le (l.length - z2.fst)) (∃ (x5:Nat × Int),(True∧rfB (dP Sh.ty l)∧rfB (iV m)∧SubB (iV (IntKind.i64.wrap (IntKind.i64.wrap (IntKind.i64.wrap (z2.snd+(1:Int))+z3)+z4))) (iV x5.snd)∧SubB (iV (IntKind.i64.wrap ((↑z2.fst:Int)+(1:Int)))) (iV (↑x5.fst:Int))∧True)∧(x5.fst≤l.length∧QaD m l=x5.snd+QaD (m - x5.snd) (List.drop x5.fst l)∧(0:Int)≤x5.snd∧x5.snd≤(↑(QaI (List.take x5.fst l)):Int))∧True∧(l.length - x5.fst).succ.le (l.length - z2.fst))) (ifB (decide (IntKind.i64.wrap (IntKind.i64.wrap (z2.snd+(1:Int))+z3)≤m)) (((0:Int)≤(↑z2.fst:Int)∧(↑z2.fst:Int)<(↑l.length:Int))∧(2 * szY (Yw.result (l.getD (↑z2.fst:Int).toNat Sh.ty.nil))+1<n∧QaI (Yw.result (l.getD (↑z2.fst:Int).toNat Sh.ty.nil))≤4000000∧(0:Int)≤IntKind.i64.wrap (m - IntKind.i64.wrap (IntKind.i64.wrap (z2.snd+(1:Int))+z3))∧IntKind.i64.wrap (m - IntKind.i64.wrap (IntKind.i64.wrap (z2.snd+(1:Int))+z3))≤(4000000:Int))∧∀ (z4:Int),z4=QaD (IntKind.i64.wrap (m - IntKind.i64.wrap (IntKind.i64.wrap (z2.snd+(1:Int))+z3))) (Yw.result (l.getD (↑z2.fst:Int).toNat Sh.ty.nil))→∃ (x5:Nat × Int),(True∧rfB (dP Sh.ty l)∧rfB (iV m)∧SubB (iV (IntKind.i64.wrap (IntKind.i64.wrap (IntKind.i64.wrap (z2.snd+(1:Int))+z3)+z4))) (iV x5.snd)∧SubB (iV (IntKind.i64.wrap ((↑z2.fst:Int)+(1:Int)))) (iV (↑x5.fst:Int))∧True)∧(x5.fst≤l.length∧QaD m l=x5.snd+QaD (m - x5.snd) (List.drop x5.fst l)∧(0:Int)≤x5.snd∧x5.snd≤(↑(QaI (List.take x5.fst l)):Int))∧True∧(l.length - x5.fst).succ.le (l.length - z2.fst)) (∃ (x4:Nat × Int),(True∧rfB (dP Sh.ty l)∧rfB (iV m)∧SubB (iV (IntKind.i64.wrap (IntKind.i64.wrap (z2.snd+(1:Int))+z3))) (iV x4.snd)∧SubB (iV (IntKind.i64.wrap ((↑z2.fst:Int)+(1:Int)))) (iV (↑x4.fst:Int))∧True)∧(x4.fst≤l.length∧QaD m l=x4.snd+QaD (m - x4.snd) (List.drop x4.fst l)∧(0:Int)≤x4.snd∧x4.snd≤(↑(QaI (List.take x4.fst l)):Int))∧True∧(l.length - x4.fst).succ.le (l.length - z2.fst)))) (true=true∧Sub (iV z2.snd) (iV (QaD m l)))) (true=true∧Sub (iV z2.snd) (iV (QaD m l)))) ?kr ?_
      case kr=>kernel_rfl
      refine ⟨?x0,⟨⟨trivial,⟨.refl _,⟨.refl _,⟨?m0,⟨?m1,trivial⟩⟩⟩⟩⟩,⟨?s0,⟨trivial,fun z2=>fun hq0=>fun _=>Qaa.2 ⟨fun hb1=>Qaa.2 ⟨fun hb2=>⟨?s1,⟨?s2,fun z3=>fun hz3=>Qaa.2 ⟨fun hb3=>⟨?s3,⟨?s4,fun z4=>fun hz4=>Qaa.2 ⟨fun hb4=>⟨?s5,⟨?s6,fun z5=>fun hz5=>⟨?x1,⟨⟨trivial,⟨.refl _,⟨.refl _,⟨?m2,⟨?m3,trivial⟩⟩⟩⟩⟩,⟨?s7,⟨trivial,?m4⟩⟩⟩⟩⟩⟩,fun hb4=>⟨?x2,⟨⟨trivial,⟨.refl _,⟨.refl _,⟨?m5,⟨?m6,trivial⟩⟩⟩⟩⟩,⟨?s8,⟨trivial,?m7⟩⟩⟩⟩⟩⟩⟩,fun hb3=>Qaa.2 ⟨fun hb5=>⟨?s9,⟨?s10,fun z4=>fun hz4=>⟨?x3,⟨⟨trivial,⟨.refl _,⟨.refl _,⟨?m8,⟨?m9,trivial⟩⟩⟩⟩⟩,⟨?s11,⟨trivial,?m10⟩⟩⟩⟩⟩⟩,fun hb5=>⟨?x4,⟨⟨trivial,⟨.refl _,⟨.refl _,⟨?m11,⟨?m12,trivial⟩⟩⟩⟩⟩,⟨?s12,⟨trivial,?m13⟩⟩⟩⟩⟩⟩⟩⟩,fun hb2=>⟨rfl,?m14⟩⟩,fun hb1=>⟨rfl,?m15⟩⟩⟩⟩⟩⟩
      all_goals try simp only [etaT] at *
      case x0=>exact (0,0)
      case x1=>exact (z2.1+1,z2.2+1+z3+z4+z5)
      case x2=>exact (z2.1+1,z2.2+1+z3+z4)
      case x3=>exact (z2.1+1,z2.2+1+z3+z4)
      case x4=>exact (z2.1+1,z2.2+1+z3)
      all_goals try simp only [decide_eq_true_eq,decide_eq_false_iff_not,Int.toNat_natCast,Tw.eta,Yw.eta] at *
      case m0=>exact .refl _
      case m1=>exact .refl _
      case s0=>exact ⟨Nat.zero_le _,by simp,by simp,by simp [QaI]⟩
      all_goals obtain ⟨q1,q2,q3,q4⟩:=hq0
      case m14=>exact (Qad (QgJ q2 (.inr (by omega))).symm).sub
      case m15=>exact (Qad (QgJ q2 (.inl (by omega))).symm).sub
      all_goals have hz:z2.1<l.length:=by omega
      all_goals have t1:=QmZ l (z2.1+1)
      all_goals have t2:=Qm0 hz
      all_goals have t3:=Qtq (l.getD z2.1 Sh.ty.nil)
      all_goals have t4:=Qdz (gotD Sh.ty.nil hz)
      all_goals have t5:=(l.getD z2.1 Sh.ty.nil).size_eq
      all_goals have t6:=Qcf (l.getD z2.1 Sh.ty.nil).ref
      all_goals have e1:IntKind.i64.wrap (m - z2.2)=m - z2.2:=wJ _ (by omega) (by omega)
      case s1=>omega
      case s3=>omega
      case s5=>omega
      case s9=>omega
      case s2=>rw [e1]; exact ⟨by omega,by omega,by omega,by omega⟩
      all_goals rw [e1] at hz3
      all_goals have r0:=Qcv (l.getD z2.1 Sh.ty.nil).ref (m - z2.2)
      all_goals rw [← hz3] at r0
      all_goals have e2:IntKind.i64.wrap (IntKind.i64.wrap (z2.2+1)+z3)=z2.2+1+z3:=by simp (disch:=omega) only [wJ]
      all_goals rw [e2] at hb3
      case s10=>rw [e2] at hb5; omega
      case m8=>rw [e2] at hb5; omega
      case m9=>rw [e2] at hb5; omega
      case s11=>rw [e2] at hb5; omega
      case m10=>rw [e2] at hb5; omega
      case m11=>rw [e2]; exact .refl _
      case m12=>exact Qad (wJ _ (by omega) (by omega))
      case s12=>exact ⟨by omega,QhQ q2 hz (by omega) (by rw [Qtx hz3 (by omega)]; show _=z2.2+(1+z3); omega),by show 0≤z2.2+1+z3; omega,by show z2.2+1+z3≤_; omega⟩
      case m13=>exact (by omega:l.length - (z2.1+1)<l.length - z2.1)
      all_goals have e3:IntKind.i64.wrap (m - (z2.2+1+z3))=m - (z2.2+1+z3):=wJ _ (by omega) (by omega)
      case s4=>rw [e2,e3]; exact ⟨by omega,by omega,by omega,by omega⟩
      all_goals rw [e2,e3] at hz4
      all_goals have r1:=QhR (l.getD z2.1 Sh.ty.nil).params (m - (z2.2+1+z3))
      all_goals rw [← hz4] at r1
      all_goals have e4:IntKind.i64.wrap (z2.2+1+z3+z4)=z2.2+1+z3+z4:=wJ _ (by omega) (by omega)
      all_goals rw [e2,e4] at hb4
      case m5=>rw [e2,e4]; exact .refl _
      case m6=>exact Qad (wJ _ (by omega) (by omega))
      case s8=>exact ⟨by omega,QhQ q2 hz (by omega) (by rw [Qtw hz3 (by omega) (by omega) hz4 (by omega)]; show _=z2.2+(1+z3+z4); omega),by show 0≤z2.2+1+z3+z4; omega,by show z2.2+1+z3+z4≤_; omega⟩
      case m7=>exact (by omega:l.length - (z2.1+1)<l.length - z2.1)
      all_goals have e5:IntKind.i64.wrap (m - (z2.2+1+z3+z4))=m - (z2.2+1+z3+z4):=wJ _ (by omega) (by omega)
      case s6=>rw [e2,e4,e5]; exact ⟨by omega,by omega,by omega,by omega⟩
      all_goals rw [e2,e4,e5] at hz5
      all_goals have r2:=Qf1 (l.getD z2.1 Sh.ty.nil).result (m - (z2.2+1+z3+z4))
      all_goals rw [← hz5] at r2
      case m2=>rw [e2,e4]; exact Qad (wJ _ (by omega) (by omega))
      case m3=>exact Qad (wJ _ (by omega) (by omega))
      case s7=>exact ⟨by omega,QhQ q2 hz (by omega) (by rw [Qtv hz3 (by omega) (by omega) hz4 (by omega) (by omega) hz5]; show _=z2.2+(1+z3+z4+z5); omega),by show 0≤z2.2+1+z3+z4+z5; omega,by show z2.2+1+z3+z4+z5≤_; omega⟩
      case m4=>exact (by omega:l.length - (z2.1+1)<l.length - z2.1)
    · cases hs
  · refine Qac [(34,sTypesN n)] [] Tryz.ntmps97 Tryz.func97 (by kernel_rfl) (by kernel_rfl) hU ⟨(QhU hU n).1,trivial⟩ trivial ?_
    intro xs p r hs hp
    unfold sParamsN at hs
    split at hs
    · rename_i l m
      cases hs
      obtain ⟨hn,hc,hm0,hm⟩:=hp _ rfl
      refine ⟨[.f (.dt .prm l),.f (.v (.int .i64 m))],[(3,.s ⟨Nat × Int,fun y=>⟨[(0,.f (.dt .prm l)),(1,iV m),(5,iV y.2),(6,iV y.1)],[]⟩,fun y=>y.1≤l.length∧capP m l=y.2+capP (m - y.2) (l.drop y.1)∧0≤y.2∧y.2≤cntP (l.take y.1),fun y=>l.length - y.1⟩)],.cons (.refl _) (.cons (.refl _) .nil),rfl,fun _ hsh=>?_⟩
      have hl:=Qap hsh.1
      refine Qab (p:=∃ (x1:Nat × Int),(True∧rfB (dP Sh.prm l)∧rfB (iV m)∧SubB (iV 0) (iV x1.snd)∧SubB (iV 0) (iV (↑x1.fst:Int))∧True)∧(x1.fst≤l.length∧capP m l=x1.snd+capP (m - x1.snd) (List.drop x1.fst l)∧(0:Int)≤x1.snd∧x1.snd≤(↑(cntP (List.take x1.fst l)):Int))∧True∧∀ (z2:Nat × Int),z2.fst≤l.length∧capP m l=z2.snd+capP (m - z2.snd) (List.drop z2.fst l)∧(0:Int)≤z2.snd∧z2.snd≤(↑(cntP (List.take z2.fst l)):Int)→True→ifB (decide ((↑z2.fst:Int)<(↑l.length:Int))) (ifB (decide (z2.snd≤m)) (((0:Int)≤(↑z2.fst:Int)∧(↑z2.fst:Int)<(↑l.length:Int))∧(2 * szY [Yw.mk (l.getD (↑z2.fst:Int).toNat Sh.prm.nil).snd.fn (l.getD (↑z2.fst:Int).toNat Sh.prm.nil).snd.sort (etaT ((l.getD (↑z2.fst:Int).toNat Sh.prm.nil).snd.ref)) (l.getD (↑z2.fst:Int).toNat Sh.prm.nil).snd.params (l.getD (↑z2.fst:Int).toNat Sh.prm.nil).snd.result]+1<n∧QaI [Yw.mk (l.getD (↑z2.fst:Int).toNat Sh.prm.nil).snd.fn (l.getD (↑z2.fst:Int).toNat Sh.prm.nil).snd.sort (etaT ((l.getD (↑z2.fst:Int).toNat Sh.prm.nil).snd.ref)) (l.getD (↑z2.fst:Int).toNat Sh.prm.nil).snd.params (l.getD (↑z2.fst:Int).toNat Sh.prm.nil).snd.result]≤4000000∧(0:Int)≤IntKind.i64.wrap (m - z2.snd)∧IntKind.i64.wrap (m - z2.snd)≤(4000000:Int))∧∀ (z3:Int),z3=QaD (IntKind.i64.wrap (m - z2.snd)) [Yw.mk (l.getD (↑z2.fst:Int).toNat Sh.prm.nil).snd.fn (l.getD (↑z2.fst:Int).toNat Sh.prm.nil).snd.sort (etaT ((l.getD (↑z2.fst:Int).toNat Sh.prm.nil).snd.ref)) (l.getD (↑z2.fst:Int).toNat Sh.prm.nil).snd.params (l.getD (↑z2.fst:Int).toNat Sh.prm.nil).snd.result]→∃ (x4:Nat × Int),(True∧rfB (dP Sh.prm l)∧rfB (iV m)∧SubB (iV (IntKind.i64.wrap (IntKind.i64.wrap (z2.snd+(1:Int))+z3))) (iV x4.snd)∧SubB (iV (IntKind.i64.wrap ((↑z2.fst:Int)+(1:Int)))) (iV (↑x4.fst:Int))∧True)∧(x4.fst≤l.length∧capP m l=x4.snd+capP (m - x4.snd) (List.drop x4.fst l)∧(0:Int)≤x4.snd∧x4.snd≤(↑(cntP (List.take x4.fst l)):Int))∧True∧(l.length - x4.fst).succ.le (l.length - z2.fst)) (true=true∧Sub (iV z2.snd) (iV (capP m l)))) (true=true∧Sub (iV z2.snd) (iV (capP m l)))) ?kr ?_
      case kr=>kernel_rfl
      refine ⟨?x0,⟨⟨trivial,⟨.refl _,⟨.refl _,⟨?m0,⟨?m1,trivial⟩⟩⟩⟩⟩,⟨?s0,⟨trivial,fun z2=>fun hq0=>fun _=>Qaa.2 ⟨fun hb1=>Qaa.2 ⟨fun hb2=>⟨?s1,⟨?s2,fun z3=>fun hz3=>⟨?x1,⟨⟨trivial,⟨.refl _,⟨.refl _,⟨?m2,⟨?m3,trivial⟩⟩⟩⟩⟩,⟨?s3,⟨trivial,?m4⟩⟩⟩⟩⟩⟩,fun hb2=>⟨rfl,?m5⟩⟩,fun hb1=>⟨rfl,?m6⟩⟩⟩⟩⟩⟩
      all_goals try simp only [etaT] at *
      case x0=>exact (0,0)
      case x1=>exact (z2.1+1,z2.2+1+z3)
      all_goals try simp only [decide_eq_true_eq,decide_eq_false_iff_not,Int.toNat_natCast,Tw.eta,Yw.eta] at *
      case m0=>exact .refl _
      case m1=>exact .refl _
      case s0=>exact ⟨Nat.zero_le _,by simp,by simp,by simp [cntP]⟩
      all_goals obtain ⟨q1,q2,q3,q4⟩:=hq0
      case m5=>exact (Qad (Qjd q2 (.inr (by omega))).symm).sub
      case m6=>exact (Qad (Qjd q2 (.inl (by omega))).symm).sub
      all_goals have hz:z2.1<l.length:=by omega
      all_goals have t1:=Qpe l (z2.1+1)
      all_goals have t2:=Qpf hz
      all_goals have t3:=Qtr (l.getD z2.1 Sh.prm.nil)
      all_goals have t4:=Qfe (gotD Sh.prm.nil hz)
      all_goals have e1:IntKind.i64.wrap (m - z2.2)=m - z2.2:=wJ _ (by omega) (by omega)
      all_goals have y1:szY [(l.getD z2.1 Sh.prm.nil).2]=(l.getD z2.1 Sh.prm.nil).2.size:=by rw [szY,szY]; rfl
      all_goals have y2:QaI [(l.getD z2.1 Sh.prm.nil).2]=cntY (l.getD z2.1 Sh.prm.nil).2:=by rw [QaI,QaI]; rfl
      case s1=>omega
      case s2=>rw [e1,y1,y2]; exact ⟨by omega,by omega,by omega,by omega⟩
      all_goals rw [e1,Qpn (by omega)] at hz3
      all_goals have r0:=QhP (l.getD z2.1 Sh.prm.nil).2 (m - z2.2)
      all_goals rw [← hz3] at r0
      all_goals have e2:IntKind.i64.wrap (IntKind.i64.wrap (z2.2+1)+z3)=z2.2+1+z3:=by simp (disch:=omega) only [wJ]
      case m2=>rw [e2]; exact .refl _
      case m3=>exact Qad (wJ _ (by omega) (by omega))
      case s3=>exact ⟨by omega,QtA q2 hz (by omega) (by rw [Qtz,← hz3]; show _=z2.2+(1+z3); omega),by show 0≤z2.2+1+z3; omega,by show z2.2+1+z3≤_; omega⟩
      case m4=>exact (by omega:l.length - (z2.1+1)<l.length - z2.1)
    · cases hs
mutual
theorem Qi3:∀ y:Yw,y.size≤cntY y∧y.wt≤cntY y
 | .mk f s t p r=>by
  have h1:=Qi5 p
  have h2:=Qeq r
  have h3:=Qcf t
  rw [Yw.size,Yw.wt,cntY]
  omega
theorem Qpd:∀ x:ByteArray × Yw,szQ x≤cntQ x∧wtQ x≤cntQ x
 | (s,y)=>by
  have h1:=Qi3 y
  rw [szQ,wtQ,cntQ]
  omega
theorem Qi5:∀ l:List (ByteArray × Yw),szP l≤cntP l∧wtP l≤cntP l
 | []=>by rw [szP,wtP]; exact ⟨Nat.zero_le _,Nat.zero_le _⟩
 | x::l=>by
  have h1:=Qpd x
  have h2:=Qi5 l
  rw [szP,wtP,cntP]
  omega
theorem Qeq:∀ l:List Yw,szY l≤QaI l∧wtY l≤QaI l
 | []=>by rw [szY,wtY]; exact ⟨Nat.zero_le _,Nat.zero_le _⟩
 | x::l=>by
  have h1:=Qi3 x
  have h2:=Qeq l
  rw [szY,wtY,QaI]
  omega
end
def Qg8:Spec
 | [.f (.dt .ty l),.f (.v (.int .i64 m))]=>some (some (QaI l≤4000000∧0≤m∧m≤4000000),.nm Int (QaD m l) iV)
 | _=>none
theorem Qrd {E:Env} (hU:Up E):Contract Tryz.prog E 34 Qg8:=by
 intro xs p r hs hp
 unfold Qg8 at hs
 split at hs
 · rename_i l m
   cases hs
   obtain ⟨h1,h2,h3⟩:=hp _ rfl
   have h4:=(Qeq l).1
   exact (QhU hU 9000000).1 [.f (.dt .ty l),.f (.v (.int .i64 m))] _ _ rfl (fun q hq=>by cases hq; exact ⟨by omega,h1,h2,h3⟩)
 · cases hs
/-! Kappas. -/
def Qcg:List Kap→Nat
 | []=>0
 | k::l=>1+k.name.size / 8+k.params.length+cntT k.body+Qcg l
def Qm8 (m:Int) (k:Kap):Int:=((1+k.name.size / 8+k.params.length:Nat):Int)+capT m k.body
def Qbm:Int→List Kap→Int
 | _,[]=>0
 | m,k::l=>if 0≤m then Qm8 m k+Qbm (m - Qm8 m k) l else 0
theorem Qq9 {l:List Kap} {i:Nat} {m n:Int} (h:Qbm m l=n+Qbm (m - n) (l.drop i)) (hi:i<l.length) (hm:n≤m) {c:Int} (hc:c=n+Qm8 (m - n) (l.getD i Sh.kap.nil)):Qbm m l=c+Qbm (m - c) (l.drop (i+1)):=by
 have e:=h
 rw [QfR Sh.kap.nil hi,Qbm,if_pos (by omega)] at e
 rw [e,hc,Int.add_assoc,show m - n - Qm8 (m - n) (l.getD i Sh.kap.nil)=m - (n+Qm8 (m - n) (l.getD i Sh.kap.nil)) by omega]
theorem QgL {l:List Kap} {i:Nat} {m n:Int} (h:Qbm m l=n+Qbm (m - n) (l.drop i)) (hi:¬ i<l.length∨¬ n≤m):Qbm m l=n:=by
 rw [h]
 rcases hi with hi | hi
 · rw [List.drop_eq_nil_of_le (by omega),Qbm]; omega
 · cases l.drop i with
   | nil=>rw [Qbm]; omega
   | cons t r=>rw [Qbm,if_neg (by omega)]; omega
theorem Qf0:∀ l m:List Kap,Qcg (l++m)=Qcg l+Qcg m
 | [],m=>by rw [List.nil_append,Qcg,Nat.zero_add]
 | t::l,m=>by
  rw [List.cons_append,Qcg,Qcg,Qf0 l m]
  omega
theorem Qm2 (l:List Kap) (i:Nat):Qcg (l.take i)≤Qcg l:=by
 have:=Qf0 (l.take i) (l.drop i)
 rw [List.take_append_drop] at this
 omega
theorem Qm3 {l:List Kap} {i:Nat} (h:i<l.length):Qcg (l.take (i+1))=Qcg (l.take i)+(1+(Kap.name (l.getD i Sh.kap.nil)).size / 8+(Kap.params (l.getD i Sh.kap.nil)).length+cntT (Kap.body (l.getD i Sh.kap.nil))):=by
 rw [List.take_add_one,Qf0,List.getElem?_eq_getElem h,List.getD_eq_getElem?_getD,List.getElem?_eq_getElem h]
 simp only [Option.toList_some,Option.getD_some,Qcg,Nat.add_zero]
def Qfl:Spec
 | [.f (.dt .kap l),.f (.v (.int .i64 m))]=>some (some (Qcg l≤4000000∧0≤m∧m≤4000000),.nm Int (Qbm m l) iV)
 | _=>none
theorem Qpu {E:Env} (hU:Up E):Contract Tryz.prog E 33 Qfl:=by
 refine Qac [(96,Qc5 9000000)] [] Tryz.ntmps33 Tryz.func33 (by kernel_rfl) (by kernel_rfl) hU ⟨(Qpv hU 9000000).1,trivial⟩ trivial ?_
 intro xs p r hs hp
 unfold Qfl at hs
 split at hs
 · rename_i l m
   cases hs
   obtain ⟨hc,hm0,hm⟩:=hp _ rfl
   refine ⟨[.f (.dt .kap l),.f (.v (.int .i64 m))],[(3,.s ⟨Nat × Int,fun y=>⟨[(0,.f (.dt .kap l)),(1,iV m),(5,iV y.2),(6,iV y.1)],[]⟩,fun y=>y.1≤l.length∧Qbm m l=y.2+Qbm (m - y.2) (l.drop y.1)∧0≤y.2∧y.2≤Qcg (l.take y.1),fun y=>l.length - y.1⟩)],.cons (.refl _) (.cons (.refl _) .nil),rfl,fun _ hsh=>?_⟩
   have hl:=Qap hsh.1
   refine Qab (p:=∃ (x1:Nat × Int),(True∧rfB (dP Sh.kap l)∧rfB (iV m)∧SubB (iV 0) (iV x1.snd)∧SubB (iV 0) (iV (↑x1.fst:Int))∧True)∧(x1.fst≤l.length∧Qbm m l=x1.snd+Qbm (m - x1.snd) (List.drop x1.fst l)∧(0:Int)≤x1.snd∧x1.snd≤(↑(Qcg (List.take x1.fst l)):Int))∧True∧∀ (z2:Nat × Int),z2.fst≤l.length∧Qbm m l=z2.snd+Qbm (m - z2.snd) (List.drop z2.fst l)∧(0:Int)≤z2.snd∧z2.snd≤(↑(Qcg (List.take z2.fst l)):Int)→True→ifB (decide ((↑z2.fst:Int)<(↑l.length:Int))) (ifB (decide (z2.snd≤m)) (((0:Int)≤(↑z2.fst:Int)∧(↑z2.fst:Int)<(↑l.length:Int))∧((0:Int)≤(↑z2.fst:Int)∧(↑z2.fst:Int)<(↑l.length:Int))∧((0:Int)≤(↑z2.fst:Int)∧(↑z2.fst:Int)<(↑l.length:Int))∧(2 * (etaT ((l.getD (↑z2.fst:Int).toNat Sh.kap.nil).body)).size<9000000∧cntT (etaT ((l.getD (↑z2.fst:Int).toNat Sh.kap.nil).body))≤4000000∧(0:Int)≤IntKind.i64.wrap (m - z2.snd)∧IntKind.i64.wrap (m - z2.snd)≤(4000000:Int))∧∀ (z3:Int),z3=capT (IntKind.i64.wrap (m - z2.snd)) (etaT ((l.getD (↑z2.fst:Int).toNat Sh.kap.nil).body))→∃ (x4:Nat × Int),(True∧rfB (dP Sh.kap l)∧rfB (iV m)∧SubB (iV (IntKind.i64.wrap (IntKind.i64.wrap (IntKind.i64.wrap (IntKind.i64.wrap (z2.snd+(1:Int))+IntKind.i64.wrap ((↑(l.getD (↑z2.fst:Int).toNat Sh.kap.nil).name.size:Int).tdiv (8:Int)))+(↑(l.getD (↑z2.fst:Int).toNat Sh.kap.nil).params.length:Int))+z3))) (iV x4.snd)∧SubB (iV (IntKind.i64.wrap ((↑z2.fst:Int)+(1:Int)))) (iV (↑x4.fst:Int))∧True)∧(x4.fst≤l.length∧Qbm m l=x4.snd+Qbm (m - x4.snd) (List.drop x4.fst l)∧(0:Int)≤x4.snd∧x4.snd≤(↑(Qcg (List.take x4.fst l)):Int))∧True∧(l.length - x4.fst).succ.le (l.length - z2.fst)) (true=true∧Sub (iV z2.snd) (iV (Qbm m l)))) (true=true∧Sub (iV z2.snd) (iV (Qbm m l)))) ?kr ?_
   case kr=>kernel_rfl
   refine ⟨?x0,⟨⟨trivial,⟨.refl _,⟨.refl _,⟨?m0,⟨?m1,trivial⟩⟩⟩⟩⟩,⟨?s0,⟨trivial,fun z2=>fun hq0=>fun _=>Qaa.2 ⟨fun hb1=>Qaa.2 ⟨fun hb2=>⟨?s1,⟨?s2,⟨?s3,⟨?s4,fun z3=>fun hz3=>⟨?x1,⟨⟨trivial,⟨.refl _,⟨.refl _,⟨?m2,⟨?m3,trivial⟩⟩⟩⟩⟩,⟨?s5,⟨trivial,?m4⟩⟩⟩⟩⟩⟩⟩⟩,fun hb2=>⟨rfl,?m5⟩⟩,fun hb1=>⟨rfl,?m6⟩⟩⟩⟩⟩⟩
   all_goals try simp only [etaT] at *
   case x0=>exact (0,0)
   case x1=>exact (z2.1+1,z2.2+((1+(Kap.name (l.getD z2.1 Sh.kap.nil)).size / 8+(Kap.params (l.getD z2.1 Sh.kap.nil)).length:Nat):Int)+z3)
   all_goals try simp only [decide_eq_true_eq,decide_eq_false_iff_not,Int.toNat_natCast,Tw.eta,Yw.eta] at *
   case m0=>exact .refl _
   case m1=>exact .refl _
   case s0=>exact ⟨Nat.zero_le _,by simp,by simp,by simp [Qcg]⟩
   all_goals obtain ⟨q1,q2,q3,q4⟩:=hq0
   case m5=>exact (Qad (QgL q2 (.inr (by omega))).symm).sub
   case m6=>exact (Qad (QgL q2 (.inl (by omega))).symm).sub
   all_goals have hz:z2.1<l.length:=by omega
   all_goals have t1:=Qm2 l (z2.1+1)
   all_goals have t2:=Qm3 hz
   all_goals have t6:=Qcf (Kap.body (l.getD z2.1 Sh.kap.nil))
   all_goals have e1:IntKind.i64.wrap (m - z2.2)=m - z2.2:=wJ _ (by omega) (by omega)
   all_goals have e8:(((Kap.name (l.getD z2.1 Sh.kap.nil)).size:Int)).tdiv 8=(((Kap.name (l.getD z2.1 Sh.kap.nil)).size / 8:Nat):Int):=(Int.ofNat_tdiv _ 8).symm
   case s1=>omega
   case s2=>omega
   case s3=>omega
   case s4=>rw [e1]; exact ⟨by omega,by omega,by omega,by omega⟩
   all_goals rw [e1] at hz3
   all_goals have r0:=Qcv (Kap.body (l.getD z2.1 Sh.kap.nil)) (m - z2.2)
   all_goals rw [← hz3] at r0
   case m2 =>
    refine Qad ?_
    rw [e8]
    simp (disch:=omega) only [wJ]
    omega
   case m3=>exact Qad (wJ _ (by omega) (by omega))
   case s5=>exact ⟨by omega,Qq9 q2 hz (by omega) (by unfold Qm8; rw [← hz3]; show z2.2+_+z3=_; omega),by show 0≤z2.2+_+z3; omega,by show z2.2+_+z3≤_; omega⟩
   case m4=>exact (by omega:l.length - (z2.1+1)<l.length - z2.1)
 · cases hs
end Go.Proofs.YtijfaigpilfpaaaGreatDoor
namespace Go.Proofs.YtijfaigpilfpaaaGreatDoor
open Go.RowKit
set_option linter.unusedVariables false
set_option maxRecDepth 100000
noncomputable def sWF:Spec
 | [.f a,.f b,.f c,x]=>match dtOf .dat a,dtOf .kap b,dtOf .srt c,tyOf x with
  | some D,some K,some S,some y=>some (some (y.fit∧fitK K∧y.wt≤100000000∧S.length+y.size≤100000000),.nm Int (formedY D K S y) iV)
  | _,_,_,_=>none
 | _=>none
noncomputable def sFormed:Spec
 | [x]=>match kwOf x with
  | some w=>some (some (w.y.fit∧fitK w.K∧w.y.wt≤100000000∧w.S.length+w.y.size≤100000000),.nm Int (formedY w.D w.K w.S w.y) iV)
  | none=>none
 | _=>none
theorem QtQ {E:Env} (hU:Up E):Contract Tryz.prog E 95 sFormed:=by
 intro xs p r hs hp
 unfold sFormed at hs
 split at hs
 · rename_i x
   split at hs
   · rename_i w hw
     cases hs
     exact Ql9 hU (w.y.size+1) [x] _ _ (by simp only [sFormedN,hw]; rfl) (fun q hq=>by cases hq; exact ⟨Nat.lt_succ_self _,hp _ rfl⟩)
   · cases hs
 · cases hs
theorem cWF {E:Env} (hU:Up E):Contract Tryz.prog E 31 sWF:=by
 refine Qac [(95,sFormed)] [] Tryz.ntmps31 Tryz.func31 (by kernel_rfl) (by kernel_rfl) hU ⟨QtQ hU,trivial⟩ trivial ?_
 intro xs p r hs hp
 unfold sWF at hs
 split at hs
 · rename_i a b c x
   split at hs
   · rename_i D K S y ha hb hc hx
     cases hs
     obtain ⟨h1,h2,h3,h4⟩:=hp _ rfl
     refine ⟨[.f (.dt .dat D),.f (.dt .kap K),.f (.dt .srt S),tyP y],[],.cons (Qa9 ha).sub (.cons (Qa9 hb).sub (.cons (Qa9 hc).sub (.cons (Qbp hx).sub .nil))),rfl,fun _ hsh=>?_⟩
     have h0:=h1
     refine Qab (p:=((Yw.mk y.fn y.sort (etaT y.ref) y.params y.result).fit∧fitK K∧(Yw.mk y.fn y.sort (etaT y.ref) y.params y.result).wt≤100000000∧S.length+(Yw.mk y.fn y.sort (etaT y.ref) y.params y.result).size≤100000000)∧∀ (z1:Int),z1=formedY D K S (Yw.mk y.fn y.sort (etaT y.ref) y.params y.result)→true=true∧Sub (iV z1) (iV (formedY D K S y))) ?kr ?_
     case kr=>kernel_rfl
     refine ⟨?s0,fun z1=>fun hz1=>⟨rfl,?m0⟩⟩
     all_goals try simp only [etaT] at *
     all_goals try simp only [Tw.eta,Yw.eta] at *
     case s0=>exact ⟨h1,h2,h3,h4⟩
     case m0=>rw [hz1]; exact .refl _
   · cases hs
 · cases hs
def tV14:Tw:=.mk 1 ⟨#[118]⟩ false [] []
def Qdy:Tw:=.mk 2 ⟨#[]⟩ false [3] []
def sV14:Spec
 | []=>some (none,.nm Tw tV14 tmP)
 | _=>none
theorem cV14 {E:Env} (hU:Up E):Contract Tryz.prog E 14 sV14:=by
 refine Qac [] [] Tryz.ntmps14 Tryz.func14 (by kernel_rfl) (by kernel_rfl) hU trivial trivial ?_
 intro xs p r hs hp
 unfold sV14 at hs
 split at hs
 · cases hs
   refine ⟨[],[],.nil,rfl,fun _ hsh=>?_⟩
   have h0:=hsh
   refine Qab (p:=true=true∧Sub (PV.agg [uV 1,sV (ByteArray.mk #[(118:UInt8)]),bV false,nlP,nlP]) (PV.agg [uV tV14.kind,sV tV14.name,bV tV14.neg,PV.f (Lf.lr tV14.digits 0),dP Sh.tm []])) ?kr ?_
   case kr=>kernel_rfl
   refine ⟨rfl,?m0⟩
   case m0=>exact (QaG (t:=tV14) rfl).sub
 · cases hs
def QnR:Spec
 | []=>some (none,.nm Tw Qdy tmP)
 | _=>none
theorem cThree {E:Env} (hU:Up E):Contract Tryz.prog E 16 QnR:=by
 refine Qac [(28,sOf)] [] Tryz.ntmps16 Tryz.func16 (by kernel_rfl) (by kernel_rfl) hU ⟨cOf hU,trivial⟩ trivial ?_
 intro xs p r hs hp
 unfold QnR at hs
 split at hs
 · cases hs
   refine ⟨[],[],.nil,rfl,fun _ hsh=>?_⟩
   have h0:=hsh
   refine Qab (p:=((-9223372036854775808:Int)≤(3:Int)∧(3:Int)≤(9223372036854775807:Int))∧∀ (z1:Int),z1=(3:Int)→true=true∧Sub (PV.agg [uV 2,sV (ByteArray.mk #[]),PV.f (Lf.zn z1),PV.f (Lf.zd z1 3),nlP]) (PV.agg [uV Qdy.kind,sV Qdy.name,bV Qdy.neg,PV.f (Lf.lr Qdy.digits 1),dP Sh.tm []])) ?kr ?_
   case kr=>kernel_rfl
   refine ⟨?s0,fun z1=>fun hz1=>⟨rfl,?m0⟩⟩
   case s0=>omega
   case m0=>subst hz1; exact (QaG (t:=Qdy) rfl).sub
 · cases hs
def gt14 (D:List Dat) (K:List Kap) (S:List Srt) (Y:List Yw) (T:List Tw):Bool:=decide (300<S.length) || (decide (300<capD 300 D) || (decide (300<Qbm 300 K) || (decide (300<QaD 300 Y) || decide (300<Qa1 300 T))))
def Qhd:Spec
 | [.f a,.f b,.f c,.f d,.f e]=>match dtOf .dat a,dtOf .kap b,dtOf .srt c,dtOf .ty d,dtOf .tm e with
  | some D,some K,some S,some Y,some T=>some (some (cntD D≤4000000∧Qcg K≤4000000∧QaI Y≤4000000∧Qat T≤4000000),.nm Bool (gt14 D K S Y T) bV)
  | _,_,_,_,_=>none
 | _=>none
theorem Qrf {E:Env} (hU:Up E):Contract Tryz.prog E 7 Qhd:=by
 refine Qac [(32,Qhe),(33,Qfl),(34,Qg8),(35,QcH 9000000)] [] Tryz.ntmps7 Tryz.func7 (by kernel_rfl) (by kernel_rfl) hU ⟨Qrg hU,Qpu hU,Qrd hU,(Qpv hU _).2,trivial⟩ trivial ?_
 intro xs p r hs hp
 unfold Qhd at hs
 split at hs
 · rename_i a b c d e
   split at hs
   · rename_i D K S Y T ha hb hc hd he
     cases hs
     obtain ⟨h1,h2,h3,h4⟩:=hp _ rfl
     refine ⟨[.f (.dt .dat D),.f (.dt .kap K),.f (.dt .srt S),.f (.dt .ty Y),.f (.dt .tm T)],[],.cons (Qa9 ha).sub (.cons (Qa9 hb).sub (.cons (Qa9 hc).sub (.cons (Qa9 hd).sub (.cons (Qa9 he).sub .nil)))),rfl,fun _ hsh=>?_⟩
     have h5:=Qer T
     refine Qab (p:=ifB (decide ((↑S.length:Int) > (300:Int))) (true=true∧Sub (bV true) (bV (gt14 D K S Y T))) ((cntD D≤4000000∧(0:Int)≤(300:Int)∧(300:Int)≤(4000000:Int))∧∀ (z1:Int),z1=capD (300:Int) D→ifB (decide (z1 > (300:Int))) (true=true∧Sub (bV true) (bV (gt14 D K S Y T))) ((Qcg K≤4000000∧(0:Int)≤(300:Int)∧(300:Int)≤(4000000:Int))∧∀ (z2:Int),z2=Qbm (300:Int) K→ifB (decide (z2 > (300:Int))) (true=true∧Sub (bV true) (bV (gt14 D K S Y T))) ((QaI Y≤4000000∧(0:Int)≤(300:Int)∧(300:Int)≤(4000000:Int))∧∀ (z3:Int),z3=QaD (300:Int) Y→ifB (decide (z3 > (300:Int))) (true=true∧Sub (bV true) (bV (gt14 D K S Y T))) ((2 * szL T+1<9000000∧Qat T≤4000000∧(-1:Int)≤(300:Int)∧(300:Int)≤(4000000:Int))∧∀ (z4:Int),z4=Qa1 (300:Int) T→true=true∧Sub (bV (decide (z4 > (300:Int)))) (bV (gt14 D K S Y T))))))) ?kr ?_
     case kr=>kernel_rfl
     refine Qaa.2 ⟨fun hb0=>⟨rfl,?m0⟩,fun hb0=>⟨?s0,fun z1=>fun hz1=>Qaa.2 ⟨fun hb1=>⟨rfl,?m1⟩,fun hb1=>⟨?s1,fun z2=>fun hz2=>Qaa.2 ⟨fun hb2=>⟨rfl,?m2⟩,fun hb2=>⟨?s2,fun z3=>fun hz3=>Qaa.2 ⟨fun hb3=>⟨rfl,?m3⟩,fun hb3=>⟨?s3,fun z4=>fun hz4=>⟨rfl,?m4⟩⟩⟩⟩⟩⟩⟩⟩⟩
     all_goals try simp only [decide_eq_true_eq,decide_eq_false_iff_not] at *
     all_goals try subst hz1
     all_goals try subst hz2
     all_goals try subst hz3
     all_goals try subst hz4
     case s0=>exact ⟨h1,by omega,by omega⟩
     case s1=>exact ⟨h2,by omega,by omega⟩
     case s2=>exact ⟨h3,by omega,by omega⟩
     case s3=>exact ⟨by omega,h4,by omega,by omega⟩
     all_goals refine (Qah ?_).sub
     all_goals unfold gt14
     case m0=>rw [decide_eq_true (by omega:300<S.length)]; rfl
     all_goals rw [decide_eq_false (by omega:¬ 300<S.length)]
     case m1=>rw [decide_eq_true (by omega:300<capD 300 D)]; rfl
     all_goals rw [decide_eq_false (by omega:¬ 300<capD 300 D)]
     case m2=>rw [decide_eq_true (by omega:300<Qbm 300 K)]; rfl
     all_goals rw [decide_eq_false (by omega:¬ 300<Qbm 300 K)]
     case m3=>rw [decide_eq_true (by omega:300<QaD 300 Y)]; rfl
     all_goals rw [decide_eq_false (by omega:¬ 300<QaD 300 Y)]
     case m4=>rfl
   · cases hs
 · cases hs
def Qn1:Spec
 | [.f (.v (.string s)),.f x]=>match dtOf .tm x with
  | some l=>some (some (l.length≤100000000),.nm Yw (.mk false s (Qaw l) [] []) tyP)
  | none=>none
 | _=>none
theorem cBaseN {E:Env} (hU:Up E):Contract Tryz.prog E 15 Qn1:=by
 intro xs p r hs hp
 unfold Qn1 at hs
 split at hs
 · rename_i s x
   split at hs
   · rename_i l hl
     cases hs
     exact Qr5 hU [.f (.v (.string s)),.f x] _ (.one (tyP (.mk false s (Qaw l) [] []))) (by simp only [Qk5,hl]) hp
   · cases hs
 · cases hs
def Qk2:Spec
 | [x,y]=>match tyOf x,tmOf y with
  | some t,some m=>some (some (t.fit∧(m.fitT∧QaQ m)∧(t.ref.size≤10000000∧m.size≤10000000)∧(keyB t.ref).length≤140737488355328∧(keyB m).length≤140737488355328),.nm Yw (QaB t m) tyP)
  | _,_=>none
 | _=>none
theorem QrV {E:Env} (hU:Up E) (hT:∀ K w H,E K w H→Tab w):Contract Tryz.prog E 9 Qk2:=by
 intro xs p r hs hp
 unfold Qk2 at hs
 split at hs
 · rename_i x y
   split at hs
   · rename_i t m h1 h2
     cases hs
     exact cWith hU hT [x,y] _ (.one (tyP (QaB t m))) (by simp only [QsA,h1,h2]) hp
   · cases hs
 · cases hs
def tLE:Tw:=.mk 9 ⟨#[]⟩ false [] [.mk 2 ⟨#[]⟩ false [] [],tV14]
def tEQ:Tw:=.mk 8 ⟨#[]⟩ false [] [tV14,Qdy]
def yT14:Yw:=.mk false bInt tLE [] []
def yU14:Yw:=.mk false bInt (.mk 11 ⟨#[]⟩ false [] [tLE,tEQ]) [] []
theorem Qrv:tV14.fitT:=⟨by decide,by decide,by decide,trivial⟩
theorem Qms:Qdy.fitT:=⟨by decide,by decide,by decide,trivial⟩
theorem Qnz:tLE.fitT:=⟨by decide,by decide,by decide,⟨by decide,by decide,by decide,trivial⟩,Qrv,trivial⟩
theorem Qjs:tEQ.fitT:=⟨by decide,by decide,by decide,Qrv,Qms,trivial⟩
theorem QkI:QaB yT14 tEQ=yU14:=by kernel_rfl
theorem QpY:QaB yU14 tEQ=yU14:=by rw [← QkI,Qd8]
theorem QkH:sameY yU14 yU14=true:=QaL.2 rfl
theorem QpX:sameY yT14 yU14=false:=Bool.eq_false_iff.2 fun h=>absurd (congrArg (fun y:Yw=>y.ref.kind) (QaL.1 h)) (by decide)
theorem QpW:alikeY yT14 yU14=true:=by rw [Qa2,if_pos ⟨rfl,rfl⟩]; rfl
theorem QpV:formedY [] [] [] yU14=0:=(QlL rfl).trans (by kernel_rfl)
theorem Qny:QaQ tV14:=⟨⟨by decide,fun x hx=>by cases hx⟩,trivial⟩
theorem QkN:QaQ tLE:=⟨⟨by decide,fun x hx=>by cases hx⟩,⟨⟨by decide,fun x hx=>by cases hx⟩,trivial⟩,Qny,trivial⟩
theorem Qg0:QaQ tEQ:=⟨⟨by decide,fun x hx=>by cases hx⟩,Qny,⟨⟨by decide,fun x hx=>by cases hx with | head=>decide | tail _ h=>cases h⟩,trivial⟩,trivial⟩
theorem Qnl:yT14.fit:=(Yw.fit_eq _).2 ⟨⟨by decide,Qnz,QkN⟩,⟨by decide,by decide⟩,trivial,trivial⟩
theorem Qey:yU14.fit:=(Yw.fit_eq _).2 ⟨⟨by decide,⟨by decide,by decide,by decide,Qnz,Qjs,trivial⟩,⟨⟨by decide,fun x hx=>by cases hx⟩,QkN,Qg0,trivial⟩⟩,⟨by decide,by decide⟩,trivial,trivial⟩
def QjA:Spec
 | []=>some (none,.one (bV true))
 | _=>none
set_option maxHeartbeats 4000000 in
theorem Qrh {E:Env} (hU:Up E) (hT:∀ K w H,E K w H→Tab w):Contract Tryz.prog E 6 QjA:=by
 refine Qac [(14,sV14),(16,QnR),(15,Qn1),(9,Qk2),(11,sSameY),(13,sAlike),(31,sWF)] [] Tryz.ntmps6 Tryz.func6 (by kernel_rfl) (by kernel_rfl) hU ⟨cV14 hU,cThree hU,cBaseN hU,QrV hU hT,QrZ hU,Qr6 hU,cWF hU,trivial⟩ trivial ?_
 intro xs p r hs hp
 unfold QjA at hs
 split at hs
 · cases hs
   refine ⟨[],[],.nil,rfl,fun _ hsh=>?_⟩
   have h0:=hsh
   refine Qab (p:=∀ (z1:Tw),z1=tV14→∀ (z2:Tw),z2=tV14→∀ (z3:Tw),z3=Qdy→1≤100000000∧∀ (z4:Yw),z4=Yw.mk false (ByteArray.mk #[(105:UInt8),(110:UInt8),(116:UInt8)]) (Qaw [Tw.mk (9:Int) (ByteArray.mk #[]) false [] [Tw.mk (2:Int) (ByteArray.mk #[]) false [] [],etaT z1]]) [] []→((Yw.mk z4.fn z4.sort (etaT z4.ref) z4.params z4.result).fit∧((Tw.mk (8:Int) (ByteArray.mk #[]) false [] [etaT z2,etaT z3]).fitT∧QaQ (Tw.mk (8:Int) (ByteArray.mk #[]) false [] [etaT z2,etaT z3]))∧((Yw.mk z4.fn z4.sort (etaT z4.ref) z4.params z4.result).ref.size≤10000000∧(Tw.mk (8:Int) (ByteArray.mk #[]) false [] [etaT z2,etaT z3]).size≤10000000)∧(keyB (Yw.mk z4.fn z4.sort (etaT z4.ref) z4.params z4.result).ref).length≤140737488355328∧(keyB (Tw.mk (8:Int) (ByteArray.mk #[]) false [] [etaT z2,etaT z3])).length≤140737488355328)∧∀ (z5:Yw),z5=QaB (Yw.mk z4.fn z4.sort (etaT z4.ref) z4.params z4.result) (Tw.mk (8:Int) (ByteArray.mk #[]) false [] [etaT z2,etaT z3])→2≤100000000∧∀ (z6:Yw),z6=Yw.mk false (ByteArray.mk #[(105:UInt8),(110:UInt8),(116:UInt8)]) (Qaw [Tw.mk (9:Int) (ByteArray.mk #[]) false [] [Tw.mk (2:Int) (ByteArray.mk #[]) false [] [],etaT z1],Tw.mk (8:Int) (ByteArray.mk #[]) false [] [etaT z2,etaT z3]]) [] []→((Yw.mk z5.fn z5.sort (etaT z5.ref) z5.params z5.result).fit∧(Yw.mk z6.fn z6.sort (etaT z6.ref) z6.params z6.result).fit)∧∀ (z7:Bool),z7=sameY (Yw.mk z5.fn z5.sort (etaT z5.ref) z5.params z5.result) (Yw.mk z6.fn z6.sort (etaT z6.ref) z6.params z6.result)→ifB z7 (((Yw.mk z5.fn z5.sort (etaT z5.ref) z5.params z5.result).fit∧((Tw.mk (8:Int) (ByteArray.mk #[]) false [] [etaT z2,etaT z3]).fitT∧QaQ (Tw.mk (8:Int) (ByteArray.mk #[]) false [] [etaT z2,etaT z3]))∧((Yw.mk z5.fn z5.sort (etaT z5.ref) z5.params z5.result).ref.size≤10000000∧(Tw.mk (8:Int) (ByteArray.mk #[]) false [] [etaT z2,etaT z3]).size≤10000000)∧(keyB (Yw.mk z5.fn z5.sort (etaT z5.ref) z5.params z5.result).ref).length≤140737488355328∧(keyB (Tw.mk (8:Int) (ByteArray.mk #[]) false [] [etaT z2,etaT z3])).length≤140737488355328)∧∀ (z8:Yw),z8=QaB (Yw.mk z5.fn z5.sort (etaT z5.ref) z5.params z5.result) (Tw.mk (8:Int) (ByteArray.mk #[]) false [] [etaT z2,etaT z3])→((Yw.mk z8.fn z8.sort (etaT z8.ref) z8.params z8.result).fit∧(Yw.mk z5.fn z5.sort (etaT z5.ref) z5.params z5.result).fit)∧∀ (z9:Bool),z9=sameY (Yw.mk z8.fn z8.sort (etaT z8.ref) z8.params z8.result) (Yw.mk z5.fn z5.sort (etaT z5.ref) z5.params z5.result)→ifB z9 (((Yw.mk z4.fn z4.sort (etaT z4.ref) z4.params z4.result).fit∧(Yw.mk z5.fn z5.sort (etaT z5.ref) z5.params z5.result).fit)∧∀ (z10:Bool),z10=sameY (Yw.mk z4.fn z4.sort (etaT z4.ref) z4.params z4.result) (Yw.mk z5.fn z5.sort (etaT z5.ref) z5.params z5.result)→ifB (!z10) (((Yw.mk z4.fn z4.sort (etaT z4.ref) z4.params z4.result).fit∧(Yw.mk z5.fn z5.sort (etaT z5.ref) z5.params z5.result).fit)∧∀ (z11:Bool),z11=alikeY (Yw.mk z4.fn z4.sort (etaT z4.ref) z4.params z4.result) (Yw.mk z5.fn z5.sort (etaT z5.ref) z5.params z5.result)→ifB z11 (((Yw.mk z5.fn z5.sort (etaT z5.ref) z5.params z5.result).fit∧fitK []∧(Yw.mk z5.fn z5.sort (etaT z5.ref) z5.params z5.result).wt≤100000000∧0+(Yw.mk z5.fn z5.sort (etaT z5.ref) z5.params z5.result).size≤100000000)∧∀ (z12:Int),z12=formedY [] [] [] (Yw.mk z5.fn z5.sort (etaT z5.ref) z5.params z5.result)→true=true∧Sub (bV (z12==(0:Int))) (bV true)) (true=true∧Sub (bV false) (bV true))) (true=true∧Sub (bV false) (bV true))) (true=true∧Sub (bV false) (bV true))) (true=true∧Sub (bV false) (bV true))) ?kr ?_
   case kr=>kernel_rfl
   refine fun z1=>fun hz1=>fun z2=>fun hz2=>fun z3=>fun hz3=>⟨?s0,fun z4=>fun hz4=>⟨?s1,fun z5=>fun hz5=>⟨?s2,fun z6=>fun hz6=>⟨?s3,fun z7=>fun hz7=>Qaa.2 ⟨fun hb0=>⟨?s4,fun z8=>fun hz8=>⟨?s5,fun z9=>fun hz9=>Qaa.2 ⟨fun hb1=>⟨?s6,fun z10=>fun hz10=>Qaa.2 ⟨fun hb2=>⟨?s7,fun z11=>fun hz11=>Qaa.2 ⟨fun hb3=>⟨?s8,fun z12=>fun hz12=>⟨rfl,?m0⟩⟩,fun hb3=>⟨rfl,?m1⟩⟩⟩,fun hb2=>⟨rfl,?m2⟩⟩⟩,fun hb1=>⟨rfl,?m3⟩⟩⟩⟩,fun hb0=>⟨rfl,?m4⟩⟩⟩⟩⟩⟩
   all_goals try simp only [etaT] at *
   all_goals try simp only [Tw.eta,Yw.eta] at *
   all_goals subst hz1
   case s0=>omega
   all_goals subst hz2
   all_goals subst hz3
   all_goals have e4:z4=yT14:=hz4
   all_goals clear hz4
   all_goals subst e4
   case s1=>exact ⟨Qnl,⟨Qjs,Qg0⟩,⟨by decide,by decide⟩,Nat.le_of_ble_eq_true (by kernel_rfl),Nat.le_of_ble_eq_true (by kernel_rfl)⟩
   all_goals have e5:z5=yU14:=Eq.trans (b:=QaB yT14 tEQ) hz5 QkI
   all_goals clear hz5
   all_goals subst e5
   case s2=>omega
   all_goals have e6:z6=yU14:=hz6
   all_goals clear hz6
   all_goals subst e6
   case s3=>exact ⟨Qey,Qey⟩
   case m4=>rw [hz7,QkH] at hb0; cases hb0
   case s4=>exact ⟨Qey,⟨Qjs,Qg0⟩,⟨by decide,by decide⟩,Nat.le_of_ble_eq_true (by kernel_rfl),Nat.le_of_ble_eq_true (by kernel_rfl)⟩
   all_goals have e8:z8=yU14:=Eq.trans (b:=QaB yU14 tEQ) hz8 QpY
   all_goals clear hz8
   all_goals subst e8
   case s5=>exact ⟨Qey,Qey⟩
   case m3=>rw [hz9,QkH] at hb1; cases hb1
   case s6=>exact ⟨Qnl,Qey⟩
   case m2=>rw [hz10,QpX] at hb2; cases hb2
   case s7=>exact ⟨Qnl,Qey⟩
   case m1=>rw [hz11,QpW] at hb3; cases hb3
   case s8=>exact ⟨Qey,(fun k hk=>by cases hk),Nat.le_of_ble_eq_true (by kernel_rfl),Nat.le_of_ble_eq_true (by kernel_rfl)⟩
   case m0=>rw [hz12,QpV]; exact .refl _
 · cases hs
end Go.Proofs.YtijfaigpilfpaaaGreatDoor
