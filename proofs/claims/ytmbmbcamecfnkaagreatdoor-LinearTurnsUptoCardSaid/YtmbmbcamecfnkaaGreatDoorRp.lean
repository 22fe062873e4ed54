/- The references of chapters 2, 3 by the pure run: DivMod, one, zero, nought, Of. -/
import Derived.Test.YtmbmbcamecfnkaaGreatDoorQa
import Derived.Test.YtmbmbcamecfnkaaGreatDoorRefI
set_option linter.unusedSimpArgs false
namespace Go.Proofs.YtmbmbcamecfnkaaGreatDoor
open Go.RowKit
set_option linter.unusedVariables false
set_option maxRecDepth 100000
theorem wI (n:Int) (h1:-1000000000000≤n) (h2:n≤1000000000000):IntKind.i64.wrap n=n:=Qjc n ⟨by omega,by omega⟩
theorem wrapU8 (n:Int):IntKind.u8.wrap n=n % 256:=by simp [IntKind.wrap,IntKind.bits,IntKind.signed]
theorem wrap8 (n:Int) (h:0≤n∧n≤255):IntKind.u8.wrap n=n:=by rw [wrapU8]; omega
theorem QoZ {k:IntKind} {l m:List Int} (h:l=m):SubB (.f (.is k l)) (.f (.is k m)):=by subst h; exact .refl _
theorem Qlg (l:List Nat) (i:Nat):(iN l).getD i 0=(dg l i:Int):=by
 unfold iN dg
 simp only [List.getD_eq_getElem?_getD,List.getElem?_map]
 cases l[i]? <;> rfl
theorem QsE (l m:List Nat):iN l++iN m=iN (l++m):=by simp [iN]
theorem iN_one (x:Nat):[(x:Int)]=iN [x]:=rfl
def natI (l:List Int):List Nat:=l.map Int.toNat
theorem QgR (l:List Nat):natI (iN l)=l:=by
 unfold natI iN
 rw [List.map_map]
 have:(Int.toNat ∘ Int.ofNat)=id:=by funext x; rfl
 rw [this,List.map_id]
def D10 (l:List Int) (n:Nat):Prop:=l.length≤n∧∃ L:List Nat,l=iN L∧∀ x∈L,x<10
def vI (l:List Int):Nat:=val 10 (natI l)
def dPn (n:Nat):PV:=.f (.is .u8 (iN (digs 10 n)))
theorem QaB (n:Nat):vI (iN (digs 10 n))=n:=by unfold vI; rw [QgR,Qah 10 (by omega)]
theorem QhR {n k:Nat} (h:n<10 ^ k):(digs 10 n).length≤k:=Qay 10 (by omega) n k h
def Qd7 (l:List Int):List Int:=(l.reverse.dropWhile (·==0)).reverse
theorem Qe9 (l:List Int) (x:Int):Qd7 (l++[x])=if x=0 then Qd7 l else l++[x]:=by
 unfold Qd7
 by_cases h:x=0
 · subst h; simp
 · simp [h]
theorem Qnr (L:List Nat) (h:∀ x∈L,x<10):Qd7 (iN L)=iN (digs 10 (val 10 L)):=by
 induction hn:L.length generalizing L with
 | zero=>obtain rfl:=List.length_eq_zero_iff.1 hn; rfl
 | succ n ih =>
  have hne:L≠[]:=by intro hc; subst hc; cases hn
  have e1:=List.dropLast_concat_getLast hne
  have hx:L.getLast hne<10:=h _ (List.getLast_mem hne)
  generalize L.getLast hne=x at e1 hx
  generalize hm:L.dropLast=M at e1
  subst e1
  have hM:M.length=n:=by simpa using hn
  rw [← QsE,show iN [x]=[(x:Int)] from rfl,Qe9]
  by_cases h0:x=0
  · subst h0
    rw [if_pos (by rfl),ih M (fun y hy=>h y (List.mem_append_left _ hy)) hM,Qbb,Nat.mul_zero,Nat.add_zero]
  · rw [if_neg (by omega)]
    have hr:Rgt 10 (M++[x]):=⟨h,by simp; exact h0⟩
    rw [← hr.digs (by omega)]
    simp [iN]
theorem Qhv {l:List Int} {i:Nat} (h:i<l.length):l.take (i+1)=l.take i++[l.getD i 0]:=by
 rw [List.take_add_one,List.getElem?_eq_getElem h,List.getD_eq_getElem?_getD,List.getElem?_eq_getElem h]; rfl
def Qsp:Spec
 | [.f (.is .u8 l)]=>some (some (l.length≤1000000000),.nm (List Int) (Qd7 l) fun l=>.f (.is .u8 l))
 | _=>none
theorem cTrim0 {E:Env} (hU:Up E):Contract Tryz.prog E 332 Qsp:=by
 refine Qa9 [] Tryz.ntmps332 Tryz.func332 (by kernel_rfl) (by kernel_rfl) hU trivial ?_
 intro xs p r hs hp
 unfold Qsp at hs
 split at hs
 · rename_i l
   cases hs
   have hl:=hp _ rfl
   refine ⟨[.f (.is .u8 l)],[(1,.s ⟨Nat,fun i=>⟨[(0,.f (.is .u8 (l.take i)))],[]⟩,fun i=>i≤l.length∧Qd7 (l.take i)=Qd7 l,fun i=>i⟩)],.cons (.refl _) .nil,rfl,?_⟩
   refine Qag (p:=∃ (x1:Nat),(True∧SubB (PV.f (Lf.is IntKind.u8 l)) (PV.f (Lf.is IntKind.u8 (List.take x1 l)))∧True)∧(x1≤l.length∧Qd7 (List.take x1 l)=Qd7 l)∧True∧∀ (z2:Nat),z2≤l.length∧Qd7 (List.take z2 l)=Qd7 l→True→ifB (decide ((↑(List.take z2 l).length:Int) > (0:Int))) (((0:Int)≤IntKind.i64.wrap ((↑(List.take z2 l).length:Int) - (1:Int))∧IntKind.i64.wrap ((↑(List.take z2 l).length:Int) - (1:Int))<(↑(List.take z2 l).length:Int))∧ifB ((List.take z2 l).getD (IntKind.i64.wrap ((↑(List.take z2 l).length:Int) - (1:Int))).toNat (0:Int)==(0:Int)) (((0:Int)≤(0:Int)∧(0:Int)≤IntKind.i64.wrap ((↑(List.take z2 l).length:Int) - (1:Int))∧IntKind.i64.wrap ((↑(List.take z2 l).length:Int) - (1:Int))≤(↑(List.take z2 l).length:Int))∧∃ (x3:Nat),(True∧SubB (PV.f (Lf.is IntKind.u8 (List.drop (Int.toNat (0:Int)) (List.take (IntKind.i64.wrap ((↑(List.take z2 l).length:Int) - (1:Int))).toNat (List.take z2 l))))) (PV.f (Lf.is IntKind.u8 (List.take x3 l)))∧True)∧(x3≤l.length∧Qd7 (List.take x3 l)=Qd7 l)∧True∧x3.succ.le z2) (true=true∧Sub (PV.f (Lf.is IntKind.u8 (List.take z2 l))) (PV.f (Lf.is IntKind.u8 (Qd7 l))))) (true=true∧Sub (PV.f (Lf.is IntKind.u8 (List.take z2 l))) (PV.f (Lf.is IntKind.u8 (Qd7 l))))) ?kr ?_
   case kr=>kernel_rfl
   refine ⟨?x0,⟨⟨trivial,⟨?m0,trivial⟩⟩,⟨?s0,⟨trivial,fun z2=>fun hq0=>fun _=>Qae.2 ⟨fun hb1=>⟨?s1,Qae.2 ⟨fun hb2=>⟨?s2,⟨?x1,⟨⟨trivial,⟨?m1,trivial⟩⟩,⟨?s3,⟨trivial,?m2⟩⟩⟩⟩⟩,fun hb2=>⟨rfl,?m3⟩⟩⟩,fun hb1=>⟨rfl,?m4⟩⟩⟩⟩⟩⟩
   case x0=>exact l.length
   case x1=>exact z2 - 1
   case m0=>exact QoZ (List.take_length).symm
   case s0=>exact ⟨Nat.le_refl _,by rw [List.take_length]⟩
   all_goals have hlen:(List.take z2 l).length=z2:=by rw [List.length_take,Nat.min_eq_left hq0.1]
   all_goals rw [hlen] at hb1
   case m4 =>
    have h0:z2=0:=by have:=of_decide_eq_false hb1; omega
    subst h0
    rw [← hq0.2]; exact .refl _
   all_goals have hpos:0<z2:=by have:=of_decide_eq_true hb1; omega
   all_goals obtain ⟨i,rfl⟩:∃ i,z2=i+1:=⟨z2 - 1,by omega⟩
   all_goals have hw:IntKind.i64.wrap (((i+1:Nat):Int) - 1)=(i:Int):=by rw [Qjc _ ⟨by omega,by omega⟩]; omega
   case s1=>rw [hlen,hw]; omega
   all_goals rw [hlen,hw,Int.toNat_natCast] at hb2
   all_goals have hi:i<l.length:=by omega
   all_goals have hg:(List.take (i+1) l).getD i 0=l.getD i 0:=by rw [List.getD_eq_getElem?_getD,List.getElem?_take,if_pos (by omega),← List.getD_eq_getElem?_getD]
   all_goals rw [hg] at hb2
   case m3 =>
    rw [← hq0.2,Qhv hi,Qe9,if_neg (by simpa using hb2)]; exact .refl _
   case s2=>rw [hlen,hw]; omega
   all_goals try rw [Nat.add_sub_cancel]
   case m1=>rw [hlen,hw,Int.toNat_natCast]; exact QoZ (by simp [List.take_take])
   case s3 =>
    have h:=hq0.2
    rw [Qhv hi,Qe9,if_pos (by simpa using hb2)] at h
    exact ⟨by omega,h⟩
   case m2=>exact Nat.le_refl _
 · cases hs
def Ql2:Spec
 | [.f (.is .u8 l)]=>some (some (D10 l 1000000000),.nm Nat (vI l) dPn)
 | _=>none
theorem QsQ {E:Env} (hU:Up E):Contract Tryz.prog E 332 Ql2:=by
 refine (cTrim0 hU).weaken fun xs p r hs hp=>?_
 unfold Ql2 at hs
 split at hs
 · rename_i l
   cases hs
   obtain ⟨h1,L,rfl,h2⟩:=hp _ rfl
   refine ⟨_,_,_,.cons (.refl _) .nil,rfl,fun q hq=>by cases hq; exact h1,?_⟩
   show Sub (.f (.is .u8 (Qd7 (iN L)))) (dPn (vI (iN L)))
   unfold vI dPn
   rw [QgR,Qnr L h2]; exact .refl _
 · cases hs
theorem dg_or {L:List Nat} (i:Nat):i<L.length∨dg L i=0:=by
 rcases Nat.lt_or_ge i L.length with h | h
 · exact .inl h
 · exact .inr (QcM L i h)
end Go.Proofs.YtmbmbcamecfnkaaGreatDoor
namespace Go.Proofs.YtmbmbcamecfnkaaGreatDoor
open Go.RowKit
set_option linter.unusedVariables false
set_option maxRecDepth 100000
def R10 (l:List Int) (k:Nat):Prop:=l.length≤k∧∃ n:Nat,l=iN (digs 10 n)
theorem Qcu {n k:Nat} (h:(digs 10 n).length≤k):R10 (iN (digs 10 n)) k:=⟨by rw [Qa1]; exact h,_,rfl⟩
def ordN (a b:Nat):Int:=if a<b then -1 else if b<a then 1 else 0
def Qgx:Spec
 | [.f (.is .u8 l),.f (.is .u8 m)]=>some (some (R10 l 1000000000∧R10 m 1000000000),.one (.f (.v (.int .i64 (ordN (vI l) (vI m))))))
 | _=>none
theorem Qlx {E:Env} (hU:Up E):Contract Tryz.prog E 278 Qgx:=by
 refine Qa9 [] Tryz.ntmps278 Tryz.func278 (by kernel_rfl) (by kernel_rfl) hU trivial ?_
 intro xs p r hs hp
 unfold Qgx at hs
 split at hs
 · rename_i l m
   cases hs
   obtain ⟨⟨h1,A,rfl⟩,h2,C,rfl⟩:=hp _ rfl
   refine ⟨[.f (.is .u8 (iN (digs 10 A))),.f (.is .u8 (iN (digs 10 C)))],[(6,.s ⟨Nat,fun k=>⟨[(0,.f (.is .u8 (iN (digs 10 A)))),(1,.f (.is .u8 (iN (digs 10 C)))),(5,.f (.v (.int .i64 ((k:Int) - 1))))],[]⟩,
    fun k=>k≤(digs 10 A).length∧(digs 10 A).length=(digs 10 C).length∧(digs 10 A).drop k=(digs 10 C).drop k,fun k=>k⟩)],.cons (.refl _) (.cons (.refl _) .nil),rfl,?_⟩
   rw [QaB,QaB]
   rw [Qa1] at h1 h2
   have hlt:A<C→ordN A C=-1:=fun h=>by unfold ordN; rw [if_pos h]
   have hgt:C<A→ordN A C=1:=fun h=>by unfold ordN; rw [if_neg (by omega),if_pos h]
   have heq:A=C→ordN A C=0:=fun h=>by unfold ordN; rw [if_neg (by omega),if_neg (by omega)]
   refine Qag (p:=let A0:=PV.f (Lf.v (Value.int IntKind.i64 (ordN A C))); let A1:=(↑(iN (digs 10 A)).length:Int); let A2:=iN (digs 10 C); ifB (A1 != (↑A2.length:Int)) (ifB (decide (A1<(↑A2.length:Int))) (true=true∧Sub (PV.f (Lf.v (Value.int IntKind.i64 (-1:Int)))) A0) (true=true∧Sub (PV.f (Lf.v (Value.int IntKind.i64 (1:Int)))) A0)) (∃ (x1:Nat),(True∧rfB (PV.f (Lf.is IntKind.u8 (iN (digs 10 A))))∧rfB (PV.f (Lf.is IntKind.u8 A2))∧SubB (PV.f (Lf.v (Value.int IntKind.i64 (IntKind.i64.wrap (A1 - (1:Int)))))) (PV.f (Lf.v (Value.int IntKind.i64 ((↑x1:Int) - (1:Int)))))∧True)∧(x1≤(digs 10 A).length∧(digs 10 A).length=(digs 10 C).length∧List.drop x1 (digs 10 A)=List.drop x1 (digs 10 C))∧True∧∀ (z2:Nat),z2≤(digs 10 A).length∧(digs 10 A).length=(digs 10 C).length∧List.drop z2 (digs 10 A)=List.drop z2 (digs 10 C)→True→ifB (decide ((↑z2:Int) - (1:Int) ≥ (0:Int))) (((0:Int)≤(↑z2:Int) - (1:Int)∧(↑z2:Int) - (1:Int)<A1)∧((0:Int)≤(↑z2:Int) - (1:Int)∧(↑z2:Int) - (1:Int)<(↑A2.length:Int))∧ifB (decide ((iN (digs 10 A)).getD ((↑z2:Int) - (1:Int)).toNat (0:Int)<A2.getD ((↑z2:Int) - (1:Int)).toNat (0:Int))) (true=true∧Sub (PV.f (Lf.v (Value.int IntKind.i64 (-1:Int)))) A0) (((0:Int)≤(↑z2:Int) - (1:Int)∧(↑z2:Int) - (1:Int)<A1)∧((0:Int)≤(↑z2:Int) - (1:Int)∧(↑z2:Int) - (1:Int)<(↑A2.length:Int))∧ifB (decide ((iN (digs 10 A)).getD ((↑z2:Int) - (1:Int)).toNat (0:Int) > A2.getD ((↑z2:Int) - (1:Int)).toNat (0:Int))) (true=true∧Sub (PV.f (Lf.v (Value.int IntKind.i64 (1:Int)))) A0) (∃ (x3:Nat),(True∧rfB (PV.f (Lf.is IntKind.u8 (iN (digs 10 A))))∧rfB (PV.f (Lf.is IntKind.u8 A2))∧SubB (PV.f (Lf.v (Value.int IntKind.i64 (IntKind.i64.wrap ((↑z2:Int) - (1:Int) - (1:Int)))))) (PV.f (Lf.v (Value.int IntKind.i64 ((↑x3:Int) - (1:Int)))))∧True)∧(x3≤(digs 10 A).length∧(digs 10 A).length=(digs 10 C).length∧List.drop x3 (digs 10 A)=List.drop x3 (digs 10 C))∧True∧x3.succ.le z2))) (true=true∧Sub (PV.f (Lf.v (Value.int IntKind.i64 (0:Int)))) A0))) ?kr ?_
   case kr=>kernel_rfl
   conv=>zeta
   refine Qae.2 ⟨fun hb0=>Qae.2 ⟨fun hb1=>⟨rfl,?m0⟩,fun hb1=>⟨rfl,?m1⟩⟩,fun hb0=>⟨?x0,⟨⟨trivial,⟨.refl _,⟨.refl _,⟨?m2,trivial⟩⟩⟩⟩,⟨?s0,⟨trivial,fun z2=>fun hq2=>fun _=>Qae.2 ⟨fun hb3=>⟨?s1,⟨?s2,Qae.2 ⟨fun hb4=>⟨rfl,?m3⟩,fun hb4=>⟨?s3,⟨?s4,Qae.2 ⟨fun hb5=>⟨rfl,?m4⟩,fun hb5=>⟨?x1,⟨⟨trivial,⟨.refl _,⟨.refl _,⟨?m5,trivial⟩⟩⟩⟩,⟨?s5,⟨trivial,?m6⟩⟩⟩⟩⟩⟩⟩⟩⟩⟩,fun hb3=>⟨rfl,?m7⟩⟩⟩⟩⟩⟩⟩
   case x0=>exact (digs 10 A).length
   case x1=>exact z2 - 1
   all_goals simp only [Qa1,Qlg,Int.toNat_natCast] at *
   case m0=>rw [hlt (Qef (by have:=of_decide_eq_true hb1; omega))]; exact .refl _
   case m1 =>
    have h:(digs 10 C).length<(digs 10 A).length:=by
     have:=of_decide_eq_false hb1
     have:=bne_iff_ne.1 hb0
     omega
    rw [hgt (Qef h)]; exact .refl _
   all_goals have hln:(digs 10 A).length=(digs 10 C).length:=(by have:=bne_eq_false_iff_eq.1 hb0; omega)
   case m2=>exact QaN (by rw [Qjc _ ⟨by omega,by omega⟩])
   case s0=>exact ⟨Nat.le_refl _,hln,by rw [List.drop_of_length_le (Nat.le_refl _),List.drop_of_length_le (by omega)]⟩
   case m7 =>
    have h0:z2=0:=by have:=of_decide_eq_false hb3; omega
    subst h0
    have:=hq2.2.2
    rw [List.drop_zero,List.drop_zero] at this
    rw [heq (Qod this)]; exact .refl _
   all_goals obtain ⟨k,rfl⟩:∃ k,z2=k+1:=⟨z2 - 1,by have:=of_decide_eq_true hb3; omega⟩
   all_goals have hk:=hq2.1
   all_goals have hw:(((k+1:Nat):Int) - 1).toNat=k:=by omega
   all_goals simp only [hw] at *
   case s1=>exact ⟨by omega,by omega⟩
   case s2=>exact ⟨by omega,by omega⟩
   case m3=>rw [hlt (Qee (k:=k) (by omega) (by omega) hq2.2.2 (by have:=of_decide_eq_true hb4; omega))]; exact .refl _
   case s3=>exact ⟨by omega,by omega⟩
   case s4=>exact ⟨by omega,by omega⟩
   case m4=>rw [hgt (Qee (k:=k) (by omega) (by omega) hq2.2.2.symm (by have:=of_decide_eq_true hb5; omega))]; exact .refl _
   all_goals rw [Nat.add_sub_cancel]
   case m5=>exact QaN (by rw [Qjc _ ⟨by omega,by omega⟩]; omega)
   case s5 =>
    refine ⟨by omega,hln,?_⟩
    have e1:=of_decide_eq_false hb4
    have e2:=of_decide_eq_false hb5
    rw [Qa4 _ k (by omega),Qa4 _ k (by omega),hq2.2.2,show dg (digs 10 A) k=dg (digs 10 C) k by omega]
   case m6=>exact Nat.le_refl _
 · cases hs
def Ql7:Spec
 | [.f (.is .u8 l),.f (.is .u8 m)]=>some (some (R10 l 100000000∧R10 m 100000000∧vI m≤vI l),.nm Nat (vI l - vI m) dPn)
 | _=>none
def ivL (L M:List Nat) (x:Nat × Nat × List Nat):Prop:=x.2.2.length=L.length∧x.1≤L.length∧x.2.2.drop x.1=L.drop x.1∧val 10 (x.2.2.take x.1)+val 10 (M.take x.1)=val 10 (L.take x.1)+10 ^ x.1 * x.2.1∧x.2.1≤1∧(∀ y∈x.2.2,y<10)
def nxL (M:List Nat) (z:Nat × Nat × List Nat):Nat × Nat × List Nat:=(z.1+1,if dg z.2.2 z.1<z.2.1+dg M z.1 then 1 else 0,z.2.2.set z.1 (if dg z.2.2 z.1<z.2.1+dg M z.1 then dg z.2.2 z.1+10 - z.2.1 - dg M z.1 else dg z.2.2 z.1 - z.2.1 - dg M z.1))
theorem Qia {l:List Nat} {i x:Nat} (h:i<l.length):(l.set i x).take (i+1)=l.take i++[x]:=by
 rw [List.take_add_one,List.getElem?_set,if_pos rfl,if_pos h,List.take_set_of_le (Nat.le_refl _)]; rfl
theorem QsD (l:List Nat) (i:Nat) (x:Nat):iN (l.set i x)=(iN l).set i (x:Int):=by
 unfold iN
 rw [List.map_set]; rfl
theorem QrG {L M:List Nat} {z:Nat × Nat × List Nat} (h:ivL L M z) (hi:z.1<L.length) (hL:∀ x∈L,x<10) (hM:∀ x∈M,x<10):ivL L M (nxL M z):=by
 obtain ⟨i,c,o⟩:=z
 obtain ⟨r1,r2,r3,r4,r5,r6⟩:=h
 dsimp only at r1 r2 r3 r4 r5 r6 hi
 have e1:=Qbv r6 (by omega) i
 have e2:=Qbv hM (by omega) i
 have hd:dg o i=dg L i:=by
  have a1:=Qa4 o i (by omega)
  have a2:=Qa4 L i hi
  rw [r3,a2] at a1
  injection a1 with a1 _
  exact a1.symm
 refine ⟨by simp [nxL,r1],by simp only [nxL]; omega,?_,?_,by simp only [nxL]; split <;> omega,fun y hy=>?_⟩
 · simp only [nxL]
   rw [List.drop_set_of_lt (by omega)]
   have:=congrArg (List.drop 1) r3
   rwa [List.drop_drop,List.drop_drop] at this
 · simp only [nxL]
   rw [Qia (by omega),Qbb,List.length_take,Nat.min_eq_left (by omega),Qft 10 M i,QbA 10 L i hi,Nat.pow_succ,← hd]
   generalize 10 ^ i=p at *
   split
   · rename_i hlt
     obtain ⟨d,hd2⟩:∃ d,d=dg o i+10 - c - dg M i:=⟨_,rfl⟩
     have:d+c+dg M i=dg o i+10:=by omega
     rw [← hd2]
     have h2:p * d+p * c+p * dg M i=p * dg o i+p * 10:=by rw [← Nat.mul_add,← Nat.mul_add,this,Nat.mul_add]
     omega
   · rename_i hlt
     obtain ⟨d,hd2⟩:∃ d,d=dg o i - c - dg M i:=⟨_,rfl⟩
     have:d+c+dg M i=dg o i:=by omega
     rw [← hd2]
     have h2:p * d+p * c+p * dg M i=p * dg o i:=by rw [← Nat.mul_add,← Nat.mul_add,this]
     omega
 · simp only [nxL] at hy
   rcases List.mem_or_eq_of_mem_set hy with hy | rfl
   · exact r6 y hy
   · split <;> omega
theorem QsW {E:Env} (hU:Up E):Contract Tryz.prog E 333 Ql7:=by
 refine Qa9 [(332,Ql2)] Tryz.ntmps333 Tryz.func333 (by kernel_rfl) (by kernel_rfl) hU ⟨QsQ hU,trivial⟩ ?_
 intro xs p r hs hp
 unfold Ql7 at hs
 split at hs
 · rename_i l m
   cases hs
   obtain ⟨⟨h1,A,rfl⟩,⟨h3,C,rfl⟩,h5⟩:=hp _ rfl
   rw [QaB,QaB] at h5 ⊢
   refine ⟨[.f (.is .u8 (iN (digs 10 A))),.f (.is .u8 (iN (digs 10 C)))],[(4,.s ⟨Nat × Nat × List Nat,fun x=>⟨[(0,.f (.is .u8 (iN (digs 10 A)))),(1,.f (.is .u8 (iN (digs 10 C)))),(5,.wr 0),(6,.f (.v (.int .i64 (x.2.1:Nat)))),(7,.f (.v (.int .i64 (x.1:Nat))))],[.own 5 (.is .u8 (iN x.2.2))]⟩,
    ivL (digs 10 A) (digs 10 C),fun x=>(digs 10 A).length - x.1⟩)],.cons (.refl _) (.cons (.refl _) .nil),rfl,?_⟩
   have hca:(digs 10 C).length≤(digs 10 A).length:=Qar 10 (by omega) h5
   rw [Qa1] at h1 h3
   have e0:=Qau 10 (by omega) A
   have f0:=Qau 10 (by omega) C
   refine Qag (p:=let A3:=PV.f (Lf.is IntKind.u8 (iN (digs 10 A))); let A4:=PV.f (Lf.is IntKind.u8 (iN (digs 10 C))); let A6:=PV.f (Lf.v (Value.int IntKind.i64 (0:Int))); let A7:=fun (x3:Nat × Nat × List Nat)=>(PV.f (Lf.v (Value.int IntKind.i64 (↑x3.snd.fst:Int)))); let A8:=fun (x3:Nat × Nat × List Nat)=>(PV.f (Lf.v (Value.int IntKind.i64 (↑x3.fst:Int)))); let A9:=fun (z2:Nat × Nat × List Nat)=>(↑z2.fst:Int); let A0:=fun (z2:Nat × Nat × List Nat)=>(IntKind.i64.wrap ((iN z2.snd.snd).getD (A9 z2).toNat (0:Int)) - (↑z2.snd.fst:Int)); let A1:=fun (z2:Nat × Nat × List Nat)=>((0:Int)≤(A9 z2)∧(A9 z2)<(↑(iN z2.snd.snd).length:Int)); let A2:=fun (z2:Nat × Nat × List Nat)=>(PV.f (Lf.v (Value.int IntKind.i64 (IntKind.i64.wrap ((A9 z2)+(1:Int)))))); let A5:=fun (z2:Nat × Nat × List Nat)=>(IntKind.i64.wrap (A0 z2) - IntKind.i64.wrap ((iN (digs 10 C)).getD (A9 z2).toNat (0:Int))); ((iN (digs 10 A)).length≤9223372036854775807∧(iN (digs 10 A)).length * 1≤140737488355328)∧∃ (x1:Nat × Nat × List Nat),((Lf.is IntKind.u8 (iN x1.snd.snd)=Lf.is IntKind.u8 (iN (digs 10 A))∧True)∧rfB A3∧rfB A4∧rfB (PV.wr 0)∧SubB A6 (PV.f (Lf.v (Value.int IntKind.i64 (↑x1.snd.fst:Int))))∧SubB A6 (PV.f (Lf.v (Value.int IntKind.i64 (↑x1.fst:Int))))∧True)∧ivL (digs 10 A) (digs 10 C) x1∧True∧∀ (z2:Nat × Nat × List Nat),ivL (digs 10 A) (digs 10 C) z2→True→ifB (decide ((A9 z2)<(↑(iN z2.snd.snd).length:Int))) ((A1 z2)∧ifB (decide ((A9 z2)<(↑(iN (digs 10 C)).length:Int))) (((0:Int)≤(A9 z2)∧(A9 z2)<(↑(iN (digs 10 C)).length:Int))∧ifB (decide (IntKind.i64.wrap (A5 z2)<(0:Int))) ((A1 z2)∧∃ (x3:Nat × Nat × List Nat),((Lf.is IntKind.u8 (iN x3.snd.snd)=Lf.is IntKind.u8 ((iN z2.snd.snd).set (A9 z2).toNat (IntKind.u8.wrap (IntKind.i64.wrap (IntKind.i64.wrap (A5 z2)+(10:Int)))))∧True)∧rfB A3∧rfB A4∧rfB (PV.wr 0)∧SubB (PV.f (Lf.v (Value.int IntKind.i64 (1:Int)))) (A7 x3)∧SubB (A2 z2) (A8 x3)∧True)∧ivL (digs 10 A) (digs 10 C) x3∧True∧((digs 10 A).length - x3.fst).succ.le ((digs 10 A).length - z2.fst)) ((A1 z2)∧∃ (x3:Nat × Nat × List Nat),((Lf.is IntKind.u8 (iN x3.snd.snd)=Lf.is IntKind.u8 ((iN z2.snd.snd).set (A9 z2).toNat (IntKind.u8.wrap (IntKind.i64.wrap (A5 z2))))∧True)∧rfB A3∧rfB A4∧rfB (PV.wr 0)∧SubB A6 (A7 x3)∧SubB (A2 z2) (A8 x3)∧True)∧ivL (digs 10 A) (digs 10 C) x3∧True∧((digs 10 A).length - x3.fst).succ.le ((digs 10 A).length - z2.fst))) (ifB (decide (IntKind.i64.wrap (A0 z2)<(0:Int))) ((A1 z2)∧∃ (x3:Nat × Nat × List Nat),((Lf.is IntKind.u8 (iN x3.snd.snd)=Lf.is IntKind.u8 ((iN z2.snd.snd).set (A9 z2).toNat (IntKind.u8.wrap (IntKind.i64.wrap (IntKind.i64.wrap (A0 z2)+(10:Int)))))∧True)∧rfB A3∧rfB A4∧rfB (PV.wr 0)∧SubB (PV.f (Lf.v (Value.int IntKind.i64 (1:Int)))) (A7 x3)∧SubB (A2 z2) (A8 x3)∧True)∧ivL (digs 10 A) (digs 10 C) x3∧True∧((digs 10 A).length - x3.fst).succ.le ((digs 10 A).length - z2.fst)) ((A1 z2)∧∃ (x3:Nat × Nat × List Nat),((Lf.is IntKind.u8 (iN x3.snd.snd)=Lf.is IntKind.u8 ((iN z2.snd.snd).set (A9 z2).toNat (IntKind.u8.wrap (IntKind.i64.wrap (A0 z2))))∧True)∧rfB A3∧rfB A4∧rfB (PV.wr 0)∧SubB A6 (A7 x3)∧SubB (A2 z2) (A8 x3)∧True)∧ivL (digs 10 A) (digs 10 C) x3∧True∧((digs 10 A).length - x3.fst).succ.le ((digs 10 A).length - z2.fst)))) (D10 (iN z2.snd.snd) 1000000000∧∀ (z3:Nat),z3=vI (iN z2.snd.snd)→true=true∧Sub (PV.f (Lf.is IntKind.u8 (iN (digs 10 z3)))) (PV.f (Lf.is IntKind.u8 (iN (digs 10 (A - C))))))) ?kr ?_
   case kr=>kernel_rfl
   conv=>zeta
   refine ⟨?s0,⟨?x0,⟨?s1,⟨?s2,⟨trivial,fun z2=>fun hq0=>fun _=>Qae.2 ⟨fun hb1=>⟨?s3,Qae.2 ⟨fun hb2=>⟨?s4,Qae.2 ⟨fun hb3=>⟨?s5,⟨?x1,⟨?s6,⟨?s7,⟨trivial,?m0⟩⟩⟩⟩⟩,fun hb3=>⟨?s8,⟨?x2,⟨?s9,⟨?s10,⟨trivial,?m1⟩⟩⟩⟩⟩⟩⟩,fun hb2=>Qae.2 ⟨fun hb4=>⟨?s11,⟨?x3,⟨?s12,⟨?s13,⟨trivial,?m2⟩⟩⟩⟩⟩,fun hb4=>⟨?s14,⟨?x4,⟨?s15,⟨?s16,⟨trivial,?m3⟩⟩⟩⟩⟩⟩⟩⟩,fun hb1=>⟨?s17,fun z3=>fun hz3=>⟨rfl,?m4⟩⟩⟩⟩⟩⟩⟩⟩
   case x0=>exact (0,0,digs 10 A)
   case s0=>rw [Qa1]; exact ⟨by omega,by omega⟩
   case s1=>exact ⟨⟨rfl,trivial⟩,.refl _,.refl _,.refl _,.refl _,.refl _,trivial⟩
   case s2=>exact ⟨rfl,Nat.zero_le _,rfl,by simp [val],Nat.zero_le _,e0⟩
   all_goals try exact nxL (digs 10 C) z2
   all_goals obtain ⟨r1,r2,r3,r4,r5,r6⟩:=hq0
   all_goals rw [Qa1,r1] at hb1
   case s17=>exact ⟨by rw [Qa1]; omega,_,rfl,r6⟩
   case m4 =>
    have hi:z2.1=(digs 10 A).length:=by have:=of_decide_eq_false hb1; omega
    rw [hi,List.take_of_length_le (by omega),List.take_of_length_le (by omega),List.take_of_length_le (Nat.le_refl _),Qah 10 (by omega),Qah 10 (by omega)] at r4
    have hlt:=Qby 10 _ r6
    rw [r1] at hlt
    have hlt2:=Qby 10 _ e0
    have hc0:z2.2.1=0:=by
     rcases Nat.eq_zero_or_pos z2.2.1 with h | h
     · exact h
     · have h1:z2.2.1=1:=by omega
       rw [h1,Nat.mul_one] at r4; omega
    rw [hc0,Nat.mul_zero,Nat.add_zero] at r4
    subst hz3
    unfold vI
    rw [QgR,show val 10 z2.2.2=A - C by omega]; exact .refl _
   all_goals have hi:=of_decide_eq_true hb1
   all_goals have d2:=dg_or (L:=digs 10 C) z2.1
   all_goals have e1:=Qbv r6 (by omega) z2.1
   all_goals have e2:=Qbv f0 (by omega) z2.1
   all_goals have hn:=QrG (z:=z2) ⟨r1,r2,r3,r4,r5,r6⟩ (by omega) e0 f0
   all_goals simp (disch:=omega) only [Qa1,Qlg,Int.toNat_natCast,decide_eq_true_eq,decide_eq_false_iff_not,wI] at *
   all_goals first
    | exact hn
    | exact ⟨by omega,by omega⟩
    | (show _+1≤_; simp only [nxL]; omega)
    | (refine ⟨⟨Eq.symm ?_, by trivial⟩, .refl _, .refl _, .refl _, QaN ?_, QaN ?_, by trivial⟩
       · simp only [nxL]
         rw [QsD]
         congr 2
         rw [wrap8 _ (by omega)]
         split <;> omega
       · simp only [nxL]
         split <;> omega
       · simp only [nxL]; omega)
 · cases hs
end Go.Proofs.YtmbmbcamecfnkaaGreatDoor
namespace Go.Proofs.YtmbmbcamecfnkaaGreatDoor
open Go.RowKit
set_option linter.unusedVariables false
set_option maxRecDepth 100000
theorem Qq4 {k:IntKind}:SubB (.f (.v (.slice none 0 0))) (.f (.is k [])):=⟨fun H B v h=>by
 have:=h.val
 subst this
 exact .f (.slf (f:=.is k []) (fun _=>rfl) rfl trivial (Nat.le_refl _) (by unfold maxLen; omega) (fun _=>rfl) 0 0 (fun _ _=>undef) (fun hc=>absurd hc (Nat.lt_irrefl 0)) (fun i hi=>absurd hi (Nat.not_lt_zero i)) (fun i hi=>absurd hi (Nat.not_lt_zero i)) (fun i hi=>absurd hi (Nat.not_lt_zero i)))⟩
def Qin:Spec
 | [.f (.is .u8 l),.f (.is .u8 m)]=>some (some (R10 l 10000000∧R10 m 10000000∧0<vI m),.nm2 Nat Nat (vI l / vI m) (vI l % vI m) fun q r=>.tup [dPn q,dPn r])
 | _=>none
def ivQ (L:List Nat) (b:Nat) (x:Nat × List Nat × Nat):Prop:=x.1≤L.length∧x.2.1.length=L.length∧(∀ y∈x.2.1,y<10)∧(∀ i,i<x.1→dg x.2.1 i=0)∧val 10 (x.2.1.drop x.1) * b+x.2.2=val 10 (L.drop x.1)∧x.2.2<b
def ivR (L:List Nat) (b k:Nat) (x:Nat × List Nat × Nat):Prop:=x.1=k∧x.2.1.length=L.length∧k<L.length∧(∀ y∈x.2.1,y<10)∧(∀ i,i<k→dg x.2.1 i=0)∧val 10 (x.2.1.drop k) * b+x.2.2=val 10 (L.drop k)∧dg x.2.1 k * b+x.2.2<10 * b
theorem QiA (a b:Nat):0≤ordN a b↔b≤a:=by
 unfold ordN
 split
 · omega
 · split <;> omega
theorem QgU {n k:Nat} (h:(digs 10 n).length≤k):n<10 ^ k:=by
 have:=Qby 10 _ (Qau 10 (by omega) n)
 rw [Qah 10 (by omega)] at this
 exact Nat.lt_of_lt_of_le this (Nat.pow_le_pow_right (by omega) h)
theorem Qp6 {L:List Nat} {b k z3:Nat} {z:Nat × List Nat × Nat} (hk:k=z.1 - 1) (hk1:z.1=k+1) (hkl:k<L.length) (h:ivQ L b z) (hz:z3=dg L k+10 * z.2.2) (ha:dg L k<10):ivR L b (z.1 - 1,z.2.1,z3).1 (z.1 - 1,z.2.1,z3):=by
 obtain ⟨i,q,r⟩:=z
 obtain ⟨a1,a2,a3,a4,a5,a6⟩:=h
 dsimp only at *
 subst hk1
 rw [Nat.add_sub_cancel]
 have hd:dg q k=0:=a4 k (by omega)
 refine ⟨rfl,a2,hkl,a3,fun i hi=>a4 i (by omega),?_,?_⟩
 · rw [Qa4 q k (by omega),Qa4 L k hkl,hd]
   simp only [val]
   rw [← a5,hz,Nat.zero_add,Nat.mul_add,Nat.mul_assoc]
   omega
 · show dg q k * b+z3<10 * b
   rw [hd,Nat.zero_mul]; omega
theorem QpZ {n C K:Nat} (h:n<10 * C) (hC:(digs 10 C).length≤K):(digs 10 n).length≤K+1:=by
 refine QhR (Nat.lt_of_lt_of_le h ?_)
 rw [Nat.pow_succ,Nat.mul_comm]
 exact Nat.mul_le_mul_right 10 (Nat.le_of_lt (QgU hC))
theorem QrF {L:List Nat} {b:Nat} {z:Nat × List Nat × Nat} (h:ivR L b z.1 z) (hlt:z.2.2<b):ivQ L b (z.1,z.2.1,z.2.2):=by
 obtain ⟨-,a2,a3,a4,a5,a6,a7⟩:=h
 exact ⟨by dsimp only; omega,a2,a4,a5,a6,hlt⟩
theorem Qlp (l:List Nat) (j y p:Nat) (hj:j<l.length):dg (l.set j y) p=if p=j then y else dg l p:=by
 rw [QmX]
 by_cases h:p=j
 · rw [if_pos ⟨h,hj⟩,if_pos h]
 · rw [if_neg (fun hc=>h hc.1),if_neg h]
theorem QrE {L:List Nat} {b z6:Nat} {z:Nat × List Nat × Nat} (h:ivR L b z.1 z) (hge:b≤z.2.2) (hz:z6=z.2.2 - b) (hb:0<b):ivR L b (z.1,z.2.1.set z.1 (dg z.2.1 z.1+1),z6).1 (z.1,z.2.1.set z.1 (dg z.2.1 z.1+1),z6):=by
 obtain ⟨k,q,r⟩:=z
 obtain ⟨-,a2,a3,a4,a5,a6,a7⟩:=h
 dsimp only at *
 have hkq:k<q.length:=by omega
 have hsm:(dg q k+1) * b=dg q k * b+b:=by rw [Nat.succ_mul]
 have h9:dg q k+1<10:=by
  refine Decidable.byContradiction fun hc=>?_
  have:10 * b≤(dg q k+1) * b:=Nat.mul_le_mul_right b (by omega)
  omega
 refine ⟨rfl,by simp [a2],a3,fun y hy=>?_,fun i hi=>?_,?_,?_⟩
 · rcases List.mem_or_eq_of_mem_set hy with hy | rfl
   · exact a4 y hy
   · exact h9
 · rw [Qlp _ _ _ _ hkq,if_neg (by omega)]; exact a5 i hi
 · rw [Qa4 q k hkq] at a6
   rw [Qa4 (q.set k (dg q k+1)) k (by simpa using hkq),Qlp _ _ _ _ hkq,if_pos rfl,List.drop_set_of_lt (by omega)]
   simp only [val] at a6 ⊢
   rw [← a6,Nat.add_mul (dg q k+1),hsm,Nat.add_mul (dg q k)]
   omega
 · dsimp only
   rw [Qlp _ _ _ _ hkq,if_pos rfl,hsm]; omega
theorem Qsa {E:Env} (hU:Up E):Contract Tryz.prog E 281 Qin:=by
 refine Qa9 [(332,Ql2),(278,Qgx),(333,Ql7)] Tryz.ntmps281 Tryz.func281 (by kernel_rfl) (by kernel_rfl) hU ⟨QsQ hU,Qlx hU,QsW hU,trivial⟩ ?_
 intro xs p r hs hp
 unfold Qin at hs
 split at hs
 · rename_i l m
   cases hs
   obtain ⟨⟨h1,A,rfl⟩,⟨h3,C,rfl⟩,h5⟩:=hp _ rfl
   rw [QaB] at h5
   rw [QaB,QaB]
   rw [Qa1] at h1 h3
   refine ⟨[.f (.is .u8 (iN (digs 10 A))),.f (.is .u8 (iN (digs 10 C)))],[(4,.s ⟨Nat × List Nat × Nat,fun x=>⟨[(0,.f (.is .u8 (iN (digs 10 A)))),(1,.f (.is .u8 (iN (digs 10 C)))),(6,.wr 0),(7,.f (.is .u8 (iN (digs 10 x.2.2)))),(8,.f (.v (.int .i64 ((x.1:Int) - 1))))],[.own 5 (.is .u8 (iN x.2.1))]⟩,
    ivQ (digs 10 A) C,fun x=>x.1⟩),(7,⟨Nat × List Nat × Nat,fun x=>⟨[(0,.f (.is .u8 (iN (digs 10 A)))),(1,.f (.is .u8 (iN (digs 10 C)))),(6,.wr 0),(7,.f (.is .u8 (iN (digs 10 x.2.2)))),(8,.f (.v (.int .i64 (x.1:Int))))],[.own 5 (.is .u8 (iN x.2.1))]⟩,
    fun x=>ivR (digs 10 A) C x.1 x,fun x=>x.2.2,fun x y=>x.1=y.1⟩)],.cons (.refl _) (.cons (.refl _) .nil),rfl,?_⟩
   have hmul:∀ (c y z:Nat),(c+10 * y) * z=c * z+10 * (y * z):=fun c y z=>by rw [Nat.add_mul,Nat.mul_assoc]
   refine Qag (p:=let A0:=(↑(iN (digs 10 A)).length:Int); let A1:=PV.f (Lf.is IntKind.u8 (iN (digs 10 A))); let A2:=PV.f (Lf.is IntKind.u8 (iN (digs 10 C))); ((0:Int)≤A0∧A0≤A0∧A0 * (↑1:Int)≤(140737488355328:Int)∧A0≤(↑9223372036854775807:Int))∧∃ (x1:Nat × List Nat × Nat),((Lf.is IntKind.u8 (iN x1.snd.fst)=Lf.is IntKind.u8 (List.replicate A0.toNat (0:Int))∧True)∧rfB A1∧rfB A2∧rfB (PV.wr 0)∧SubB (nlP) (PV.f (Lf.is IntKind.u8 (iN (digs 10 x1.snd.snd))))∧SubB (PV.f (Lf.v (Value.int IntKind.i64 (IntKind.i64.wrap (A0 - (1:Int)))))) (PV.f (Lf.v (Value.int IntKind.i64 ((↑x1.fst:Int) - (1:Int)))))∧True)∧ivQ (digs 10 A) C x1∧True∧∀ (z2:Nat × List Nat × Nat),ivQ (digs 10 A) C z2→True→ifB (decide ((↑z2.fst:Int) - (1:Int) ≥ (0:Int))) (((0:Int)≤(↑z2.fst:Int) - (1:Int)∧(↑z2.fst:Int) - (1:Int)<A0)∧(1+(iN (digs 10 z2.snd.snd)).length≤9223372036854775807∧(1+(iN (digs 10 z2.snd.snd)).length) * 1≤140737488355328)∧D10 ([(iN (digs 10 A)).getD ((↑z2.fst:Int) - (1:Int)).toNat (0:Int)]++iN (digs 10 z2.snd.snd)) 1000000000∧∀ (z3:Nat),z3=vI ([(iN (digs 10 A)).getD ((↑z2.fst:Int) - (1:Int)).toNat (0:Int)]++iN (digs 10 z2.snd.snd))→∃ (x4:Nat × List Nat × Nat),((Lf.is IntKind.u8 (iN x4.snd.fst)=Lf.is IntKind.u8 (iN z2.snd.fst)∧True)∧rfB A1∧rfB A2∧rfB (PV.wr 0)∧SubB (PV.f (Lf.is IntKind.u8 (iN (digs 10 z3)))) (PV.f (Lf.is IntKind.u8 (iN (digs 10 x4.snd.snd))))∧SubB (PV.f (Lf.v (Value.int IntKind.i64 ((↑z2.fst:Int) - (1:Int))))) (PV.f (Lf.v (Value.int IntKind.i64 (↑x4.fst:Int))))∧True)∧ivR (digs 10 A) C x4.fst x4∧x4.fst=x4.fst∧∀ (z5:Nat × List Nat × Nat),ivR (digs 10 A) C z5.fst z5→x4.fst=z5.fst→(R10 (iN (digs 10 z5.snd.snd)) 1000000000∧R10 (iN (digs 10 C)) 1000000000)∧ifB (decide (ordN (vI (iN (digs 10 z5.snd.snd))) (vI (iN (digs 10 C))) ≥ (0:Int))) ((R10 (iN (digs 10 z5.snd.snd)) 100000000∧R10 (iN (digs 10 C)) 100000000∧vI (iN (digs 10 C))≤vI (iN (digs 10 z5.snd.snd)))∧∀ (z6:Nat),z6=vI (iN (digs 10 z5.snd.snd)) - vI (iN (digs 10 C))→((0:Int)≤(↑z5.fst:Int)∧(↑z5.fst:Int)<(↑(iN z5.snd.fst).length:Int))∧((0:Int)≤(↑z5.fst:Int)∧(↑z5.fst:Int)<(↑(iN z5.snd.fst).length:Int))∧∃ (x7:Nat × List Nat × Nat),((Lf.is IntKind.u8 (iN x7.snd.fst)=Lf.is IntKind.u8 ((iN z5.snd.fst).set (↑z5.fst:Int).toNat (IntKind.u8.wrap ((iN z5.snd.fst).getD (↑z5.fst:Int).toNat (0:Int)+(1:Int))))∧True)∧rfB A1∧rfB A2∧rfB (PV.wr 0)∧SubB (PV.f (Lf.is IntKind.u8 (iN (digs 10 z6)))) (PV.f (Lf.is IntKind.u8 (iN (digs 10 x7.snd.snd))))∧SubB (PV.f (Lf.v (Value.int IntKind.i64 (↑z5.fst:Int)))) (PV.f (Lf.v (Value.int IntKind.i64 (↑x7.fst:Int))))∧True)∧ivR (digs 10 A) C x7.fst x7∧x4.fst=x7.fst∧x7.snd.snd.succ.le z5.snd.snd) (∃ (x6:Nat × List Nat × Nat),((Lf.is IntKind.u8 (iN x6.snd.fst)=Lf.is IntKind.u8 (iN z5.snd.fst)∧True)∧rfB A1∧rfB A2∧rfB (PV.wr 0)∧SubB (PV.f (Lf.is IntKind.u8 (iN (digs 10 z5.snd.snd)))) (PV.f (Lf.is IntKind.u8 (iN (digs 10 x6.snd.snd))))∧SubB (PV.f (Lf.v (Value.int IntKind.i64 (IntKind.i64.wrap ((↑z5.fst:Int) - (1:Int)))))) (PV.f (Lf.v (Value.int IntKind.i64 ((↑x6.fst:Int) - (1:Int)))))∧True)∧ivQ (digs 10 A) C x6∧True∧x6.fst.succ.le z2.fst)) (D10 (iN z2.snd.fst) 1000000000∧∀ (z3:Nat),z3=vI (iN z2.snd.fst)→true=true∧Sub (PV.tup [PV.f (Lf.is IntKind.u8 (iN (digs 10 z3))),PV.f (Lf.is IntKind.u8 (iN (digs 10 z2.snd.snd)))]) (PV.tup [PV.f (Lf.is IntKind.u8 (iN (digs 10 (A / C)))),PV.f (Lf.is IntKind.u8 (iN (digs 10 (A % C))))]))) ?kr ?_
   case kr=>kernel_rfl
   conv=>zeta
   refine ⟨?s0,⟨?x0,⟨?s1,⟨?s2,⟨trivial,fun z2=>fun hq0=>fun _=>Qae.2 ⟨fun hb1=>⟨?s3,⟨?s4,⟨?s5,fun z3=>fun hz3=>⟨?x1,⟨?s6,⟨?s7,⟨rfl,fun z5=>fun hq2=>fun hq3=>⟨?s8,Qae.2 ⟨fun hb4=>⟨?s9,fun z6=>fun hz6=>⟨?s10,⟨?s11,⟨?x2,⟨?s12,⟨?s13,⟨?s14,?m0⟩⟩⟩⟩⟩⟩⟩,fun hb4=>⟨?x3,⟨?s15,⟨?s16,⟨trivial,?m1⟩⟩⟩⟩⟩⟩⟩⟩⟩⟩⟩⟩⟩,fun hb1=>⟨?s17,fun z3=>fun hz3=>⟨rfl,?m2⟩⟩⟩⟩⟩⟩⟩⟩
   case x0=>exact ((digs 10 A).length,List.replicate (digs 10 A).length 0,0)
   case s0=>rw [Qa1]; omega
   case s1 =>
    refine ⟨⟨?_,trivial⟩,.refl _,.refl _,.refl _,Qq4,QaN ?_,trivial⟩
    · rw [Qa1,Int.toNat_natCast]; simp [iN]
    · rw [Qa1,wI _ (by omega) (by omega)]
   case s2=>exact ⟨Nat.le_refl _,by simp,fun y hy=>by rw [List.eq_of_mem_replicate hy]; omega,fun i _=>by unfold dg; simp [List.getD_eq_getElem?_getD,List.getElem?_replicate]; split <;> rfl,by rw [List.drop_of_length_le (by simp),List.drop_of_length_le (Nat.le_refl _)]; simp [val],h5⟩
   case s17=>exact ⟨by rw [Qa1]; have:=hq0.2.1; omega,_,rfl,hq0.2.2.1⟩
   case m2 =>
    have hz:z2.1=0:=by have:=of_decide_eq_false hb1; omega
    obtain ⟨a1,a2,a3,a4,a5,a6⟩:=hq0
    rw [hz,List.drop_zero,List.drop_zero,Qah 10 (by omega)] at a5
    subst hz3
    unfold vI
    rw [QgR]
    have e1:A / C=val 10 z2.2.1:=by
     rw [← a5,Nat.add_comm,Nat.add_mul_div_right _ _ h5,Nat.div_eq_of_lt a6,Nat.zero_add]
    have e2:A % C=z2.2.2:=by rw [← a5,Nat.add_comm,Nat.add_mul_mod_self_right,Nat.mod_eq_of_lt a6]
    show Sub (.tup [dPn _,dPn z2.2.2]) (.tup [dPn (A / C),dPn (A % C)])
    rw [e1,e2]; exact .refl _
   case x1=>exact (z2.1 - 1,z2.2.1,z3)
   case x2=>exact (z5.1,z5.2.1.set z5.1 (dg z5.2.1 z5.1+1),z6)
   case x3=>exact (z5.1,z5.2.1,z5.2.2)
   all_goals obtain ⟨k,hk⟩:∃ k,k=z2.1 - 1:=⟨_,rfl⟩
   all_goals have hk1:z2.1=k+1:=(by have:=of_decide_eq_true hb1; omega)
   all_goals have hw:((z2.1:Int) - 1).toNat=k:=(by omega)
   all_goals have hr:(digs 10 z2.2.2).length≤10000000:=Nat.le_trans (Qar 10 (by omega) (Nat.le_of_lt hq0.2.2.2.2.2)) h3
   all_goals have ha:=Qbv (Qau 10 (by omega) A) (by omega) k
   all_goals have hkl:k<(digs 10 A).length:=(by have:=hq0.1; omega)
   case s3=>rw [Qa1]; exact ⟨by omega,by omega⟩
   case s4=>rw [Qa1]; exact ⟨by omega,by omega⟩
   case s5=>rw [hw,Qlg]; exact ⟨by simp [Qa1]; omega,dg (digs 10 A) k::digs 10 z2.2.2,rfl,fun x hx=>by rcases List.mem_cons.1 hx with rfl | hx; exact ha; exact Qau 10 (by omega) _ x hx⟩
   all_goals rw [hw,Qlg,iN_one,QsE] at hz3
   all_goals have hz4:z3=dg (digs 10 A) k+10 * z2.2.2:=(by rw [hz3]; unfold vI; rw [QgR]; simp [val,Qah])
   case s6=>exact ⟨⟨rfl,trivial⟩,.refl _,.refl _,.refl _,.refl _,QaN (by omega),trivial⟩
   case s7=>exact Qp6 hk hk1 hkl hq0 hz4 (by omega)
   all_goals have hz5:z5.1=k:=(by omega)
   all_goals have hlen5:(digs 10 z5.2.2).length≤10000001:=QpZ (by have:=hq2.2.2.2.2.2.2; omega) h3
   case s8=>exact ⟨Qcu (by omega),Qcu (by omega)⟩
   all_goals rw [QaB,QaB] at hb4
   case s15=>exact ⟨⟨rfl,trivial⟩,.refl _,.refl _,.refl _,.refl _,QaN (by rw [wI _ (by omega) (by omega)]),trivial⟩
   case s16=>exact QrF hq2 (by have:=of_decide_eq_false hb4; rw [ge_iff_le,QiA] at this; omega)
   case m1=>show z5.1+1≤z2.1; omega
   all_goals have hge:C≤z5.2.2:=(by have:=of_decide_eq_true hb4; rw [ge_iff_le,QiA] at this; omega)
   case s9=>exact ⟨Qcu (by omega),Qcu (by omega),by rw [QaB,QaB]; exact hge⟩
   all_goals rw [QaB,QaB] at hz6
   all_goals have hl5:=hq2.2.1
   case s10=>rw [Qa1]; exact ⟨by omega,by omega⟩
   case s11=>rw [Qa1]; exact ⟨by omega,by omega⟩
   case s12 =>
    refine ⟨⟨?_,trivial⟩,.refl _,.refl _,.refl _,.refl _,.refl _,trivial⟩
    have:=Qbv hq2.2.2.2.1 (by omega) z5.1
    rw [Int.toNat_natCast,Qlg,wrap8 _ (by omega),QsD]; rfl
   case s13=>exact QrE hq2 hge hz6 h5
   case s14=>exact hq3
   case m0=>show z6+1≤z5.2.2; omega
 · cases hs
def Qsr:Spec
 | [.f (.lr l k)]=>some (some (k≤1000000),.nm Nat (val 1000000000 l) dPn)
 | _=>none
theorem QlN {b c:Nat} (h:b≤c):∀ l:List Nat,val b l≤val c l
 | []=>Nat.le_refl _
 | x::l=>Nat.add_le_add_left (Nat.mul_le_mul h (QlN h l)) x
theorem Qj3 {l:List Nat} (h:∀ x∈l,x<4294967296):(digs 10 (val 1000000000 l)).length≤10 * l.length:=by
 refine QhR (Nat.lt_of_le_of_lt (QlN (c:=10 ^ 10) (by decide) l) ?_)
 rw [Nat.pow_mul]
 exact Qby _ l fun x hx=>Nat.lt_trans (h x hx) (by decide)
theorem rdi_is {w w':World} {H:Hp} {v:Value} {L:List Nat} (h:RdI w' v .u8 L) (hn:NewS w.heap.size v):Rd (Hall H w w') v (.is .u8 (iN L)):=by
 obtain ⟨ao,cap,rfl,hc,hm,h0,hcell⟩:=h
 have key:∃ b o,0<L.length→ao=some ⟨b,o,none⟩:=by
  by_cases hl:0<L.length
  · obtain ⟨ad,rfl,h1⟩:=hcell 0 hl
    obtain ⟨b,o,sp⟩:=ad
    refine ⟨b,o,fun _=>?_⟩
    cases sp with
    | none=>rfl
    | some s =>
     exfalso
     unfold Addr.add World.cell? at h1
     simp at h1
     split at h1 <;> cases h1
  · exact ⟨0,0,fun h=>absurd h hl⟩
 obtain ⟨b,o,key⟩:=key
 refine .slf (fun _=>rfl) (f:=.is .u8 (iN L)) (k:=1) (n:=L.length) (get:=fun i=>[.v (.int .u8 ((iN L).getD i 0))]) (by simp [Lf.view,Qa1]) trivial hc hm h0 b o (fun i j=>.int .u8 (dg L i:Nat)) key (fun i hi j hj=>?_) (fun i hi=>rfl) (fun i hi j x hx=>?_)
 · have hk:=key (by omega)
   subst hk
   obtain ⟨ad,h1,h2⟩:=hcell i hi
   cases h1
   have hb:=hn _ _ _ rfl
   dsimp only at hb
   unfold Hall
   rw [if_neg (by omega)]
   rw [QbX] at h2
   obtain rfl:j=0:=by omega
   simp only [Nat.mul_one,Nat.add_zero]
   exact h2
 · cases j with
   | zero =>
    simp only [List.getElem?_cons_zero,Option.some.injEq] at hx
    subst hx
    rw [Qlg]
    exact .v _ rfl
   | succ j=>simp at hx
theorem cReadD {E:Env} (hU:Up E):Contract Tryz.prog E 279 Qsr:=by
 intro xs p r hs hp w H vs hf hE hvs
 unfold Qsr at hs
 split at hs
 · rename_i l k
   cases hs
   have hk:=hp _ rfl
   obtain ⟨v,rfl,hv⟩:=QcT hvs
   obtain ⟨h1,h2,h3⟩:=Qca (f:=.lr l k) rfl hv.rd hf
   refine (Qdp v l w h1 (by omega) h3).mono ?_
   rintro e w' ⟨u,rfl,hu,hn,hbl⟩
   exact ⟨_,u,rfl,QbS hf hbl,.f (rdi_is hu hn)⟩
 · cases hs
end Go.Proofs.YtmbmbcamecfnkaaGreatDoor
namespace Go.Proofs.YtmbmbcamecfnkaaGreatDoor
open Go.RowKit
set_option linter.unusedVariables false
set_option maxRecDepth 100000
theorem rd_isN {H:Hp} {v:Value} {kd:IntKind} {l:List Nat} {w:World} (h:Rd H v (.is kd (iN l))) (hw:Fro H w):RdI w v kd l:=by
 obtain ⟨ao,cap,val,rfl,h1,h2,h3,h4,b,o,h5,h6⟩:=Qfy h rfl
 have hm:cap≤maxLen:=by
  cases h with
  | sl hv hg hc hm=>exact hm
 rw [Qa1] at *
 refine ⟨ao,cap,rfl,h1,hm,h2,fun i hi=>⟨⟨b,o,none⟩,h5 (by omega),?_⟩⟩
 have h7:=h6 i (by omega)
 rw [QcH (by omega)] at h7
 have h8:=(h4 (i / 1) (by rw [Nat.div_one]; exact hi) (i % 1) _ (by rw [Nat.mod_one]; rfl)).val rfl
 rw [h8,Nat.div_one,Qlg] at h7
 rw [QbX]
 exact hw _ _ _ h7
def Qgt:Spec
 | [.f (.is .u8 l)]=>some (some (R10 l 100000000),.nm Nat (vI l) fun n=>lP n l.length)
 | _=>none
def QhC:Spec
 | [.f x]=>match limL x with
  | some (l,k)=>some (some (k≤1000000),.nm Nat (vB l) dPn)
  | none=>none
 | _=>none
def Qpd:Spec
 | [.f x,.f y]=>match limL x,limL y with
  | some (l,k),some (m,j)=>some (some (k≤100000∧j≤100000),.nm Nat (vB l - vB m) fun d=>.tup [lP d (k+1),.f (.v (.bool (decide (vB m≤vB l))))])
  | _,_=>none
 | _=>none
def Qma:Spec
 | [.f x,.f y]=>match limL x,limL y with
  | some (l,k),some (m,j)=>some (some (k≤100000∧j≤100000∧vB m≠0),.nm2 Nat Nat (vB l / vB m) (vB l % vB m) fun q r=>.tup [lP q (k+1),lP r (j+1),.f (.v (.bool true))])
  | _,_=>none
 | _=>none
def Qii:Spec
 | [.f x]=>match limL x with
  | some (l,k)=>some (some (k≤1000000),.nm Nat (vB l) fun n=>lP n (k+1))
  | none=>none
 | _=>none
def Qpn:Spec
 | [.f (.row 1 R)]=>match QgB R with
  | some l=>some (some (Qa3 l≤100000),.nm Nat (Qgk l 0) fun n=>lP n (Qa3 l))
  | none=>none
 | _=>none
def Qpj:Spec
 | [.f (.row 1 R)]=>match QgB R with
  | some l=>some (some (Qa3 l≤100000),.nm Nat (QeC l 1) fun n=>lP n (Qa3 l+1))
  | none=>none
 | _=>none
section
variable {E : Env}
theorem QqW {n k:Nat} (h:(digs 10 n).length≤k):ZB (n:Int) k:=by
 unfold ZB
 rw [Int.natAbs_natCast]
 exact Nat.lt_of_lt_of_le (QgU h) (Nat.pow_le_pow_left (by omega) k)
theorem Qlv:Contract Tryz.prog E 280 Qgt:=by
 intro xs p r hs hp w H vs hf hE hvs
 unfold Qgt at hs
 split at hs
 · rename_i l
   cases hs
   obtain ⟨h1,n,rfl⟩:=hp _ rfl
   obtain ⟨v,rfl,hv⟩:=QcT hvs
   rw [Qa1] at h1
   refine (Qdo v _ w (rd_isN hv.rd hf) h1 (QaP 10 (by omega) n)).mono ?_
   rintro e w' ⟨u,rfl,ho,hbl⟩
   refine ⟨_,u,rfl,QbS hf hbl,?_⟩
   show PR _ _ _ (lP (vI (iN (digs 10 n))) _)
   rw [Qah 10 (by omega)] at ho
   rw [QaB,Qa1]
   exact QeD ho (QqW (Nat.le_refl _))
 · cases hs
theorem Qnc (hU:Up E):Contract Tryz.prog E 279 QhC:=by
 refine (cReadD hU).weaken fun xs p r hs hp=>?_
 unfold QhC at hs
 split at hs
 · rename_i x
   split at hs
   · rename_i l k hx
     cases hs
     exact ⟨_,_,_,.cons (Qbu hx) .nil,rfl,hp,.refl _⟩
   · cases hs
 · cases hs
theorem cAddR1:Contract Tryz.prog E 283 Qpn:=by
 intro xs p r hs hp w H vs hf hE hvs
 unfold Qpn at hs
 split at hs
 · rename_i R
   split at hs
   · rename_i l hl
     cases hs
     have hk:=hp _ rfl
     obtain ⟨v,rfl,hv⟩:=QcT hvs
     obtain ⟨h1,h2,h3⟩:=QfS hl hv.rd hf
     have hw2:=Qdl h2
     refine (QnK v _ w h1 (by omega) (fun a ha x hx=>?_)).mono ?_
     · obtain ⟨y,hy,rfl⟩:=List.mem_map.1 ha
       exact h3 y hy x hx
     · rintro e w' ⟨u,rfl,ho,hbl⟩
       refine ⟨_,u,rfl,QbS hf hbl,?_⟩
       unfold sumV at ho
       rw [Qky] at ho
       have:=Qkx l 0 0 (by unfold ZB; decide) fun x hx=>QfF (h3 x hx) (h2 x hx)
       rw [Nat.zero_add] at this
       exact QeD ho this
   · cases hs
 · cases hs
theorem cMulR1:Contract Tryz.prog E 282 Qpj:=by
 intro xs p r hs hp w H vs hf hE hvs
 unfold Qpj at hs
 split at hs
 · rename_i R
   split at hs
   · rename_i l hl
     cases hs
     have hk:=hp _ rfl
     obtain ⟨v,rfl,hv⟩:=QcT hvs
     obtain ⟨h1,h2,h3⟩:=QfS hl hv.rd hf
     have hw2:=Qdl h2
     refine (QnJ v _ w h1 (by omega) (fun a ha x hx=>?_)).mono ?_
     · obtain ⟨y,hy,rfl⟩:=List.mem_map.1 ha
       exact h3 y hy x hx
     · rintro e w' ⟨u,rfl,ho,hbl⟩
       refine ⟨_,u,rfl,QbS hf hbl,?_⟩
       unfold Qpy at ho
       rw [Qix] at ho
       have:=Qiw l 1 1 (by unfold ZB; decide) fun x hx=>QfF (h3 x hx) (h2 x hx)
       rw [Nat.add_comm] at this
       exact QeD ho this
   · cases hs
 · cases hs
def QtE:Spec
 | [.f x,.f y]=>match limL x,limL y with
  | some (l,k),some (m,j)=>some (some (k≤1000000∧j≤1000000),.one (.f (.v (.int .i64 (ordN (vB l) (vB m))))))
  | _,_=>none
 | _=>none
theorem QiI {l:List Nat} {k:Nat} (h:∀ x∈l,x<4294967296) (hk:l.length≤k):(digs 10 (vB l)).length≤10 * k:=Nat.le_trans (Qj3 h) (Nat.mul_le_mul_left 10 hk)
theorem Qc9 {l:List Nat} {k n:Nat} (h:∀ x∈l,x<4294967296) (hk:l.length≤k) (hn:10 * k≤n):R10 (iN (digs 10 (vB l))) n:=Qcu (Nat.le_trans (QiI h hk) hn)
theorem QqD (hU:Up E):Contract Tryz.prog E 218 Qii:=by
 refine Qaf [(279,QhC),(280,Qgt)] Tryz.ntmps218 Tryz.func218 (by kernel_rfl) (by kernel_rfl) hU ⟨Qnc hU,Qlv,trivial⟩ ?_
 intro xs p r hs hp
 unfold Qii at hs
 split at hs
 · rename_i x
   split at hs
   · rename_i l k hx
     cases hs
     have h1:=hp _ rfl
     refine ⟨[.f (.lr l k)],[],.cons (Qbu hx) .nil,rfl,fun hgx hg=>?_⟩
     obtain ⟨a1,a2⟩:=hg.1.1
     refine Qag (p:=k≤1000000∧∀ (z1:Nat),z1=vB l→R10 (iN (digs 10 z1)) 100000000∧∀ (z2:Nat),z2=vI (iN (digs 10 z1))→true=true∧Sub (PV.f (Lf.zd (↑z2:Int) (iN (digs 10 z1)).length)) (PV.f (Lf.zd (↑(vB l):Int) (k+1)))) ?kr ?_
     case kr=>kernel_rfl
     refine ⟨?s0,fun z1=>fun hz1=>⟨?s1,fun z2=>fun hz2=>⟨rfl,?m0⟩⟩⟩
     case s0=>exact h1
     all_goals subst hz1
     case s1=>exact Qc9 a2 a1 (by omega)
     case m0 =>
      rw [QaB] at hz2
      subst hz2
      exact Qgl (QfF a2 a1)
   · cases hs
 · cases hs
theorem cCmpL (hU:Up E):Contract Tryz.prog E 217 QtE:=by
 refine Qaf [(279,QhC),(278,Qgx)] Tryz.ntmps217 Tryz.func217 (by kernel_rfl) (by kernel_rfl) hU ⟨Qnc hU,Qlx hU,trivial⟩ ?_
 intro xs p r hs hp
 unfold QtE at hs
 split at hs
 · rename_i x y
   split at hs
   · rename_i l k m j hx hy
     cases hs
     obtain ⟨h1,h2⟩:=hp _ rfl
     refine ⟨[.f (.lr l k),.f (.lr m j)],[],.cons (Qbu hx) (.cons (Qbu hy) .nil),rfl,fun hgx hg=>?_⟩
     obtain ⟨a1,a2⟩:=hg.1.1
     obtain ⟨b1,b2⟩:=hg.2.1.1
     refine Qag (p:=k≤1000000∧∀ (z1:Nat),z1=vB l→j≤1000000∧∀ (z2:Nat),z2=vB m→(R10 (iN (digs 10 z1)) 1000000000∧R10 (iN (digs 10 z2)) 1000000000)∧true=true∧Sub (PV.f (Lf.v (Value.int IntKind.i64 (ordN (vI (iN (digs 10 z1))) (vI (iN (digs 10 z2))))))) (PV.f (Lf.v (Value.int IntKind.i64 (ordN (vB l) (vB m)))))) ?kr ?_
     case kr=>kernel_rfl
     refine ⟨?s0,fun z1=>fun hz1=>⟨?s1,fun z2=>fun hz2=>⟨?s2,⟨rfl,?m0⟩⟩⟩⟩
     case s0=>exact h1
     case s1=>exact h2
     all_goals subst hz1 hz2
     case s2=>exact ⟨Qc9 a2 a1 (by omega),Qc9 b2 b1 (by omega)⟩
     case m0=>rw [QaB,QaB]; exact .refl _
   · cases hs
 · cases hs
theorem cSubR1 (hU:Up E):Contract Tryz.prog E 284 Qpd:=by
 refine Qaf [(279,QhC),(278,Qgx),(333,Ql7),(280,Qgt)] Tryz.ntmps284 Tryz.func284 (by kernel_rfl) (by kernel_rfl) hU ⟨Qnc hU,Qlx hU,QsW hU,Qlv,trivial⟩ ?_
 intro xs p r hs hp
 unfold Qpd at hs
 split at hs
 · rename_i x y
   split at hs
   · rename_i l k m j hx hy
     cases hs
     obtain ⟨h1,h2⟩:=hp _ rfl
     refine ⟨[.f (.lr l k),.f (.lr m j)],[],.cons (Qbu hx) (.cons (Qbu hy) .nil),rfl,fun hgx hg=>?_⟩
     obtain ⟨a1,a2⟩:=hg.1.1
     obtain ⟨b1,b2⟩:=hg.2.1.1
     refine Qag (p:=k≤1000000∧∀ (z1:Nat),z1=vB l→j≤1000000∧∀ (z2:Nat),z2=vB m→(R10 (iN (digs 10 z1)) 1000000000∧R10 (iN (digs 10 z2)) 1000000000)∧ifB (decide (ordN (vI (iN (digs 10 z1))) (vI (iN (digs 10 z2)))<(0:Int))) (true=true∧Sub (PV.tup [nlP,PV.f (Lf.v (Value.bool false))]) (PV.tup [PV.f (Lf.zd (↑(vB l - vB m):Int) (k+1)),PV.f (Lf.v (Value.bool (decide (vB m≤vB l))))])) ((R10 (iN (digs 10 z1)) 100000000∧R10 (iN (digs 10 z2)) 100000000∧vI (iN (digs 10 z2))≤vI (iN (digs 10 z1)))∧∀ (z3:Nat),z3=vI (iN (digs 10 z1)) - vI (iN (digs 10 z2))→R10 (iN (digs 10 z3)) 100000000∧∀ (z4:Nat),z4=vI (iN (digs 10 z3))→true=true∧Sub (PV.tup [PV.f (Lf.zd (↑z4:Int) (iN (digs 10 z3)).length),PV.f (Lf.v (Value.bool true))]) (PV.tup [PV.f (Lf.zd (↑(vB l - vB m):Int) (k+1)),PV.f (Lf.v (Value.bool (decide (vB m≤vB l))))]))) ?kr ?_
     case kr=>kernel_rfl
     refine ⟨?s0,fun z1=>fun hz1=>⟨?s1,fun z2=>fun hz2=>⟨?s2,Qae.2 ⟨fun hb0=>⟨rfl,?m0⟩,fun hb0=>⟨?s3,fun z3=>fun hz3=>⟨?s4,fun z4=>fun hz4=>⟨rfl,?m1⟩⟩⟩⟩⟩⟩⟩
     case s0=>omega
     case s1=>omega
     all_goals subst hz1 hz2
     case s2=>exact ⟨Qc9 a2 a1 (by omega),Qc9 b2 b1 (by omega)⟩
     all_goals rw [QaB,QaB] at hb0
     case m0 =>
      have hlt:vB l<vB m:=by have:=of_decide_eq_true hb0; have h4:=QiA (vB l) (vB m); omega
      rw [show vB l - vB m=0 by omega,decide_eq_false (show ¬ vB m≤vB l by omega)]
      exact Qh9 (.cons (QfN _) (.cons (.refl _) .nil))
     all_goals have hge:vB m≤vB l:=(by have:=of_decide_eq_false hb0; have h4:=QiA (vB l) (vB m); omega)
     case s3=>exact ⟨Qc9 a2 a1 (by omega),Qc9 b2 b1 (by omega),by rw [QaB,QaB]; exact hge⟩
     all_goals rw [QaB,QaB] at hz3
     all_goals subst hz3
     case s4=>exact Qcu (Nat.le_trans (Qar 10 (by omega) (Nat.sub_le _ _)) (Nat.le_trans (QiI a2 a1) (by omega)))
     case m1 =>
      rw [QaB] at hz4
      subst hz4
      rw [decide_eq_true hge]
      exact Qh9 (.cons (Qgl ((QfF a2 a1).leN (Nat.sub_le _ _))) (.cons (.refl _) .nil))
   · cases hs
 · cases hs
theorem QsZ (hU:Up E):Contract Tryz.prog E 219 Qma:=by
 refine Qaf [(279,QhC),(281,Qin),(280,Qgt)] Tryz.ntmps219 Tryz.func219 (by kernel_rfl) (by kernel_rfl) hU ⟨Qnc hU,Qsa hU,Qlv,trivial⟩ ?_
 intro xs p r hs hp
 unfold Qma at hs
 split at hs
 · rename_i x y
   split at hs
   · rename_i l k m j hx hy
     cases hs
     obtain ⟨h1,h2,h3⟩:=hp _ rfl
     refine ⟨[.f (.lr l k),.f (.lr m j)],[],.cons (Qbu hx) (.cons (Qbu hy) .nil),rfl,fun hgx hg=>?_⟩
     obtain ⟨a1,a2⟩:=hg.1.1
     obtain ⟨b1,b2⟩:=hg.2.1.1
     refine Qag (p:=j≤1000000∧∀ (z1:Nat),z1=vB m→ifB ((↑(iN (digs 10 z1)).length:Int)==(0:Int)) (true=true∧Sub (PV.tup [nlP,nlP,PV.f (Lf.v (Value.bool false))]) (PV.tup [PV.f (Lf.zd (↑(vB l / vB m):Int) (k+1)),PV.f (Lf.zd (↑(vB l % vB m):Int) (j+1)),PV.f (Lf.v (Value.bool true))])) (k≤1000000∧∀ (z2:Nat),z2=vB l→(R10 (iN (digs 10 z2)) 10000000∧R10 (iN (digs 10 z1)) 10000000∧0<vI (iN (digs 10 z1)))∧∀ (z3:Nat),z3=vI (iN (digs 10 z2)) / vI (iN (digs 10 z1))→∀ (z4:Nat),z4=vI (iN (digs 10 z2)) % vI (iN (digs 10 z1))→R10 (iN (digs 10 z3)) 100000000∧∀ (z5:Nat),z5=vI (iN (digs 10 z3))→R10 (iN (digs 10 z4)) 100000000∧∀ (z6:Nat),z6=vI (iN (digs 10 z4))→true=true∧Sub (PV.tup [PV.f (Lf.zd (↑z5:Int) (iN (digs 10 z3)).length),PV.f (Lf.zd (↑z6:Int) (iN (digs 10 z4)).length),PV.f (Lf.v (Value.bool true))]) (PV.tup [PV.f (Lf.zd (↑(vB l / vB m):Int) (k+1)),PV.f (Lf.zd (↑(vB l % vB m):Int) (j+1)),PV.f (Lf.v (Value.bool true))]))) ?kr ?_
     case kr=>kernel_rfl
     refine ⟨?s0,fun z1=>fun hz1=>Qae.2 ⟨fun hb0=>⟨rfl,?m0⟩,fun hb0=>⟨?s1,fun z2=>fun hz2=>⟨?s2,fun z3=>fun hz3=>fun z4=>fun hz4=>⟨?s3,fun z5=>fun hz5=>⟨?s4,fun z6=>fun hz6=>⟨rfl,?m1⟩⟩⟩⟩⟩⟩⟩
     case s0=>omega
     all_goals subst hz1
     case m0 =>
      exfalso
      have h4:digs 10 (vB m)=[]:=List.length_eq_zero_iff.1 (by have:=eq_of_beq hb0; rw [Qa1] at this; omega)
      have h5:=Qah 10 (by omega) (vB m)
      rw [h4] at h5
      exact h3 h5.symm
     case s1=>omega
     all_goals subst hz2
     case s2=>exact ⟨Qc9 a2 a1 (by omega),Qc9 b2 b1 (by omega),by rw [QaB]; omega⟩
     all_goals rw [QaB,QaB] at hz3 hz4
     all_goals subst hz3 hz4
     case s3=>exact Qcu (Nat.le_trans (Qar 10 (by omega) (Nat.div_le_self _ _)) (Nat.le_trans (QiI a2 a1) (by omega)))
     case s4=>exact Qcu (Nat.le_trans (Qar 10 (by omega) (Nat.le_of_lt (Nat.mod_lt _ (by omega)))) (Nat.le_trans (QiI b2 b1) (by omega)))
     case m1 =>
      rw [QaB] at hz5 hz6
      subst hz5 hz6
      exact Qh9 (.cons (Qgl ((QfF a2 a1).leN (Nat.div_le_self _ _))) (.cons (Qgl ((QfF b2 b1).leN (Nat.le_of_lt (Nat.mod_lt _ (by omega))))) (.cons (.refl _) .nil)))
   · cases hs
 · cases hs
end
end Go.Proofs.YtmbmbcamecfnkaaGreatDoor
namespace Go.Proofs.YtmbmbcamecfnkaaGreatDoor
open Go.RowKit
set_option linter.unusedVariables false
set_option maxRecDepth 100000
theorem QoD (n:Nat):vB (digs 1000000000 n)=n:=Qah _ (by omega) n
theorem Qou (neg:Bool) (l:List Nat):zV neg l=zOf neg (vB l):=rfl
theorem Qov (z:Int):zV (zNeg z) (digs 1000000000 z.natAbs)=z:=by rw [Qea,QaV]
def Qgy:Spec
 | [x]=>match pvR x with
  | some ((n,l),k,j)=>some (some (k≤1000000),.nm Int (zV n l) fun z=>zP z j)
  | none=>none
 | _=>none
def sOfB:Spec
 | [.f (.v (.bool neg)),.f x]=>match limL x with
  | some (l,k)=>some (some (k≤1000000),.nm Int (zV neg l) fun z=>zP z (k+1))
  | none=>none
 | _=>none
section
variable {E : Env}
theorem QoU {b:Bool} {z:Int} {n k:Nat} (hb:b=zNeg z) (hn:z.natAbs=n):Sub (.agg [.f (.v (.bool b)),.f (.zd (n:Int) k)]) (zP z k):=by
 subst hb
 refine ⟨fun H v hv=>?_⟩
 obtain ⟨vs,rfl,h1⟩:=PRs.of_agg hv
 match vs,h1.1 with
 | [p,q],_ =>
  have a1:=(h1.2 0 _ _ rfl rfl).val
  subst a1
  exact (PRs.cons (.f (.zn _)) (.cons ((QoT (by rw [Int.natAbs_natCast,hn])).out _ _ (h1.2 1 _ _ rfl rfl)) .nil)).agg
theorem len_gt (n:Nat):decide (((digs 1000000000 n).length:Int) > 0)=decide (0<n):=by
 have h:=QdZ n
 rw [Bool.eq_iff_iff,beq_iff_eq,decide_eq_true_eq] at h
 rw [Bool.eq_iff_iff,decide_eq_true_eq,decide_eq_true_eq]
 omega
theorem cOfB (hU:Up E):Contract Tryz.prog E 141 sOfB:=by
 refine Qaf [(218,Qii)] Tryz.ntmps141 Tryz.func141 (by kernel_rfl) (by kernel_rfl) hU ⟨QqD hU,trivial⟩ ?_
 intro xs p r hs hp
 unfold sOfB at hs
 split at hs
 · rename_i neg x
   split at hs
   · rename_i l k hx
     cases hs
     have h1:=hp _ rfl
     refine ⟨[.f (.v (.bool neg)),.f (.lr l k)],[],.cons (.refl _) (.cons (Qbu hx) .nil),rfl,fun hgx hg=>?_⟩
     obtain ⟨a1,a2⟩:=hg.2.1.1
     refine Qag (p:=k≤1000000∧∀ (z1:Nat),z1=vB l→ifB neg (true=true∧Sub (PV.agg [PV.f (Lf.v (Value.bool (decide ((↑(digs 1000000000 (↑z1:Int).natAbs).length:Int) > (0:Int))))),PV.f (Lf.zd (↑z1:Int) (k+1))]) (PV.agg [PV.f (Lf.zn (zV neg l)),PV.f (Lf.zd (zV neg l) (k+1))])) (true=true∧Sub (PV.agg [PV.f (Lf.v (Value.bool false)),PV.f (Lf.zd (↑z1:Int) (k+1))]) (PV.agg [PV.f (Lf.zn (zV neg l)),PV.f (Lf.zd (zV neg l) (k+1))]))) ?kr ?_
     case kr=>kernel_rfl
     refine ⟨?s0,fun z1=>fun hz1=>Qae.2 ⟨fun hb0=>⟨rfl,?m0⟩,fun hb0=>⟨rfl,?m1⟩⟩⟩
     case s0=>exact h1
     all_goals have e1:zV neg l=zOf neg z1:=(by rw [hz1]; rfl)
     all_goals rw [e1]
     case m0 =>
      subst hb0
      refine QoU ?_ (by rw [Qbn])
      rw [Int.natAbs_natCast,len_gt,QdH,zNeg,Bool.eq_iff_iff,decide_eq_true_eq,decide_eq_true_eq]
      omega
     case m1 =>
      subst hb0
      exact QoU (by rw [Qa5,zNeg]; exact (decide_eq_false (by omega)).symm) (by rw [Qbn])
   · cases hs
 · cases hs
theorem Qkh (hU:Up E):Contract Tryz.prog E 216 Qgy:=by
 refine Qaf [(141,sOfB)] Tryz.ntmps216 Tryz.func216 (by kernel_rfl) (by kernel_rfl) hU ⟨cOfB hU,trivial⟩ ?_
 intro xs p r hs hp
 unfold Qgy at hs
 split at hs
 · rename_i x
   split at hs
   · rename_i n l k j hx
     cases hs
     have hb:=hp _ rfl
     refine ⟨[rawP n l k],[],.cons (QaG hx) .nil,rfl,fun hgx hg=>?_⟩
     obtain ⟨a1,a2,a3⟩:=Qbs hx hgx.1
     refine Qag (p:=k≤1000000∧∀ (z1:Int),z1=zV n l→true=true∧Sub (PV.agg [PV.f (Lf.zn z1),PV.f (Lf.zd z1 (k+1))]) (PV.agg [PV.f (Lf.zn (zV n l)),PV.f (Lf.zd (zV n l) j)])) ?kr ?_
     case kr=>kernel_rfl
     refine ⟨?s0,fun z1=>fun hz1=>⟨rfl,?m0⟩⟩
     case s0=>exact hb
     case m0=>subst hz1; exact Qcl a3
   · cases hs
 · cases hs
def ivO (N:Nat) (x:List Nat × Nat):Prop:=N=val 1000000000 x.1+1000000000 ^ x.1.length * x.2∧(∀ y∈x.1,y<1000000000)∧x.1.length≤64∧x.2<18446744073709551616∧(0<x.2→1000000000 ^ x.1.length≤N)
theorem QiM {N:Nat} {z:List Nat × Nat} (h:ivO N z) (h0:0<z.2) (hN:N<18446744073709551616):ivO N (z.1++[z.2 % 1000000000],z.2 / 1000000000)∧z.1.length≤2:=by
 obtain ⟨l,r⟩:=z
 obtain ⟨q1,q2,q3,q4,q5⟩:=h
 dsimp only at *
 have h2:=q5 h0
 have h3:l.length≤2:=by
  refine Decidable.byContradiction fun hc=>?_
  have:=Nat.pow_le_pow_right (n:=1000000000) (by omega) (show 3≤l.length by omega)
  omega
 have h4:r=r % 1000000000+1000000000 * (r / 1000000000):=by omega
 have h5:N=val 1000000000 (l++[r % 1000000000])+1000000000 ^ (l++[r % 1000000000]).length * (r / 1000000000):=by
  rw [Qb3,List.length_append,List.length_singleton,Nat.pow_succ,q1]
  conv=>lhs; rw [h4]
  simp only [val,Nat.mul_zero,Nat.add_zero]
  rw [Nat.mul_add,Nat.mul_assoc]
  omega
 refine ⟨⟨h5,fun y hy=>?_,by simp; omega,by show r / 1000000000<_; omega,fun h6=>?_⟩,h3⟩
 · rcases List.mem_append.1 hy with hy | hy
   · exact q2 y hy
   · simp at hy; omega
 · have h7:1000000000 ^ (l++[r % 1000000000]).length * 1≤1000000000 ^ (l++[r % 1000000000]).length * (r / 1000000000):=Nat.mul_le_mul_left _ h6
   show 1000000000 ^ (l++[r % 1000000000]).length≤_
   omega
theorem wU64m (n:Int) (h0:n<0) (h1:-9223372036854775808≤n):IntKind.u64.wrap (0 - IntKind.u64.wrap n)=(n.natAbs:Int):=by
 simp [IntKind.wrap,IntKind.bits,IntKind.signed]
 omega
theorem QpE {n z3:Int} {z2:List Nat × Nat} {k:Nat} (hq:ivO n.natAbs z2) (h0:z2.2=0) (hz:z3=zV (decide (n<0)) (List.map Int.toNat (iN z2.1))) (h1:-9223372036854775808≤n) (h2:n≤9223372036854775807):Sub (.agg [.f (.zn z3),.f (.zd z3 k)]) (.agg [.f (.zn n),.f (.zd n 3)]):=by
 have q1:=hq.1
 rw [h0,Nat.mul_zero,Nat.add_zero] at q1
 have h3:z3=n:=by
  rw [hz,show List.map Int.toNat (iN z2.1)=z2.1 from Qmw z2.1]
  show zOf (decide (n<0)) (val 1000000000 z2.1)=n
  rw [← q1]
  exact QaV n
 subst h3
 refine Qcl ?_
 show z3.natAbs<1000000000 ^ 3
 have:(1000000000:Nat) ^ 3=1000000000000000000000000000:=by decide
 omega
theorem Qly (hU:Up E):Contract Tryz.prog E 63 sOf:=by
 refine Qaf [(141,Qrz sOfB)] Tryz.ntmps63 Tryz.func63 (by kernel_rfl) (by kernel_rfl) hU ⟨(cOfB hU).lent,trivial⟩ ?_
 intro xs p r hs hp
 unfold sOf at hs
 split at hs
 · rename_i n
   cases hs
   obtain ⟨h1,h2⟩:=hp _ rfl
   refine ⟨[.f (.v (.int .i64 n))],[(5,.s ⟨List Nat × Nat,fun x=>⟨[(0,.f (.v (.int .i64 n))),(2,.bp 0 0),(3,.f (.v (.int .u64 (x.2:Nat)))),(4,.tl 1 (.is .u32 (iN x.1)))],[.cells [.f (.v (.bool false)),.f (.v (.slice none 0 0))],.tail 190 1]⟩,
    ivO n.natAbs,fun x=>x.2⟩)],.cons (.refl _) .nil,rfl,fun hgx hg=>?_⟩
   have hN:n.natAbs<18446744073709551616:=by omega
   refine Qag (p:=let A1:=fun (z2:List Nat × Nat)=>(((True∧(∀ (x:Int),x∈iN z2.fst→(0:Int)≤x∧x<(4294967296:Int))∧True)∧(iN z2.fst).length≤1000000)∧∀ (z3:Int),z3=zV (decide (n<(0:Int))) (List.map Int.toNat (iN z2.fst))→true=true∧Sub (PV.agg [PV.f (Lf.zn z3),PV.f (Lf.zd z3 ((iN z2.fst).length+1))]) (PV.agg [PV.f (Lf.zn n),PV.f (Lf.zd n 3)])); let A2:=(rfB (PV.f (Lf.v (Value.bool false)))∧rfB (nlP)∧True)∧True; let A3:=PV.f (Lf.v (Value.int IntKind.i64 n)); let A0:=fun (z2:List Nat × Nat)=>(((iN z2.fst).length+1≤9223372036854775807∧((iN z2.fst).length+1) * 4≤140737488355328)∧∃ (x3:List Nat × Nat),(A2∧rfB A3∧rfB (PV.bp 0 0)∧SubB (PV.f (Lf.v (Value.int IntKind.u64 (IntKind.u64.wrap ((↑z2.snd:Int).tdiv (1000000000:Int)))))) (PV.f (Lf.v (Value.int IntKind.u64 (↑x3.snd:Int))))∧SubB (PV.tl 1 (Lf.is IntKind.u32 (iN z2.fst++[IntKind.u32.wrap ((↑z2.snd:Int).tmod (1000000000:Int))]))) (PV.tl 1 (Lf.is IntKind.u32 (iN x3.fst)))∧True)∧ivO n.natAbs x3∧True∧x3.snd.succ.le z2.snd); ifB (decide (n<(0:Int))) (∃ (x1:List Nat × Nat),(A2∧rfB A3∧rfB (PV.bp 0 0)∧SubB (PV.f (Lf.v (Value.int IntKind.u64 (IntKind.u64.wrap ((0:Int) - IntKind.u64.wrap n))))) (PV.f (Lf.v (Value.int IntKind.u64 (↑x1.snd:Int))))∧QdA (PV.tl 1 (Lf.is IntKind.u32 (iN x1.fst)))∧True)∧ivO n.natAbs x1∧True∧∀ (z2:List Nat × Nat),ivO n.natAbs z2→True→ifB (decide ((↑z2.snd:Int) > (0:Int))) (A0 z2) (A1 z2)) (∃ (x1:List Nat × Nat),(A2∧rfB A3∧rfB (PV.bp 0 0)∧SubB (PV.f (Lf.v (Value.int IntKind.u64 (IntKind.u64.wrap n)))) (PV.f (Lf.v (Value.int IntKind.u64 (↑x1.snd:Int))))∧QdA (PV.tl 1 (Lf.is IntKind.u32 (iN x1.fst)))∧True)∧ivO n.natAbs x1∧True∧∀ (z2:List Nat × Nat),ivO n.natAbs z2→True→ifB (decide ((↑z2.snd:Int) > (0:Int))) (A0 z2) (A1 z2))) ?kr ?_
   case kr=>kernel_rfl
   conv=>zeta
   refine Qae.2 ⟨fun hb0=>⟨?x0,⟨?s0,⟨?s1,⟨trivial,fun z2=>fun hq1=>fun _=>Qae.2 ⟨fun hb2=>⟨?s2,⟨?x1,⟨⟨⟨⟨.refl _,⟨.refl _,trivial⟩⟩,trivial⟩,⟨.refl _,⟨.refl _,⟨?m0,⟨?m1,trivial⟩⟩⟩⟩⟩,⟨?s3,⟨trivial,?m2⟩⟩⟩⟩⟩,fun hb2=>⟨?s4,fun z3=>fun hz3=>⟨rfl,?m3⟩⟩⟩⟩⟩⟩⟩,fun hb0=>⟨?x2,⟨?s5,⟨?s6,⟨trivial,fun z2=>fun hq3=>fun _=>Qae.2 ⟨fun hb4=>⟨?s7,⟨?x3,⟨⟨⟨⟨.refl _,⟨.refl _,trivial⟩⟩,trivial⟩,⟨.refl _,⟨.refl _,⟨?m4,⟨?m5,trivial⟩⟩⟩⟩⟩,⟨?s8,⟨trivial,?m6⟩⟩⟩⟩⟩,fun hb4=>⟨?s9,fun z3=>fun hz3=>⟨rfl,?m7⟩⟩⟩⟩⟩⟩⟩⟩
   case x0=>exact ([],n.natAbs)
   case x1=>exact (z2.1++[z2.2 % 1000000000],z2.2 / 1000000000)
   case x2=>exact ([],n.natAbs)
   case x3=>exact (z2.1++[z2.2 % 1000000000],z2.2 / 1000000000)
   all_goals try simp only [decide_eq_true_eq,decide_eq_false_iff_not,Qa1] at *
   case s0=>exact ⟨⟨⟨.refl _,.refl _,trivial⟩,trivial⟩,.refl _,.refl _,QaN (wU64m n hb0 h1),rfl,trivial⟩
   case s5=>exact ⟨⟨⟨.refl _,.refl _,trivial⟩,trivial⟩,.refl _,.refl _,QaN (by rw [wU64 _ (by omega) (by omega)]; omega),rfl,trivial⟩
   case s1=>exact ⟨by simp [val],by simp,by simp,by omega,fun h=>by simp at h ⊢; omega⟩
   case s6=>exact ⟨by simp [val],by simp,by simp,by omega,fun h=>by simp at h ⊢; omega⟩
   case s4 =>
    refine ⟨⟨trivial,fun x hx=>?_,trivial⟩,by have:=hq1.2.2.1; omega⟩
    obtain ⟨y,hy,rfl⟩:=List.mem_map.1 hx
    have:=hq1.2.1 y hy
    have e:Int.ofNat y=(y:Int):=rfl
    exact ⟨by omega,by omega⟩
   case s9 =>
    refine ⟨⟨trivial,fun x hx=>?_,trivial⟩,by have:=hq3.2.2.1; omega⟩
    obtain ⟨y,hy,rfl⟩:=List.mem_map.1 hx
    have:=hq3.2.1 y hy
    have e:Int.ofNat y=(y:Int):=rfl
    exact ⟨by omega,by omega⟩
   case m3=>exact QpE hq1 (by omega) hz3 h1 h2
   case m7=>exact QpE hq3 (by omega) hz3 h1 h2
   all_goals first
    | exact (QiM (by assumption) (by omega) hN).1
    | exact ⟨by have:=(QiM (by assumption:ivO n.natAbs z2) (by omega) hN).2; omega,by have:=(QiM (by assumption:ivO n.natAbs z2) (by omega) hN).2; omega⟩
    | (show z2.2 / 1000000000+1≤z2.2; omega)
    | (refine QaN ?_
       rw [show ((z2.2:Nat):Int).tdiv 1000000000=((z2.2 / 1000000000:Nat):Int) from rfl]
       have hz:ivO n.natAbs z2:=by assumption
       have:=hz.2.2.2.1
       exact wU64 _ (by omega) (by omega))
    | (refine QoY ?_
       rw [show ((z2.2:Nat):Int).tmod 1000000000=((z2.2 % 1000000000:Nat):Int) from rfl,wU _ (by omega) (by omega)]
       simp [iN])
 · cases hs
end
def Qim:Spec
 | [.f x]=>match limL x with
  | some (l,k)=>some (some (k≤1000000),.one (.f (.v (.bool (rgtB l)))))
  | none=>none
 | _=>none
theorem Qpr {l:List Nat} (h:0<l.length):(l.getLast? != some 0)=(l.getD (l.length - 1) 0 != 0):=by
 rw [List.getLast?_eq_getElem?,List.getD_eq_getElem?_getD,List.getElem?_eq_getElem (show l.length - 1<l.length by omega)]
 simp [bne]
theorem Qr9 {E:Env} (hU:Up E):Contract Tryz.prog E 214 Qim:=by
 refine Qaf [] Tryz.ntmps214 Tryz.func214 (by kernel_rfl) (by kernel_rfl) hU trivial ?_
 intro xs p r hs hp
 unfold Qim at hs
 split at hs
 · rename_i x
   split at hs
   · rename_i l k hx
     cases hs
     have hk:=hp _ rfl
     refine ⟨[.f (.lr l k)],[(2,.s ⟨Nat,fun i=>⟨[(0,.f (.lr l k)),(3,.f (.v (.int .i64 (i:Nat))))],[]⟩,fun i=>i≤l.length∧∀ j,j<i→dg l j<1000000000,fun i=>l.length - i⟩)],.cons (Qbu hx) .nil,rfl,fun hgx hg=>?_⟩
     obtain ⟨a1,a2⟩:=hg.1.1
     refine Qag (p:=∃ (x1:Nat),(True∧rfB (PV.f (Lf.lr l k))∧SubB (PV.f (Lf.v (Value.int IntKind.i64 (0:Int)))) (PV.f (Lf.v (Value.int IntKind.i64 (↑x1:Int))))∧True)∧(x1≤l.length∧∀ (j:Nat),j<x1→dg l j<1000000000)∧True∧∀ (z2:Nat),(z2≤l.length∧∀ (j:Nat),j<z2→dg l j<1000000000)→True→ifB (decide ((↑z2:Int)<(↑l.length:Int))) (((0:Int)≤(↑z2:Int)∧(↑z2:Int)<(↑l.length:Int))∧ifB (decide ((↑(l.getD (↑z2:Int).toNat 0):Int) ≥ (1000000000:Int))) (true=true∧Sub (PV.f (Lf.v (Value.bool false))) (PV.f (Lf.v (Value.bool (rgtB l))))) (∃ (x3:Nat),(True∧rfB (PV.f (Lf.lr l k))∧SubB (PV.f (Lf.v (Value.int IntKind.i64 (IntKind.i64.wrap ((↑z2:Int)+(1:Int)))))) (PV.f (Lf.v (Value.int IntKind.i64 (↑x3:Int))))∧True)∧(x3≤l.length∧∀ (j:Nat),j<x3→dg l j<1000000000)∧True∧(l.length - x3).succ.le (l.length - z2))) (ifB ((↑l.length:Int)==(0:Int)) (true=true∧Sub (PV.f (Lf.v (Value.bool true))) (PV.f (Lf.v (Value.bool (rgtB l))))) (((0:Int)≤IntKind.i64.wrap ((↑l.length:Int) - (1:Int))∧IntKind.i64.wrap ((↑l.length:Int) - (1:Int))<(↑l.length:Int))∧true=true∧Sub (PV.f (Lf.v (Value.bool ((↑(l.getD (IntKind.i64.wrap ((↑l.length:Int) - (1:Int))).toNat 0):Int) != (0:Int))))) (PV.f (Lf.v (Value.bool (rgtB l))))))) ?kr ?_
     case kr=>kernel_rfl
     refine ⟨?x0,⟨⟨trivial,⟨.refl _,⟨?m0,trivial⟩⟩⟩,⟨?s0,⟨trivial,fun z2=>fun hq0=>fun _=>Qae.2 ⟨fun hb1=>⟨?s1,Qae.2 ⟨fun hb2=>⟨rfl,?m1⟩,fun hb2=>⟨?x1,⟨⟨trivial,⟨.refl _,⟨?m2,trivial⟩⟩⟩,⟨?s2,⟨trivial,?m3⟩⟩⟩⟩⟩⟩,fun hb1=>Qae.2 ⟨fun hb3=>⟨rfl,?m4⟩,fun hb3=>⟨?s3,⟨rfl,?m5⟩⟩⟩⟩⟩⟩⟩⟩
     case x0=>exact 0
     case x1=>exact z2+1
     case m0=>exact .refl _
     case s0=>exact ⟨Nat.zero_le _,fun j hj=>absurd hj (Nat.not_lt_zero j)⟩
     case s1=>exact ⟨by omega,of_decide_eq_true hb1⟩
     case m1 =>
      have h1:=of_decide_eq_true hb1
      have h2:=of_decide_eq_true hb2
      rw [Int.toNat_natCast] at h2
      rw [Qmg (k:=z2) (by omega) (by unfold dg; omega)]; exact .refl _
     case m2=>exact Qdk (by have:=of_decide_eq_true hb1; omega)
     case s2 =>
      have h1:=of_decide_eq_true hb1
      have h2:=of_decide_eq_false hb2
      rw [Int.toNat_natCast] at h2
      refine ⟨by omega,fun j hj=>?_⟩
      rcases Nat.lt_or_ge j z2 with h | h
      · exact hq0.2 j h
      · obtain rfl:j=z2:=by omega
        unfold dg; omega
     case m3=>have:=of_decide_eq_true hb1; show l.length - (z2+1)+1≤l.length - z2; omega
     case m4 =>
      have h1:=eq_of_beq hb3
      have:l=[]:=List.length_eq_zero_iff.1 (by omega)
      subst this; exact .refl _
     all_goals have h0:0<l.length:=(by
      rcases Nat.eq_zero_or_pos l.length with h | h
      · rw [h] at hb3; cases hb3
      · exact h)
     case s3=>rw [wI _ (by omega) (by omega)]; exact ⟨by omega,by omega⟩
     case m5 =>
      have h1:=of_decide_eq_false hb1
      have hw:(IntKind.i64.wrap ((l.length:Int) - 1)).toNat=l.length - 1:=by rw [wI _ (by omega) (by omega)]; omega
      have hall:l.all (fun x=>decide (x<1000000000))=true:=by
       rw [List.all_eq_true]
       intro x hx
       obtain ⟨j,hj,rfl⟩:=List.getElem_of_mem hx
       have h2:=hq0.2 j (by omega)
       rw [QcN _ _ hj] at h2
       exact decide_eq_true h2
      have hr:rgtB l=(l.getD (l.length - 1) 0 != 0):=by unfold rgtB; rw [hall,Bool.true_and,Qpr h0]
      rw [hw,hr]
      refine QbZ ?_
      rw [Bool.eq_iff_iff,bne_iff_ne,bne_iff_ne]
      omega
   · cases hs
 · cases hs
def Ql4:Spec
 | [x,y]=>match pvR x,pvR y with
  | some ((n,l),k,j),some ((n',l'),k',j')=>some (some (k+k'≤40000),.nm Int (zV n l+zV n' l') fun z=>zP z (j+j'+1))
  | _,_=>none
 | _=>none
theorem QsT {E:Env} (hU:Up E):Contract Tryz.prog E 222 Ql4:=by
 refine Qaf [(141,sOfB),(283,Qpn),(284,Qpd)] Tryz.ntmps222 Tryz.func222 (by kernel_rfl) (by kernel_rfl) hU ⟨cOfB hU,cAddR1,cSubR1 hU,trivial⟩ ?_
 intro xs p r hs hp
 unfold Ql4 at hs
 split at hs
 · rename_i x y
   split at hs
   · rename_i n l k j n' l' k' j' hx hy
     cases hs
     have hk:=hp _ rfl
     refine ⟨[rawP n l k,rawP n' l' k'],[],.cons (QaG hx) (.cons (QaG hy) .nil),rfl,fun hgx hg=>?_⟩
     obtain ⟨a1,a2,a3⟩:=Qbs hx hgx.1
     obtain ⟨b1,b2,b3⟩:=Qbs hy hgx.2.1
     have hzb:=a3.add b3
     refine Qag (p:=ifB (n==n') (Qa3 [(l,k),(l',k')]≤100000∧∀ (z1:Nat),z1=Qgk [(l,k),(l',k')] 0→Qa3 [(l,k),(l',k')]≤1000000∧∀ (z2:Int),z2=zV n (digs 1000000000 (↑z1:Int).natAbs)→true=true∧Sub (PV.agg [PV.f (Lf.zn z2),PV.f (Lf.zd z2 (Qa3 [(l,k),(l',k')]+1))]) (PV.agg [PV.f (Lf.zn (zV n l+zV n' l')),PV.f (Lf.zd (zV n l+zV n' l') (j+j'+1))])) ((k≤100000∧k'≤100000)∧∀ (z1:Nat),z1=vB l - vB l'→ifB (decide (vB l'≤vB l)) (k+1≤1000000∧∀ (z2:Int),z2=zV n (digs 1000000000 (↑z1:Int).natAbs)→true=true∧Sub (PV.agg [PV.f (Lf.zn z2),PV.f (Lf.zd z2 (k+1+1))]) (PV.agg [PV.f (Lf.zn (zV n l+zV n' l')),PV.f (Lf.zd (zV n l+zV n' l') (j+j'+1))])) ((k'≤100000∧k≤100000)∧∀ (z2:Nat),z2=vB l' - vB l→k'+1≤1000000∧∀ (z3:Int),z3=zV n' (digs 1000000000 (↑z2:Int).natAbs)→true=true∧Sub (PV.agg [PV.f (Lf.zn z3),PV.f (Lf.zd z3 (k'+1+1))]) (PV.agg [PV.f (Lf.zn (zV n l+zV n' l')),PV.f (Lf.zd (zV n l+zV n' l') (j+j'+1))])))) ?kr ?_
     case kr=>kernel_rfl
     refine Qae.2 ⟨fun hb0=>⟨?s0,fun z1=>fun hz1=>⟨?s1,fun z2=>fun hz2=>⟨rfl,?m0⟩⟩⟩,fun hb0=>⟨?s2,fun z1=>fun hz1=>Qae.2 ⟨fun hb1=>⟨?s3,fun z2=>fun hz2=>⟨rfl,?m1⟩⟩,fun hb1=>⟨?s4,fun z2=>fun hz2=>⟨?s5,fun z3=>fun hz3=>⟨rfl,?m2⟩⟩⟩⟩⟩⟩
     case s0=>simp only [Qa3]; omega
     case s1=>simp only [Qa3]; omega
     case s2=>omega
     case m0 =>
      have hn:=eq_of_beq hb0
      subst hn
      have e1:z2=zV n l+zV n l':=by
       rw [hz2,Int.natAbs_natCast,Qea,hz1]
       simp only [Qgk,Nat.zero_add]
       rw [Qe5]; rfl
      subst e1
      exact Qcl hzb
     all_goals have hn:n=!n':=(by cases n <;> cases n' <;> first | rfl | cases hb0)
     case s3=>omega
     case s4=>omega
     case s5=>omega
     case m1 =>
      have hle:=of_decide_eq_true hb1
      have e1:z2=zV n l+zV n' l':=by
       rw [hz2,Int.natAbs_natCast,Qea,hz1,Qox _ hle,Qou n l,Qou n' l']
       subst hn
       rw [Qgf,Qgf]; omega
      subst e1
      exact Qcl hzb
     case m2 =>
      have hle:=of_decide_eq_false hb1
      have e1:z3=zV n l+zV n' l':=by
       rw [hz3,Int.natAbs_natCast,Qea,hz2,Qox _ (by omega),Qou n l,Qou n' l']
       subst hn
       rw [Qgf]; omega
      subst e1
      exact Qcl hzb
   · cases hs
 · cases hs
def Qpi:Spec
 | [.f y]=>match QbC y with
  | some l=>some (some (Qb0 l≤10000),.nm Int (Qbo l 1) fun z=>zP z (bndP l 1))
  | none=>none
 | _=>none
def Qpk:Spec
 | [.f y]=>match QbC y with
  | some l=>some (some (Qb0 l≤20000),.nm Int (gcdR l 0) fun z=>zP z (bndS l 0))
  | none=>none
 | _=>none
end Go.Proofs.YtmbmbcamecfnkaaGreatDoor
namespace Go.Proofs.YtmbmbcamecfnkaaGreatDoor
open Go.RowKit
set_option linter.unusedVariables false
set_option maxRecDepth 100000
def Ql5:Spec
 | [x]=>match pvR x with
  | some ((n,l),k,j)=>some (some (k≤100000),.nm Int (-(zV n l)) fun z=>zP z j)
  | none=>none
 | _=>none
def Qpm:Spec
 | [x,y]=>match pvR x,pvR y with
  | some ((n,l),k,_),some ((n',l'),k',_)=>some (some (k+k'≤100000),.one (.f (.v (.int .i64 (cmpI (zV n l) (zV n' l'))))))
  | _,_=>none
 | _=>none
def Qil:Spec
 | [x]=>match pvR x with
  | some ((n,l),k,_)=>some (some (k≤1000000),.one (.f (.v (.bool (Qak n l)))))
  | none=>none
 | _=>none
theorem Qjg (z:Int):vB (digs 1000000000 z.natAbs)=z.natAbs:=QoD _
theorem Qne:∀ (l:List ((Bool × List Nat) × Nat × Nat)) (a:Nat),∀ x∈l,x.2.2≤bndS l a
 | y::l,a,x,h=>by
  simp only [bndS]
  rcases List.mem_cons.1 h with rfl | h
  · exact Nat.le_trans (by omega) (QlF l _)
  · exact Qne l _ x h
theorem cMulZ {E:Env} (hU:Up E):Contract Tryz.prog E 221 Qpi:=by
 refine Qaf [(63,sOf),(216,Qgy),(141,sOfB),(282,Qpj)] Tryz.ntmps221 Tryz.func221 (by kernel_rfl) (by kernel_rfl) hU ⟨Qly hU,Qkh hU,cOfB hU,cMulR1,trivial⟩ ?_
 intro xs p r hs hp
 unfold Qpi at hs
 split at hs
 · rename_i y
   split at hs
   · rename_i l hl
     cases hs
     have hk:=hp _ rfl
     have hsub:=Qdb hl
     have hL:(zsOf l).length=l.length:=by simp [zsOf]
     refine ⟨[.f (.zs (zsOf l))],[(3,.s ⟨Nat × Int,fun x=>⟨[(0,.f (.zs (zsOf l))),(2,.bp 0 0),(3,.bp 1 0),(4,.f (.v (.int .i64 (x.1:Nat))))],[.cells [.f (.v (.bool false)),.f (.v (.slice none 0 0))],.cells [.f (.zn x.2),.f (.zd x.2 (bndP l 1))]]⟩,
      fun x=>x.1≤l.length∧x.2=Qbo (l.take x.1) 1,fun x=>l.length - x.1⟩)],.cons hsub .nil,rfl,fun hgx hg=>?_⟩
     have hgood:=Qbd hl hgx.1.2
     have hbnd:∀ i,ZB (Qbo (l.take i) 1) (bndP l 1):=fun i=>(QfV _ 1 1 ZB.one fun x hx=>(hgood x (List.mem_of_mem_take hx)).2.2).mono (Qha l 1 i)
     have hbl:=Qhb l 1 (Qev hl)
     have hll:=QcE l
     refine Qag (p:=let A0:=fun (z3:Nat × Int)=>((zsOf l).getD (↑z3.fst:Int).toNat (false,[],0)); ((-9223372036854775808:Int)≤(1:Int)∧(1:Int)≤(9223372036854775807:Int))∧∀ (z1:Int),z1=(1:Int)→∃ (x2:Nat × Int),(((rfB (PV.f (Lf.v (Value.bool false)))∧rfB (nlP)∧True)∧(SubB (PV.f (Lf.zn z1)) (PV.f (Lf.zn x2.snd))∧SubB (PV.f (Lf.zd z1 3)) (PV.f (Lf.zd x2.snd (bndP l 1)))∧True)∧True)∧rfB (PV.f (Lf.zs (zsOf l)))∧rfB (PV.bp 0 0)∧rfB (PV.bp 1 0)∧SubB (PV.f (Lf.v (Value.int IntKind.i64 (0:Int)))) (PV.f (Lf.v (Value.int IntKind.i64 (↑x2.fst:Int))))∧True)∧(x2.fst≤l.length∧x2.snd=Qbo (List.take x2.fst l) (1:Int))∧True∧∀ (z3:Nat × Int),z3.fst≤l.length∧z3.snd=Qbo (List.take z3.fst l) (1:Int)→True→ifB (decide ((↑z3.fst:Int)<(↑(zsOf l).length:Int))) (((0:Int)≤(↑z3.fst:Int)∧(↑z3.fst:Int)<(↑(zsOf l).length:Int))∧(A0 z3).snd.snd≤1000000∧∀ (z4:Int),z4=zV (A0 z3).fst (A0 z3).snd.fst→Qa3 [(digs 1000000000 z3.snd.natAbs,bndP l 1),(digs 1000000000 z4.natAbs,(A0 z3).snd.snd+1)]≤100000∧∀ (z5:Nat),z5=QeC [(digs 1000000000 z3.snd.natAbs,bndP l 1),(digs 1000000000 z4.natAbs,(A0 z3).snd.snd+1)] 1→Qa3 [(digs 1000000000 z3.snd.natAbs,bndP l 1),(digs 1000000000 z4.natAbs,(A0 z3).snd.snd+1)]+1≤1000000∧∀ (z6:Int),z6=zV (!zNeg z3.snd==zNeg z4) (digs 1000000000 (↑z5:Int).natAbs)→∃ (x7:Nat × Int),(((rfB (PV.f (Lf.v (Value.bool false)))∧rfB (nlP)∧True)∧(SubB (PV.f (Lf.zn z6)) (PV.f (Lf.zn x7.snd))∧SubB (PV.f (Lf.zd z6 (Qa3 [(digs 1000000000 z3.snd.natAbs,bndP l 1),(digs 1000000000 z4.natAbs,(A0 z3).snd.snd+1)]+1+1))) (PV.f (Lf.zd x7.snd (bndP l 1)))∧True)∧True)∧rfB (PV.f (Lf.zs (zsOf l)))∧rfB (PV.bp 0 0)∧rfB (PV.bp 1 0)∧SubB (PV.f (Lf.v (Value.int IntKind.i64 (IntKind.i64.wrap ((↑z3.fst:Int)+(1:Int)))))) (PV.f (Lf.v (Value.int IntKind.i64 (↑x7.fst:Int))))∧True)∧(x7.fst≤l.length∧x7.snd=Qbo (List.take x7.fst l) (1:Int))∧True∧(l.length - x7.fst).succ.le (l.length - z3.fst)) (true=true∧Sub (PV.agg [PV.f (Lf.zn z3.snd),PV.f (Lf.zd z3.snd (bndP l 1))]) (PV.agg [PV.f (Lf.zn (Qbo l (1:Int))),PV.f (Lf.zd (Qbo l (1:Int)) (bndP l 1))]))) ?kr ?_
     case kr=>kernel_rfl
     conv=>zeta
     refine ⟨?s0,fun z1=>fun hz1=>⟨?x0,⟨⟨⟨⟨.refl _,⟨.refl _,trivial⟩⟩,⟨⟨?m0,⟨?m1,trivial⟩⟩,trivial⟩⟩,⟨.refl _,⟨.refl _,⟨.refl _,⟨?m2,trivial⟩⟩⟩⟩⟩,⟨?s1,⟨trivial,fun z3=>fun hq0=>fun _=>Qae.2 ⟨fun hb1=>⟨?s2,⟨?s3,fun z4=>fun hz4=>⟨?s4,fun z5=>fun hz5=>⟨?s5,fun z6=>fun hz6=>⟨?x1,⟨⟨⟨⟨.refl _,⟨.refl _,trivial⟩⟩,⟨⟨?m3,⟨?m4,trivial⟩⟩,trivial⟩⟩,⟨.refl _,⟨.refl _,⟨.refl _,⟨?m5,trivial⟩⟩⟩⟩⟩,⟨?s6,⟨trivial,?m6⟩⟩⟩⟩⟩⟩⟩⟩,fun hb1=>⟨rfl,?m7⟩⟩⟩⟩⟩⟩⟩
     case x0=>exact (0,1)
     case x1=>exact (z3.1+1,z6)
     case s0=>omega
     case m0=>exact Qgm hz1
     case m1=>exact Qai hz1 (ZB.one.mono (Qi3 l 1))
     case m2=>exact .refl _
     case s1=>exact ⟨Nat.zero_le _,rfl⟩
     case m7 =>
      have h1:=of_decide_eq_false hb1
      have h2:z3.1=l.length:=by omega
      have h3:=hq0.2
      rw [h2,List.take_of_length_le (Nat.le_refl _)] at h3
      rw [h3]; exact .refl _
     all_goals have h1:=of_decide_eq_true hb1
     all_goals have hil:z3.1<l.length:=(by omega)
     all_goals have hat:=Qe4 hil
     all_goals have hmem:=List.getElem_mem hil
     all_goals have hsz:=QcD _ hmem
     all_goals simp only [Int.toNat_natCast,hat] at *
     case s2=>exact ⟨by omega,by omega⟩
     case s3=>omega
     case s4=>simp only [Qa3]; omega
     case s5=>simp only [Qa3]; omega
     all_goals have hz:z6=Qbo (l.take (z3.1+1)) 1:=(by
      rw [hz6,Qea,hz5]
      simp only [QeC,Nat.one_mul,Qjg]
      rw [QhG l z3.1 hil,← hq0.2,← hz4,Int.natAbs_natCast,Qif,QoH])
     case m3=>exact .refl _
     case m4=>exact Qai rfl (by rw [hz]; exact hbnd _)
     case m5=>exact Qdk (by omega)
     case s6=>exact ⟨hil,hz⟩
     case m6=>show l.length - (z3.1+1)+1≤l.length - z3.1; omega
   · cases hs
 · cases hs
theorem cNegZ {E:Env} (hU:Up E):Contract Tryz.prog E 138 Ql5:=by
 refine Qaf [(216,Qgy),(141,sOfB)] Tryz.ntmps138 Tryz.func138 (by kernel_rfl) (by kernel_rfl) hU ⟨Qkh hU,cOfB hU,trivial⟩ ?_
 intro xs p r hs hp
 unfold Ql5 at hs
 split at hs
 · rename_i x
   split at hs
   · rename_i n l k j hx
     cases hs
     have hk:=hp _ rfl
     refine ⟨[rawP n l k],[],.cons (QaG hx) .nil,rfl,fun hgx hg=>?_⟩
     obtain ⟨a1,a2,a3⟩:=Qbs hx hgx.1
     refine Qag (p:=k≤1000000∧∀ (z1:Int),z1=zV n l→k+1≤1000000∧∀ (z2:Int),z2=zV (!zNeg z1) (digs 1000000000 z1.natAbs)→true=true∧Sub (PV.agg [PV.f (Lf.zn z2),PV.f (Lf.zd z2 (k+1+1))]) (PV.agg [PV.f (Lf.zn (-zV n l)),PV.f (Lf.zd (-zV n l) j)])) ?kr ?_
     case kr=>kernel_rfl
     refine ⟨?s0,fun z1=>fun hz1=>⟨?s1,fun z2=>fun hz2=>⟨rfl,?m0⟩⟩⟩
     case s0=>omega
     case s1=>omega
     case m0 =>
      have:z2=-zV n l:=by rw [hz2,Qea,turned,hz1]
      subst this
      exact Qcl a3.neg
   · cases hs
 · cases hs
def Qtq:Spec
 | [x,y]=>match pvR x,pvR y with
  | some ((n,l),k,j),some ((n',l'),k',j')=>some (some (k+k'≤30000),.nm Int (zV n l - zV n' l') fun z=>zP z (j+j'+1))
  | _,_=>none
 | _=>none
theorem cSubZ {E:Env} (hU:Up E):Contract Tryz.prog E 220 Qtq:=by
 refine Qaf [(216,Qgy),(138,Ql5),(222,Ql4)] Tryz.ntmps220 Tryz.func220 (by kernel_rfl) (by kernel_rfl) hU ⟨Qkh hU,cNegZ hU,QsT hU,trivial⟩ ?_
 intro xs p r hs hp
 unfold Qtq at hs
 split at hs
 · rename_i x y
   split at hs
   · rename_i n l k j n' l' k' j' hx hy
     cases hs
     have hk:=hp _ rfl
     refine ⟨[rawP n l k,rawP n' l' k'],[],.cons (QaG hx) (.cons (QaG hy) .nil),rfl,fun hgx hg=>?_⟩
     obtain ⟨a1,a2,a3⟩:=Qbs hx hgx.1
     obtain ⟨b1,b2,b3⟩:=Qbs hy hgx.2.1
     refine Qag (p:=k≤1000000∧∀ (z1:Int),z1=zV n l→k'≤100000∧∀ (z2:Int),z2=-zV n' l'→k+1+(k'+1)≤40000∧∀ (z3:Int),z3=zV (zNeg z1) (digs 1000000000 z1.natAbs)+zV (zNeg z2) (digs 1000000000 z2.natAbs)→true=true∧Sub (PV.agg [PV.f (Lf.zn z3),PV.f (Lf.zd z3 (k+1+(k'+1)+1))]) (PV.agg [PV.f (Lf.zn (zV n l - zV n' l')),PV.f (Lf.zd (zV n l - zV n' l') (j+j'+1))])) ?kr ?_
     case kr=>kernel_rfl
     refine ⟨?s0,fun z1=>fun hz1=>⟨?s1,fun z2=>fun hz2=>⟨?s2,fun z3=>fun hz3=>⟨rfl,?m0⟩⟩⟩⟩
     case s0=>omega
     case s1=>omega
     case s2=>omega
     case m0 =>
      have:z3=zV n l - zV n' l':=by rw [hz3,Qov,Qov,hz1,hz2]; omega
      subst this
      exact Qcl (a3.sub b3)
   · cases hs
 · cases hs
theorem cCmpZ {E:Env} (hU:Up E):Contract Tryz.prog E 136 Qpm:=by
 refine Qaf [(216,Qgy),(217,QtE)] Tryz.ntmps136 Tryz.func136 (by kernel_rfl) (by kernel_rfl) hU ⟨Qkh hU,cCmpL hU,trivial⟩ ?_
 intro xs p r hs hp
 unfold Qpm at hs
 split at hs
 · rename_i x y
   split at hs
   · rename_i n l k j n' l' k' j' hx hy
     cases hs
     have hk:=hp _ rfl
     refine ⟨[rawP n l k,rawP n' l' k'],[],.cons (QaG hx) (.cons (QaG hy) .nil),rfl,fun hgx hg=>?_⟩
     refine Qag (p:=let A1:=PV.f (Lf.v (Value.int IntKind.i64 (cmpI (zV n l) (zV n' l')))); let A0:=fun (z1:Int) (z2:Int)=>(ifB (zNeg z1) ((k'+1≤1000000∧k+1≤1000000)∧true=true∧Sub (PV.f (Lf.v (Value.int IntKind.i64 (ordN (vB (digs 1000000000 z2.natAbs)) (vB (digs 1000000000 z1.natAbs)))))) A1) ((k+1≤1000000∧k'+1≤1000000)∧true=true∧Sub (PV.f (Lf.v (Value.int IntKind.i64 (ordN (vB (digs 1000000000 z1.natAbs)) (vB (digs 1000000000 z2.natAbs)))))) A1)); let A2:=fun (z1:Int) (z2:Int)=>(ifB (!zNeg z1) (ifB (zNeg z2) (true=true∧Sub (PV.f (Lf.v (Value.int IntKind.i64 (1:Int)))) A1) (A0 z1 z2)) (A0 z1 z2)); k≤1000000∧∀ (z1:Int),z1=zV n l→k'≤1000000∧∀ (z2:Int),z2=zV n' l'→ifB (zNeg z1) (ifB (!zNeg z2) (true=true∧Sub (PV.f (Lf.v (Value.int IntKind.i64 (-1:Int)))) A1) (A2 z1 z2)) (A2 z1 z2)) ?kr ?_
     case kr=>kernel_rfl
     conv=>zeta
     refine ⟨?s0,fun z1=>fun hz1=>⟨?s1,fun z2=>fun hz2=>Qae.2 ⟨fun hb0=>Qae.2 ⟨fun hb1=>⟨rfl,?m0⟩,fun hb1=>Qae.2 ⟨fun hb2=>Qae.2 ⟨fun hb3=>⟨rfl,?m1⟩,fun hb3=>Qae.2 ⟨fun hb4=>⟨?s2,⟨rfl,?m2⟩⟩,fun hb4=>⟨?s3,⟨rfl,?m3⟩⟩⟩⟩,fun hb2=>Qae.2 ⟨fun hb5=>⟨?s4,⟨rfl,?m4⟩⟩,fun hb5=>⟨?s5,⟨rfl,?m5⟩⟩⟩⟩⟩,fun hb0=>Qae.2 ⟨fun hb6=>Qae.2 ⟨fun hb7=>⟨rfl,?m6⟩,fun hb7=>Qae.2 ⟨fun hb8=>⟨?s6,⟨rfl,?m7⟩⟩,fun hb8=>⟨?s7,⟨rfl,?m8⟩⟩⟩⟩,fun hb6=>Qae.2 ⟨fun hb9=>⟨?s8,⟨rfl,?m9⟩⟩,fun hb9=>⟨?s9,⟨rfl,?m10⟩⟩⟩⟩⟩⟩⟩
     case s0=>omega
     case s1=>omega
     all_goals try rw [← hz1,← hz2]
     all_goals try rw [Qjg,Qjg]
     all_goals simp only [zNeg,Bool.not_eq_true',decide_eq_true_eq,decide_eq_false_iff_not,Bool.not_eq_false'] at *
     all_goals first
      | exact ⟨by omega,by omega⟩
      | (refine QoV ?_
         unfold cmpI
         try unfold ordN
         repeat' split
         all_goals omega)
   · cases hs
 · cases hs
theorem Qr8 {E:Env} (hU:Up E):Contract Tryz.prog E 134 Qil:=by
 refine Qaf [(214,Qim)] Tryz.ntmps134 Tryz.func134 (by kernel_rfl) (by kernel_rfl) hU ⟨Qr9 hU,trivial⟩ ?_
 intro xs p r hs hp
 unfold Qil at hs
 split at hs
 · rename_i x
   split at hs
   · rename_i n l k j hx
     cases hs
     have hk:=hp _ rfl
     refine ⟨[rawP n l k],[],.cons (QaG hx) .nil,rfl,fun hgx hg=>?_⟩
     refine Qag (p:=k≤1000000∧ifB (rgtB l) (ifB (!n) (true=true∧Sub (PV.f (Lf.v (Value.bool true))) (PV.f (Lf.v (Value.bool (Qak n l))))) (true=true∧Sub (PV.f (Lf.v (Value.bool (decide ((↑l.length:Int) > (0:Int)))))) (PV.f (Lf.v (Value.bool (Qak n l)))))) (true=true∧Sub (PV.f (Lf.v (Value.bool false))) (PV.f (Lf.v (Value.bool (Qak n l)))))) ?kr ?_
     case kr=>kernel_rfl
     refine ⟨?s0,Qae.2 ⟨fun hb0=>Qae.2 ⟨fun hb1=>⟨rfl,?m0⟩,fun hb1=>⟨rfl,?m1⟩⟩,fun hb0=>⟨rfl,?m2⟩⟩⟩
     case s0=>exact hk
     case m0 =>
      refine QbZ ?_
      unfold Qak
      rw [hb0,hb1]; rfl
     case m1 =>
      refine QbZ ?_
      unfold Qak
      rw [hb0,hb1,Bool.true_and,Bool.false_or,Bool.eq_iff_iff,decide_eq_true_eq,decide_eq_true_eq]
      omega
     case m2 =>
      refine QbZ ?_
      unfold Qak
      rw [hb0]; rfl
   · cases hs
 · cases hs
theorem cGcdZ {E:Env} (hU:Up E):Contract Tryz.prog E 139 Qpk:=by
 refine Qaf [(218,Qii),(219,Qma),(141,sOfB)] Tryz.ntmps139 Tryz.func139 (by kernel_rfl) (by kernel_rfl) hU ⟨QqD hU,QsZ hU,cOfB hU,trivial⟩ ?_
 intro xs p r hs hp
 unfold Qpk at hs
 split at hs
 · rename_i y
   split at hs
   · rename_i l hl
     cases hs
     have hk:=hp _ rfl
     have hsub:=Qdb hl
     have hL:(zsOf l).length=l.length:=by simp [zsOf]
     refine ⟨[.f (.zs (zsOf l))],[(3,.s ⟨Nat × Nat,fun x=>⟨[(0,.f (.zs (zsOf l))),(2,.bp 0 0),(3,.f (.zd (x.2:Int) (bndS l 0))),(4,.f (.v (.int .i64 (x.1:Nat))))],[.cells [.f (.v (.bool false)),.f (.v (.slice none 0 0))]]⟩,
      fun x=>x.1≤l.length∧(x.2:Int)=gcdR (l.take x.1) 0,fun x=>l.length - x.1⟩),(6,⟨Nat × Nat × Nat,fun x=>⟨[(0,.f (.zs (zsOf l))),(2,.bp 0 0),(3,.f (.zd (x.2.1:Int) (bndS l 0+1))),(4,.f (.v (.int .i64 (x.1:Nat)))),(5,.f (.zd (x.2.2:Int) (bndS l 0+1)))],[.cells [.f (.v (.bool false)),.f (.v (.slice none 0 0))]]⟩,
      fun x=>ZB (x.2.1:Int) (bndS l 0+1)∧ZB (x.2.2:Int) (bndS l 0+1),fun x=>x.2.2,fun x y=>x.1=y.1∧Nat.gcd x.2.1 x.2.2=Nat.gcd y.2.1 y.2.2⟩)],.cons hsub .nil,rfl,fun hgx hg=>?_⟩
     have hgood:=Qbd hl hgx.1.2
     have hbnd:∀ i,ZB (gcdR (l.take i) 0) (bndS l 0):=fun i=>(QiP _ 0 0 (ZB.zero 0) fun x hx=>(hgood x (List.mem_of_mem_take hx)).2.2).mono (QeY l 0 i)
     have hbl:=QeZ l 0 (Qev hl)
     have hll:=QcE l
     have hK:∀ x∈l,x.2.2≤bndS l 0:=Qne l 0
     refine Qag (p:=let A0:=(rfB (PV.f (Lf.v (Value.bool false)))∧rfB (nlP)∧True)∧True; let A1:=bndS l 0+1; let A2:=fun (z5:Nat × Nat × Nat)=>(digs 1000000000 (↑z5.snd.snd:Int).natAbs); ∃ (x1:Nat × Nat),(A0∧rfB (PV.f (Lf.zs (zsOf l)))∧rfB (PV.bp 0 0)∧SubB (nlP) (PV.f (Lf.zd (↑x1.snd:Int) (bndS l 0)))∧SubB (PV.f (Lf.v (Value.int IntKind.i64 (0:Int)))) (PV.f (Lf.v (Value.int IntKind.i64 (↑x1.fst:Int))))∧True)∧(x1.fst≤l.length∧(↑x1.snd:Int)=gcdR (List.take x1.fst l) (0:Int))∧True∧∀ (z2:Nat × Nat),z2.fst≤l.length∧(↑z2.snd:Int)=gcdR (List.take z2.fst l) (0:Int)→True→ifB (decide ((↑z2.fst:Int)<(↑(zsOf l).length:Int))) (((0:Int)≤(↑z2.fst:Int)∧(↑z2.fst:Int)<(↑(zsOf l).length:Int))∧((zsOf l).getD (↑z2.fst:Int).toNat (false,[],0)).snd.snd≤1000000∧∀ (z3:Nat),z3=vB ((zsOf l).getD (↑z2.fst:Int).toNat (false,[],0)).snd.fst→∃ (x4:Nat × Nat × Nat),(A0∧rfB (PV.f (Lf.zs (zsOf l)))∧rfB (PV.bp 0 0)∧SubB (PV.f (Lf.zd (↑z2.snd:Int) (bndS l 0))) (PV.f (Lf.zd (↑x4.snd.fst:Int) A1))∧SubB (PV.f (Lf.v (Value.int IntKind.i64 (↑z2.fst:Int)))) (PV.f (Lf.v (Value.int IntKind.i64 (↑x4.fst:Int))))∧SubB (PV.f (Lf.zd (↑z3:Int) (((zsOf l).getD (↑z2.fst:Int).toNat (false,[],0)).snd.snd+1))) (PV.f (Lf.zd (↑x4.snd.snd:Int) A1))∧True)∧(ZB (↑x4.snd.fst:Int) A1∧ZB (↑x4.snd.snd:Int) A1)∧(x4.fst=x4.fst∧x4.snd.fst.gcd x4.snd.snd=x4.snd.fst.gcd x4.snd.snd)∧∀ (z5:Nat × Nat × Nat),ZB (↑z5.snd.fst:Int) A1∧ZB (↑z5.snd.snd:Int) A1→x4.fst=z5.fst∧x4.snd.fst.gcd x4.snd.snd=z5.snd.fst.gcd z5.snd.snd→ifB (decide ((↑(A2 z5).length:Int) > (0:Int))) ((bndS l 0+1≤100000∧bndS l 0+1≤100000∧vB (A2 z5)≠0)∧∀ (z6:Nat),z6=vB (digs 1000000000 (↑z5.snd.fst:Int).natAbs) / vB (A2 z5)→∀ (z7:Nat),z7=vB (digs 1000000000 (↑z5.snd.fst:Int).natAbs) % vB (A2 z5)→∃ (x8:Nat × Nat × Nat),(A0∧rfB (PV.f (Lf.zs (zsOf l)))∧rfB (PV.bp 0 0)∧SubB (PV.f (Lf.zd (↑z5.snd.snd:Int) A1)) (PV.f (Lf.zd (↑x8.snd.fst:Int) A1))∧SubB (PV.f (Lf.v (Value.int IntKind.i64 (↑z5.fst:Int)))) (PV.f (Lf.v (Value.int IntKind.i64 (↑x8.fst:Int))))∧SubB (PV.f (Lf.zd (↑z7:Int) (bndS l 0+1+1))) (PV.f (Lf.zd (↑x8.snd.snd:Int) A1))∧True)∧(ZB (↑x8.snd.fst:Int) A1∧ZB (↑x8.snd.snd:Int) A1)∧(x4.fst=x8.fst∧x4.snd.fst.gcd x4.snd.snd=x8.snd.fst.gcd x8.snd.snd)∧x8.snd.snd.succ.le z5.snd.snd) (∃ (x6:Nat × Nat),(A0∧rfB (PV.f (Lf.zs (zsOf l)))∧rfB (PV.bp 0 0)∧SubB (PV.f (Lf.zd (↑z5.snd.fst:Int) A1)) (PV.f (Lf.zd (↑x6.snd:Int) (bndS l 0)))∧SubB (PV.f (Lf.v (Value.int IntKind.i64 (IntKind.i64.wrap ((↑z5.fst:Int)+(1:Int)))))) (PV.f (Lf.v (Value.int IntKind.i64 (↑x6.fst:Int))))∧True)∧(x6.fst≤l.length∧(↑x6.snd:Int)=gcdR (List.take x6.fst l) (0:Int))∧True∧(l.length - x6.fst).succ.le (l.length - z2.fst))) (bndS l 0≤1000000∧∀ (z3:Int),z3=zV false (digs 1000000000 (↑z2.snd:Int).natAbs)→true=true∧Sub (PV.agg [PV.f (Lf.zn z3),PV.f (Lf.zd z3 A1)]) (PV.agg [PV.f (Lf.zn (gcdR l (0:Int))),PV.f (Lf.zd (gcdR l (0:Int)) (bndS l 0))]))) ?kr ?_
     case kr=>kernel_rfl
     conv=>zeta
     refine ⟨?x0,⟨⟨⟨⟨.refl _,⟨.refl _,trivial⟩⟩,trivial⟩,⟨.refl _,⟨.refl _,⟨?m0,⟨?m1,trivial⟩⟩⟩⟩⟩,⟨?s0,⟨trivial,fun z2=>fun hq0=>fun _=>Qae.2 ⟨fun hb1=>⟨?s1,⟨?s2,fun z3=>fun hz3=>⟨?x1,⟨⟨⟨⟨.refl _,⟨.refl _,trivial⟩⟩,trivial⟩,⟨.refl _,⟨.refl _,⟨?m2,⟨?m3,⟨?m4,trivial⟩⟩⟩⟩⟩⟩,⟨?s3,⟨⟨rfl,rfl⟩,fun z5=>fun hq2=>fun hq3=>Qae.2 ⟨fun hb4=>⟨?s4,fun z6=>fun hz6=>fun z7=>fun hz7=>⟨?x2,⟨⟨⟨⟨.refl _,⟨.refl _,trivial⟩⟩,trivial⟩,⟨.refl _,⟨.refl _,⟨?m5,⟨?m6,⟨?m7,trivial⟩⟩⟩⟩⟩⟩,⟨?s5,⟨?s6,?m8⟩⟩⟩⟩⟩,fun hb4=>⟨?x3,⟨⟨⟨⟨.refl _,⟨.refl _,trivial⟩⟩,trivial⟩,⟨.refl _,⟨.refl _,⟨?m9,⟨?m10,trivial⟩⟩⟩⟩⟩,⟨?s7,⟨trivial,?m11⟩⟩⟩⟩⟩⟩⟩⟩⟩⟩⟩,fun hb1=>⟨?s8,fun z3=>fun hz3=>⟨rfl,?m12⟩⟩⟩⟩⟩⟩⟩
     case x0=>exact (0,0)
     case x1=>exact (z2.1,z2.2,z3)
     case x2=>exact (z5.1,z5.2.2,z7)
     case x3=>exact (z2.1+1,z5.2.1)
     case m0=>exact Qgn (QfN _)
     case m1=>exact .refl _
     case s0=>exact ⟨Nat.zero_le _,rfl⟩
     case s8=>omega
     case m12 =>
      have h1:=of_decide_eq_false hb1
      have h2:z2.1=l.length:=by omega
      have h3:=hq0.2
      rw [h2,List.take_of_length_le (Nat.le_refl _)] at h3
      have:z3=gcdR l 0:=by rw [hz3,Int.natAbs_natCast,Qea,Qa5]; exact h3
      subst this
      have h4:=hbnd l.length
      rw [List.take_of_length_le (Nat.le_refl _)] at h4
      exact Qcl h4
     all_goals have h1:=of_decide_eq_true hb1
     all_goals have hil:z2.1<l.length:=(by omega)
     all_goals have hat:=Qe4 hil
     all_goals have hmem:=List.getElem_mem hil
     all_goals have hsz:=QcD _ hmem
     all_goals simp only [Int.toNat_natCast,hat] at *
     case s1=>exact ⟨by omega,by omega⟩
     case s2=>omega
     all_goals have hg1:ZB (z2.2:Int) (bndS l 0+1):=(by rw [hq0.2]; exact (hbnd _).mono (by omega))
     all_goals have hz3a:(zV (l[z2.1]).1.1 (l[z2.1]).1.2).natAbs=z3:=(by rw [hz3,Qou,Qbn])
     all_goals have hz3b:ZB (z3:Int) (bndS l 0+1):=(by
      have h5:=(hgood _ hmem).2.2.mono (hK _ hmem)
      unfold ZB at h5
      rw [hz3a] at h5
      exact ZB.mono (k:=bndS l 0+1) (j:=bndS l 0) (by unfold ZB; rw [Int.natAbs_natCast]; exact h5) (by omega))
     case m2=>exact Qai rfl hg1
     case m3=>exact .refl _
     case m4=>exact Qai rfl hz3b
     case s3=>exact ⟨hg1,hz3b⟩
     all_goals obtain ⟨c1,c2⟩:=hq2
     all_goals obtain ⟨e1,e2⟩:=hq3
     all_goals have hgc:((Nat.gcd z2.2 z3:Nat):Int)=gcdR (l.take (z2.1+1)) 0:=(by
      rw [QjU l z2.1 hil,← hq0.2]
      unfold gcd2
      rw [hz3a,Int.natAbs_natCast])
     all_goals simp only [Int.natAbs_natCast,QoD] at *
     case m9 =>
      have h5:digs 1000000000 z5.2.2=[]:=List.length_eq_zero_iff.1 (by have:=of_decide_eq_false hb4; omega)
      have h6:=Qah 1000000000 (by omega) z5.2.2
      rw [h5] at h6
      have h7:z5.2.2=0:=h6.symm
      rw [h7,Nat.gcd_zero_right] at e2
      exact Qai rfl (by rw [← e2,hgc]; exact hbnd _)
     case m10=>exact QaN (by rw [← e1]; exact wI _ (by omega) (by omega))
     case s7 =>
      have h5:digs 1000000000 z5.2.2=[]:=List.length_eq_zero_iff.1 (by have:=of_decide_eq_false hb4; omega)
      have h6:=Qah 1000000000 (by omega) z5.2.2
      rw [h5] at h6
      have h7:z5.2.2=0:=h6.symm
      rw [h7,Nat.gcd_zero_right] at e2
      exact ⟨hil,by rw [← e2]; exact hgc⟩
     case m11=>show l.length - (z2.1+1)+1≤l.length - z2.1; omega
     all_goals have h0:z5.2.2≠0:=(by
      intro hc
      rw [hc] at hb4
      cases hb4)
     case s4=>exact ⟨by omega,by omega,h0⟩
     all_goals have hml:z7<z5.2.2:=(by rw [hz7]; exact Nat.mod_lt _ (by omega))
     case m5=>exact .refl _
     case m6=>exact .refl _
     case m7=>exact Qai rfl (c2.leN (Nat.le_of_lt hml))
     case s5=>exact ⟨c2,c2.leN (Nat.le_of_lt hml)⟩
     case s6=>exact ⟨e1,by rw [e2,hz7,Nat.gcd_comm z5.2.1,Nat.gcd_rec,Nat.gcd_comm]⟩
     case m8=>exact hml
   · cases hs
 · cases hs
end Go.Proofs.YtmbmbcamecfnkaaGreatDoor
namespace Go.Proofs.YtmbmbcamecfnkaaGreatDoor
open Go.RowKit
set_option linter.unusedVariables false
set_option maxRecDepth 100000
def QkM:Spec
 | []=>some (none,.one (.agg [.f (.zn 0),.f (.zd 0 3),.f (.zn 1),.f (.zd 1 3)]))
 | _=>none
def Ql1:Spec
 | []=>some (none,.one (zP 0 3))
 | _=>none
def QtB:Spec
 | [x,y]=>match pvR x,pvR y with
  | some ((n,l),k,j),some ((n',l'),k',j')=>some (some (k+k'≤4000∧zV n' l'≠0),.nm2 Int Int (Int.fdiv (zV n l) (zV n' l')) (Int.fmod (zV n l) (zV n' l')) fun q r=>.tup [zP q (j+1),zP r j',.f (.v (.int .i64 0))])
  | _,_=>none
 | _=>none
theorem QrY (x y:Int):zOf (zNeg x != zNeg y) (x.natAbs / y.natAbs) * y+zOf (zNeg x) (x.natAbs % y.natAbs)=x:=by
 have h1:zOf ((zNeg x != zNeg y) != zNeg y) (x.natAbs / y.natAbs * y.natAbs)=zOf (zNeg x != zNeg y) (x.natAbs / y.natAbs) * y:=by rw [Qkr,QaV]
 have h2:((zNeg x != zNeg y) != zNeg y)=zNeg x:=by cases zNeg x <;> cases zNeg y <;> rfl
 rw [← h1,h2,← Qe5,Nat.div_add_mod',QaV]
theorem Qj2 {x y q r:Int} (hb:y≠0) (hx:q * y+r=x) (hm:r.natAbs<y.natAbs) (h0:r≠0) (hs:(!zNeg r==zNeg y)=true):q - 1=Int.fdiv x y∧r+y=Int.fmod x y:=by
 refine QcK hb (by rw [Int.sub_mul,Int.one_mul]; omega) ?_
 rw [Bool.not_eq_true'] at hs
 have hs:zNeg r≠zNeg y:=by simpa using hs
 by_cases hy:y<0
 · have e:zNeg y=true:=Qch.2 hy
   have:¬ r<0:=fun h=>hs (by rw [e,Qch.2 h])
   exact .inr ⟨hy,by omega,by omega⟩
 · have:r<0:=by
    refine Decidable.byContradiction fun h=>hs ?_
    rw [Bool.eq_iff_iff,Qch,Qch]
    omega
   exact .inl ⟨by omega,by omega,by omega⟩
theorem QiW {x y q r:Int} (hb:y≠0) (hx:q * y+r=x) (hm:r.natAbs<y.natAbs) (hs:r=0∨(!zNeg r==zNeg y)=false):q=Int.fdiv x y∧r=Int.fmod x y:=by
 refine QcK hb hx ?_
 rcases hs with rfl | hs
 · rcases Int.lt_trichotomy y 0 with h | h | h
   · exact .inr ⟨h,h,Int.le_refl _⟩
   · exact absurd h hb
   · exact .inl ⟨h,Int.le_refl _,h⟩
 · rw [Bool.not_eq_false'] at hs
   have hs:zNeg r=zNeg y:=by simpa using hs
   rw [Bool.eq_iff_iff,Qch,Qch] at hs
   by_cases hy:y<0
   · exact .inr ⟨hy,by omega,by omega⟩
   · exact .inl ⟨by omega,by omega,by omega⟩
theorem cDivZ {E:Env} (hU:Up E):Contract Tryz.prog E 140 QtB:=by
 refine Qaf [(216,Qgy),(63,sOf),(219,Qma),(141,sOfB),(221,Qpi),(220,Qtq),(222,Ql4)] Tryz.ntmps140 Tryz.func140 (by kernel_rfl) (by kernel_rfl) hU ⟨Qkh hU,Qly hU,QsZ hU,cOfB hU,cMulZ hU,cSubZ hU,QsT hU,trivial⟩ ?_
 intro xs p r hs hp
 unfold QtB at hs
 split at hs
 · rename_i x y
   split at hs
   · rename_i n l k j n' l' k' j' hx hy
     cases hs
     obtain ⟨hk,h0⟩:=hp _ rfl
     refine ⟨[rawP n l k,rawP n' l' k'],[],.cons (QaG hx) (.cons (QaG hy) .nil),rfl,fun hgx hg=>?_⟩
     obtain ⟨a1,a2,a3⟩:=Qbs hx hgx.1
     obtain ⟨b1,b2,b3⟩:=Qbs hy hgx.2.1
     refine Qag (p:=let A3:=1+(k+1+1+1)+(k'+1); let A4:=(-9223372036854775808:Int)≤(0:Int)∧(0:Int)≤(9223372036854775807:Int); let A5:=fun (z2:Int)=>(digs 1000000000 z2.natAbs); let A6:=Lf.v (Value.int IntKind.i64 (0:Int)); let A0:=PV.tup [PV.agg [PV.f (Lf.zn ((zV n l).fdiv (zV n' l'))),PV.f (Lf.zd ((zV n l).fdiv (zV n' l')) (j+1))],PV.agg [PV.f (Lf.zn ((zV n l).fmod (zV n' l'))),PV.f (Lf.zd ((zV n l).fmod (zV n' l')) j')],PV.f A6]; let A1:=fun (z5:Int) (z7:Int)=>(PV.tup [PV.agg [PV.f (Lf.zn z5),PV.f (Lf.zd z5 (k+1+1+1))],PV.agg [PV.f (Lf.zn z7),PV.f (Lf.zd z7 (k+1+A3+1))],PV.f A6]); let A2:=fun (z9:Int) (z10:Int)=>(PV.tup [PV.agg [PV.f (Lf.zn z9),PV.f (Lf.zd z9 (k+1+1+1+3+1))],PV.agg [PV.f (Lf.zn z10),PV.f (Lf.zd z10 (k+1+A3+1+(k'+1)+1))],PV.f A6]); k≤1000000∧∀ (z1:Int),z1=zV n l→k'≤1000000∧∀ (z2:Int),z2=zV n' l'→ifB ((↑(A5 z2).length:Int)==(0:Int)) (A4∧∀ (z3:Int),z3=(0:Int)→A4∧∀ (z4:Int),z4=(0:Int)→true=true∧Sub (PV.tup [PV.agg [PV.f (Lf.zn z3),PV.f (Lf.zd z3 3)],PV.agg [PV.f (Lf.zn z4),PV.f (Lf.zd z4 3)],PV.f (Lf.v (Value.int IntKind.i64 (9:Int)))]) A0) ((k+1≤100000∧k'+1≤100000∧vB (A5 z2)≠0)∧∀ (z3:Nat),z3=vB (digs 1000000000 z1.natAbs) / vB (A5 z2)→∀ (z4:Nat),z4=vB (digs 1000000000 z1.natAbs) % vB (A5 z2)→k+1+1≤1000000∧∀ (z5:Int),z5=zV (!zNeg z1==zNeg z2) (digs 1000000000 (↑z3:Int).natAbs)→k+1+1+1+2+(k'+1+2+0)≤10000∧∀ (z6:Int),z6=(1:Int) * zV (zNeg z5) (digs 1000000000 z5.natAbs) * zV (zNeg z2) (A5 z2)→k+1+A3≤30000∧∀ (z7:Int),z7=zV (zNeg z1) (digs 1000000000 z1.natAbs) - zV (zNeg z6) (digs 1000000000 z6.natAbs)→ifB (decide ((↑(digs 1000000000 z7.natAbs).length:Int) > (0:Int))) (ifB (!zNeg z7==zNeg z2) (((-9223372036854775808:Int)≤(1:Int)∧(1:Int)≤(9223372036854775807:Int))∧∀ (z8:Int),z8=(1:Int)→k+1+1+1+3≤30000∧∀ (z9:Int),z9=zV (zNeg z5) (digs 1000000000 z5.natAbs) - zV (zNeg z8) (digs 1000000000 z8.natAbs)→k+1+A3+1+(k'+1)≤40000∧∀ (z10:Int),z10=zV (zNeg z7) (digs 1000000000 z7.natAbs)+zV (zNeg z2) (A5 z2)→((true=true∧Sub (A2 z9 z10) A0)∧true=true∧Sub (A2 z9 z10) A0)∧true=true∧Sub (A2 z9 z10) A0) (((true=true∧Sub (A1 z5 z7) A0)∧true=true∧Sub (A1 z5 z7) A0)∧true=true∧Sub (A1 z5 z7) A0)) (((true=true∧Sub (A1 z5 z7) A0)∧true=true∧Sub (A1 z5 z7) A0)∧true=true∧Sub (A1 z5 z7) A0))) ?kr ?_
     case kr=>kernel_rfl
     conv=>zeta
     refine ⟨?s0,fun z1=>fun hz1=>⟨?s1,fun z2=>fun hz2=>Qae.2 ⟨fun hb0=>⟨?s2,fun z3=>fun hz3=>⟨?s3,fun z4=>fun hz4=>⟨rfl,?m0⟩⟩⟩,fun hb0=>⟨?s4,fun z3=>fun hz3=>fun z4=>fun hz4=>⟨?s5,fun z5=>fun hz5=>⟨?s6,fun z6=>fun hz6=>⟨?s7,fun z7=>fun hz7=>Qae.2 ⟨fun hb1=>Qae.2 ⟨fun hb2=>⟨?s8,fun z8=>fun hz8=>⟨?s9,fun z9=>fun hz9=>⟨?s10,fun z10=>fun hz10=>⟨?s11,⟨rfl,?m1⟩⟩⟩⟩⟩,fun hb2=>⟨?s12,⟨rfl,?m2⟩⟩⟩,fun hb1=>⟨?s13,⟨rfl,?m3⟩⟩⟩⟩⟩⟩⟩⟩⟩⟩
     case s0=>omega
     case s1=>omega
     case s2=>decide
     case s3=>decide
     case s8=>decide
     case s5=>omega
     case s6=>omega
     case s7=>omega
     case s9=>omega
     case s10=>omega
     all_goals have hb:z2≠0:=(by rw [hz2]; exact h0)
     case m0 =>
      have h1:=Qah 1000000000 (by omega) z2.natAbs
      rw [List.length_eq_zero_iff.1 (show (digs 1000000000 z2.natAbs).length=0 by simpa using hb0)] at h1
      exact absurd (Int.natAbs_eq_zero.1 h1.symm) hb
     case s4=>rw [Qjg]; exact ⟨by omega,by omega,by omega⟩
     all_goals simp only [QaI,Qjg] at hz3 hz4 hz6 hz7
     all_goals try simp only [QaI] at hz9 hz10
     all_goals have h5:z5=zOf (zNeg z1 != zNeg z2) (z1.natAbs / z2.natAbs):=(by rw [hz5,Int.natAbs_natCast,Qea,hz3,Qif])
     all_goals have h7:z7=zOf (zNeg z1) (z1.natAbs % z2.natAbs):=(by
      have:=QrY z1 z2
      rw [← h5] at this
      rw [hz7,hz6,Int.one_mul]
      omega)
     all_goals have hm:z7.natAbs<z2.natAbs:=(by rw [h7,Qbn]; exact Nat.mod_lt _ (by omega))
     all_goals have hx:z5 * z2+z7=z1:=(by rw [hz7,hz6,Int.one_mul]; omega)
     all_goals have hZ1:ZB (Int.fdiv z1 z2) (j+1):=ZB.fdiv (by rw [hz1]; exact a3) hb
     all_goals have hZ2:ZB (Int.fmod z1 z2) j':=ZB.fmod (by rw [hz2]; exact b3) hb
     all_goals rw [← hz1,← hz2]
     case s11 =>
      subst hz8
      obtain ⟨e1,e2⟩:=Qj2 hb hx hm (fun h=>by rw [h] at hb1; exact absurd hb1 (by decide)) hb2
      have hk:=QcR (a:=k+1+1+1+3+1) (b:=k+1+(1+(k+1+1+1)+(k'+1))+1+(k'+1)+1) (hz9.trans e1) (hz10.trans e2) hZ1 hZ2
      exact ⟨⟨rfl,hk⟩,⟨rfl,hk⟩⟩
     case m1 =>
      subst hz8
      obtain ⟨e1,e2⟩:=Qj2 hb hx hm (fun h=>by rw [h] at hb1; exact absurd hb1 (by decide)) hb2
      exact QcR (hz9.trans e1) (hz10.trans e2) hZ1 hZ2
     case s12 =>
      obtain ⟨e1,e2⟩:=QiW hb hx hm (.inr hb2)
      have hk:=QcR (a:=k+1+1+1) (b:=k+1+(1+(k+1+1+1)+(k'+1))+1) e1 e2 hZ1 hZ2
      exact ⟨⟨rfl,hk⟩,⟨rfl,hk⟩⟩
     case m2 =>
      obtain ⟨e1,e2⟩:=QiW hb hx hm (.inr hb2)
      exact QcR e1 e2 hZ1 hZ2
     all_goals have h0':z7=0:=(by
      have h1:=Qah 1000000000 (by omega) z7.natAbs
      rw [List.length_eq_zero_iff.1 (show (digs 1000000000 z7.natAbs).length=0 by have:=of_decide_eq_false hb1; omega)] at h1
      exact Int.natAbs_eq_zero.1 h1.symm)
     all_goals obtain ⟨e1,e2⟩:=QiW hb hx hm (.inl h0')
     case s13 =>
      have hk:=QcR (a:=k+1+1+1) (b:=k+1+(1+(k+1+1+1)+(k'+1))+1) e1 e2 hZ1 hZ2
      exact ⟨⟨rfl,hk⟩,⟨rfl,hk⟩⟩
     case m3=>exact QcR e1 e2 hZ1 hZ2
   · cases hs
 · cases hs
def Qts:Spec
 | [x,y]=>match pvR x,pvR y with
  | some ((n,l),k,_),some ((n',l'),k',_)=>some (some (k≤900∧k'≤900),.nm2 Rat Int (Qd8 n l n' l') (QgN n l n' l') fun r e=>.tup [qP r (k+6) (k'+6),.f (.v (.int .i64 e))])
  | _,_=>none
 | _=>none
section
variable {E : Env} (hU : Up E)
include hU
theorem cOneR:Contract Tryz.prog E 215 sOne:=by
 refine Qaf [(63,sOf)] Tryz.ntmps215 Tryz.func215 (by kernel_rfl) (by kernel_rfl) hU ⟨Qly hU,trivial⟩ ?_
 intro xs p r hs hp
 unfold sOne at hs
 split at hs
 · cases hs
   refine ⟨[],[],.nil,rfl,fun hgx hg=>?_⟩
   refine Qag (p:=((-9223372036854775808:Int)≤(1:Int)∧(1:Int)≤(9223372036854775807:Int))∧∀ (z1:Int),z1=(1:Int)→true=true∧Sub (PV.agg [PV.f (Lf.zn z1),PV.f (Lf.zd z1 3)]) (PV.agg [PV.f (Lf.zn (1:Int)),PV.f (Lf.zd (1:Int) 3)])) ?kr ?_
   case kr=>kernel_rfl
   refine ⟨?s0,fun z1=>fun hz1=>⟨rfl,?m0⟩⟩
   case s0=>decide
   case m0=>subst hz1; exact .refl _
 · cases hs
theorem QsP:Contract Tryz.prog E 137 Ql1:=by
 refine Qaf [(63,sOf)] Tryz.ntmps137 Tryz.func137 (by kernel_rfl) (by kernel_rfl) hU ⟨Qly hU,trivial⟩ ?_
 intro xs p r hs hp
 unfold Ql1 at hs
 split at hs
 · cases hs
   refine ⟨[],[],.nil,rfl,fun hgx hg=>?_⟩
   refine Qag (p:=((-9223372036854775808:Int)≤(0:Int)∧(0:Int)≤(9223372036854775807:Int))∧∀ (z1:Int),z1=(0:Int)→true=true∧Sub (PV.agg [PV.f (Lf.zn z1),PV.f (Lf.zd z1 3)]) (PV.agg [PV.f (Lf.zn (0:Int)),PV.f (Lf.zd (0:Int) 3)])) ?kr ?_
   case kr=>kernel_rfl
   refine ⟨?s0,fun z1=>fun hz1=>⟨rfl,?m0⟩⟩
   case s0=>decide
   case m0=>subst hz1; exact .refl _
 · cases hs
theorem Qsb:Contract Tryz.prog E 135 QkM:=by
 refine Qaf [(215,sOne),(137,Ql1)] Tryz.ntmps135 Tryz.func135 (by kernel_rfl) (by kernel_rfl) hU ⟨cOneR hU,QsP hU,trivial⟩ ?_
 intro xs p r hs hp
 unfold QkM at hs
 split at hs
 · cases hs
   refine ⟨[],[],.nil,rfl,fun hgx hg=>?_⟩
   refine Qag (p:=true=true∧rfS (PV.agg [PV.f (Lf.zn (0:Int)),PV.f (Lf.zd (0:Int) 3),PV.f (Lf.zn (1:Int)),PV.f (Lf.zd (1:Int) 3)])) ?kr ?_
   case kr=>kernel_rfl
   refine ⟨rfl,?m0⟩
   case m0=>exact .refl _
 · cases hs
theorem cOfNR:Contract Tryz.prog E 62 Qts:=by
 refine Qaf [(134,Qil),(135,QkM),(137,Ql1),(136,Qpm),(138,Ql5),(139,Qpk),(140,QtB)] Tryz.ntmps62 Tryz.func62 (by kernel_rfl) (by kernel_rfl) hU ⟨Qr8 hU,Qsb hU,QsP hU,cCmpZ hU,cNegZ hU,cGcdZ hU,cDivZ hU,trivial⟩ ?_
 intro xs p r hs hp
 unfold Qts at hs
 split at hs
 · rename_i x y
   split at hs
   · rename_i n l k j n' l' k' j' hx hy
     cases hs
     obtain ⟨hk,hk'⟩:=hp _ rfl
     refine ⟨[rawP n l k,rawP n' l' k'],[],.cons (QaG hx) (.cons (QaG hy) .nil),rfl,fun hgx hg=>?_⟩
     refine Qag (p:=let A0:=PV.tup [PV.agg [PV.f (Lf.zn (Qd8 n l n' l').num),PV.f (Lf.zd (Qd8 n l n' l').num (k+6)),PV.f (Lf.zn (↑(Qd8 n l n' l').den:Int)),PV.f (Lf.zd (↑(Qd8 n l n' l').den:Int) (k'+6))],PV.f (Lf.v (Value.int IntKind.i64 (QgN n l n' l')))]; let A1:=true=true∧Sub (PV.tup [PV.agg [PV.f (Lf.zn (0:Int)),PV.f (Lf.zd (0:Int) 3),PV.f (Lf.zn (1:Int)),PV.f (Lf.zd (1:Int) 3)],PV.f (Lf.v (Value.int IntKind.i64 (2:Int)))]) A0; let A2:=fun (z1:Int)=>(zV (zNeg z1) (digs 1000000000 z1.natAbs)); let A3:=0+(k+1)+1+(k'+1)+1; let A4:=fun (z3:Int)=>(zV (zNeg z3) (digs 1000000000 z3.natAbs)); k≤1000000∧ifB (!Qak n l) A1 (k'≤1000000∧ifB (!Qak n' l') A1 (k'+3≤100000∧ifB (cmpI (zV n' l') (zV (zNeg (0:Int)) (digs 1000000000 (Int.natAbs (0:Int))))==(0:Int)) (true=true∧Sub (PV.tup [PV.agg [PV.f (Lf.zn (0:Int)),PV.f (Lf.zd (0:Int) 3),PV.f (Lf.zn (1:Int)),PV.f (Lf.zd (1:Int) 3)],PV.f (Lf.v (Value.int IntKind.i64 (9:Int)))]) A0) (k'+3≤100000∧ifB (decide (cmpI (zV n' l') (zV (zNeg (0:Int)) (digs 1000000000 (Int.natAbs (0:Int))))<(0:Int))) (k≤100000∧∀ (z1:Int),z1=-zV n l→k'≤100000∧∀ (z2:Int),z2=-zV n' l'→k+1+2+(k'+1+2+0)≤20000∧∀ (z3:Int),z3=gcd2 (gcd2 (0:Int) (A2 z1)) (zV (zNeg z2) (digs 1000000000 z2.natAbs))→(k+1+A3≤4000∧zV (zNeg z3) (digs 1000000000 z3.natAbs)≠(0:Int))∧∀ (z4:Int),z4=(A2 z1).fdiv (A4 z3)→∀ (z5:Int),z5=(A2 z1).fmod (A4 z3)→(k'+1+A3≤4000∧zV (zNeg z3) (digs 1000000000 z3.natAbs)≠(0:Int))∧∀ (z6:Int),z6=(zV (zNeg z2) (digs 1000000000 z2.natAbs)).fdiv (A4 z3)→∀ (z7:Int),z7=(zV (zNeg z2) (digs 1000000000 z2.natAbs)).fmod (A4 z3)→true=true∧Sub (PV.tup [PV.agg [PV.f (Lf.zn z4),PV.f (Lf.zd z4 (k+1+1)),PV.f (Lf.zn z6),PV.f (Lf.zd z6 (k'+1+1))],PV.f (Lf.v (Value.int IntKind.i64 (0:Int)))]) A0) (k+2+(k'+2+0)≤20000∧∀ (z1:Int),z1=gcd2 (gcd2 (0:Int) (zV n l)) (zV n' l')→(k+A3≤4000∧zV (zNeg z1) (digs 1000000000 z1.natAbs)≠(0:Int))∧∀ (z2:Int),z2=(zV n l).fdiv (A2 z1)→∀ (z3:Int),z3=(zV n l).fmod (A2 z1)→(k'+A3≤4000∧zV (zNeg z1) (digs 1000000000 z1.natAbs)≠(0:Int))∧∀ (z4:Int),z4=(zV n' l').fdiv (A2 z1)→∀ (z5:Int),z5=(zV n' l').fmod (A2 z1)→true=true∧Sub (PV.tup [PV.agg [PV.f (Lf.zn z2),PV.f (Lf.zd z2 (k+1+1)),PV.f (Lf.zn z4),PV.f (Lf.zd z4 (k'+1+1))],PV.f (Lf.v (Value.int IntKind.i64 (0:Int)))]) A0))))) ?kr ?_
     case kr=>kernel_rfl
     conv=>zeta
     refine ⟨?s0,Qae.2 ⟨fun hb0=>⟨rfl,?m0⟩,fun hb0=>⟨?s1,Qae.2 ⟨fun hb1=>⟨rfl,?m1⟩,fun hb1=>⟨?s2,Qae.2 ⟨fun hb2=>⟨rfl,?m2⟩,fun hb2=>⟨?s3,Qae.2 ⟨fun hb3=>⟨?s4,fun z1=>fun hz1=>⟨?s5,fun z2=>fun hz2=>⟨?s6,fun z3=>fun hz3=>⟨?s7,fun z4=>fun hz4=>fun z5=>fun hz5=>⟨?s8,fun z6=>fun hz6=>fun z7=>fun hz7=>⟨rfl,?m3⟩⟩⟩⟩⟩⟩,fun hb3=>⟨?s9,fun z1=>fun hz1=>⟨?s10,fun z2=>fun hz2=>fun z3=>fun hz3=>⟨?s11,fun z4=>fun hz4=>fun z5=>fun hz5=>⟨rfl,?m4⟩⟩⟩⟩⟩⟩⟩⟩⟩⟩⟩⟩
     all_goals (try simp only [Bool.not_eq_true',Bool.not_eq_false',Qf9,QaI,Qf2,decide_eq_true_eq,decide_eq_false_iff_not] at *)
     all_goals first | omega | skip
     case m0 =>
      have e1:Qd8 n l n' l'=0:=by unfold Qd8; rw [hb0]; rfl
      have e2:QgN n l n' l'=2:=by unfold QgN; rw [hb0]; rfl
      rw [e1,e2]
      exact Qeu (.zd rfl (by omega) (.zd rfl (by omega) .nil))
     case m1 =>
      have e1:Qd8 n l n' l'=0:=by unfold Qd8; rw [hb0,hb1]; rfl
      have e2:QgN n l n' l'=2:=by unfold QgN; rw [hb0,hb1]; rfl
      rw [e1,e2]
      exact Qeu (.zd rfl (by omega) (.zd rfl (by omega) .nil))
     case m2 =>
      have e1:Qd8 n l n' l'=0:=by unfold Qd8; rw [hb0,hb1,hb2]; exact Rat.divInt_zero _
      have e2:QgN n l n' l'=9:=by unfold QgN; rw [hb0,hb1]; exact if_pos hb2
      rw [e1,e2]
      exact Qeu (.zd rfl (by omega) (.zd rfl (by omega) .nil))
     all_goals have e1:Qd8 n l n' l'=Rat.divInt (zV n l) (zV n' l'):=(by unfold Qd8; rw [hb0,hb1]; rfl)
     all_goals have e2:QgN n l n' l'=0:=(by unfold QgN; rw [hb0,hb1]; exact if_neg hb2)
     case s7=>exact ⟨by omega,by have:=Qcr (y:=z1) (x:=z2) (by omega); omega⟩
     case s8=>exact ⟨by omega,by have:=Qcr (y:=z1) (x:=z2) (by omega); omega⟩
     case s10=>exact ⟨by omega,by have:=Qcr (y:=zV n l) (x:=zV n' l') hb2; omega⟩
     case s11=>exact ⟨by omega,by have:=Qcr (y:=zV n l) (x:=zV n' l') hb2; omega⟩
     all_goals rw [e1,e2]
     case m3 =>
      have hp:zV n' l'<0:=by
       rcases Int.lt_trichotomy (zV n' l') 0 with h | h | h
       · exact h
       · exact absurd h hb2
       · rw [Qce h] at hb3; exact absurd hb3 (by decide)
      have hx0:0<z2:=by omega
      refine Qeu (.zd ?_ (by omega) (.zd ?_ (by omega) .nil))
      · rw [hz4,hz3,QgG hx0,hz1,hz2,Qc1]
      · rw [hz6,hz3,QgH hx0,hz1,hz2,Qc1]
     case m4 =>
      have hp:0<zV n' l':=by
       rcases Int.lt_trichotomy (zV n' l') 0 with h | h | h
       · rw [Qcd h] at hb3; exact absurd (by decide) hb3
       · exact absurd h hb2
       · exact h
      refine Qeu (.zd ?_ (by omega) (.zd ?_ (by omega) .nil))
      · rw [hz2,hz1,QgG hp]
      · rw [hz4,hz1,QgH hp]
   · cases hs
 · cases hs
end
end Go.Proofs.YtmbmbcamecfnkaaGreatDoor
