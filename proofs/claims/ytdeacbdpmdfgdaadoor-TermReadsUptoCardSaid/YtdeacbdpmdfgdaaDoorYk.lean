/- The reference: a term's text; the term of any text. -/
import Derived.Test.YtdeacbdpmdfgdaaDoorYj
import Derived.Test.YtdeacbdpmdfgdaaDoorYd
set_option linter.unusedSimpArgs false
namespace Go.Proofs.YtdeacbdpmdfgdaaDoor
open Go.RowKit
set_option linter.unusedVariables false
set_option maxRecDepth 100000
theorem bA_app (a b:List UInt8):bA a++bA b=bA (a++b):=by
 apply ByteArray.ext
 rw [ByteArray.data_append]
 exact List.append_toArray a b
def kA (t:Tw):List UInt8:=Lib.decDigits t.kind.toNat++32::(Lib.decDigits t.name.size++58::(t.name.data.toList++[32]))
def kB (t:Tw):List UInt8:=kA t++if t.neg=true then [45] else []
def kC (t:Tw) (i:Nat):List UInt8:=kB t++digsC (t.digits.take i)
def kD (t:Tw) (i:Nat):List UInt8:=kC t t.digits.length++32::(Lib.decDigits t.kids.length++59::keyBL (t.kids.take i))
theorem kD_all (t:Tw):kD t t.kids.length=keyB t:=by
 rw [kD,kC,kB,kA,List.take_length,List.take_length,keyB_eq]
 simp only [List.append_assoc,List.cons_append,List.nil_append]
theorem kC_next {t:Tw} {i:Nat} (h:i<t.digits.length):kC t (i+1)=kC t i++(Lib.decDigits (t.digits.getD i 0)++[46]):=by
 rw [kC,kC,List.take_add_one,List.getElem?_eq_getElem h,Option.toList_some,digsC_app,List.getD_eq_getElem?_getD,List.getElem?_eq_getElem h,List.append_assoc]
 rfl
theorem kD_next {t:Tw} {i:Nat} (h:i<t.kids.length):kD t (i+1)=kD t i++keyB (t.kids.getD i Sh.tm.nil):=by
 rw [kD,kD,List.take_add_one,List.getElem?_eq_getElem h,Option.toList_some,keyBL_app,List.getD_eq_getElem?_getD,List.getElem?_eq_getElem h,List.append_assoc,List.cons_append,List.append_assoc,List.cons_append]
 simp only [keyBL,List.append_nil]
 rfl
theorem kD_le (t:Tw) (i:Nat):(kD t i).length≤(keyB t).length:=by
 have h:=keyBL_take (l:=t.kids) i
 rw [← kD_all,kD,kD]
 simp only [List.length_append,List.length_cons,List.take_length]
 omega
theorem kC_le (t:Tw) (i:Nat):(kC t i).length+2≤(keyB t).length:=by
 have h:=digsC_take (l:=t.digits) i
 rw [← kD_all,kD,kC,kC]
 simp only [List.length_append,List.length_cons,List.take_length]
 omega
theorem bs_1 (x:UInt8):(ByteArray.mk #[x]).size=1:=rfl
theorem numS_size {n:Nat} (h:n≤9000000000000000000):(numS n).size≤19:=by
 have h1:=dec_len 18 n (by omega)
 exact h1
theorem kA_eq (t:Tw):numS t.kind.toNat++ByteArray.mk #[(32:UInt8)]++numS t.name.size++ByteArray.mk #[(58:UInt8)]++t.name++ByteArray.mk #[(32:UInt8)]=bA (kA t):=by
 show bA _++bA [32]++bA _++bA [58]++bA t.name.data.toList++bA [32]=_
 simp only [bA_app]
 apply congrArg
 simp [kA]
theorem kB_t {t:Tw} (h:t.neg=true):numS t.kind.toNat++ByteArray.mk #[(32:UInt8)]++numS t.name.size++ByteArray.mk #[(58:UInt8)]++t.name++ByteArray.mk #[(32:UInt8)]++ByteArray.mk #[(45:UInt8)]=bA (kB t):=by
 rw [kA_eq,kB,if_pos h]
 exact bA_app _ [45]
theorem kB_f {t:Tw} (h:t.neg=false):numS t.kind.toNat++ByteArray.mk #[(32:UInt8)]++numS t.name.size++ByteArray.mk #[(58:UInt8)]++t.name++ByteArray.mk #[(32:UInt8)]=bA (kB t):=by
 rw [kA_eq,kB,h]
 simp
theorem kC_go {t:Tw} {i:Nat} (h:i<t.digits.length):bA (kC t i)++numS (t.digits.getD i 0)++ByteArray.mk #[(46:UInt8)]=bA (kC t (i+1)):=by
 show bA _++bA _++bA [46]=_
 rw [bA_app,bA_app,kC_next h,List.append_assoc]
theorem kD_zero (t:Tw):bA (kC t t.digits.length)++ByteArray.mk #[(32:UInt8)]++numS t.kids.length++ByteArray.mk #[(59:UInt8)]=bA (kD t 0):=by
 show bA _++bA [32]++bA _++bA [59]=_
 simp only [bA_app]
 apply congrArg
 simp [kD,keyBL]
theorem kD_go {t:Tw} {i:Nat} (h:i<t.kids.length):bA (kD t i)++bA (keyB (t.kids.getD i Sh.tm.nil))=bA (kD t (i+1)):=by
 rw [bA_app,kD_next h]
theorem kid_le {t:Tw} {i:Nat} (h:i<t.kids.length):(kD t i).length+(keyB (t.kids.getD i Sh.tm.nil)).length≤(keyB t).length:=by
 have h1:=kD_le t (i+1)
 rw [kD_next h,List.length_append] at h1
 exact h1
theorem name_le (t:Tw):t.name.size≤(keyB t).length:=by
 have h:=sz_list t.name
 rw [keyB_eq]
 simp only [List.length_append,List.length_cons]
 omega
def sKeyRN (n:Nat):Spec
 | [x]=>match tmOf x with
  | some t=>some (some (t.size<n∧kindR t∧t.fitT∧(keyB t).length≤140737488355328),.one (sV (bA (keyB t))))
  | none=>none
 | _=>none
set_option maxHeartbeats 4000000 in
theorem cKeyRN {E:Env} (hU:Up E) (hT:∀ K w H,E K w H→Tab w):∀ n,Contract Tryd.prog E 46 (sKeyRN n)
 | 0=>by
  intro xs p r hs hp
  unfold sKeyRN at hs
  split at hs
  · split at hs
    · cases hs
      exact absurd (hp _ rfl).1 (Nat.not_lt_zero _)
    · cases hs
  · cases hs
 | n+1=>by
  refine contract_D [(59,sItoa),(46,sKeyRN n)] [] Tryd.ntmps46 Tryd.func46 (by kernel_rfl) (by kernel_rfl) hU ⟨cItoa hT,cKeyRN hU hT n,trivial⟩ trivial ?_
  intro xs p r hs hp
  unfold sKeyRN at hs
  split at hs
  · rename_i x
    split at hs
    · rename_i t ht
      cases hs
      obtain ⟨hn,hk,hf,hl⟩:=hp _ rfl
      refine ⟨[tmP t],[
       (1000004,.s ⟨Unit,fun _=>⟨[(1,.bp 0 0),(3,sV (bA (kB t)))],[.cells [.f (.v (.int .u8 t.kind)),sV t.name,bV t.neg,.f (.lr t.digits t.digits.length),.f (.dt .tm t.kids)]]⟩,fun _=>True,fun _=>0⟩),
       (5,.s ⟨Nat,fun i=>⟨[(1,.bp 0 0),(3,sV (bA (kC t i))),(4,iV i)],[.cells [.f (.v (.int .u8 t.kind)),sV t.name,bV t.neg,.f (.lr t.digits t.digits.length),.f (.dt .tm t.kids)]]⟩,fun i=>i≤t.digits.length,fun i=>t.digits.length - i⟩),
       (10,.s ⟨Nat,fun i=>⟨[(1,.bp 0 0),(3,sV (bA (kD t i))),(5,iV i)],[.cells [.f (.v (.int .u8 t.kind)),sV t.name,bV t.neg,.f (.lr t.digits t.digits.length),.f (.dt .tm t.kids)]]⟩,fun i=>i≤t.kids.length,fun i=>t.kids.length - i⟩)],.cons (tm_sub ht).sub .nil,rfl,fun _ hsh=>?_⟩
      have h0:=hn
      refine cast_rfl (p:=((0:Int)≤IntKind.i64.wrap t.kind∧IntKind.i64.wrap t.kind≤(9223372036854775807:Int))∧(↑((numS (IntKind.i64.wrap t.kind).toNat).size+1):Int)≤IntKind.i64.max∧((0:Int)≤(↑t.name.size:Int)∧(↑t.name.size:Int)≤(9223372036854775807:Int))∧(↑((numS (IntKind.i64.wrap t.kind).toNat++ByteArray.mk #[(32:UInt8)]).size+(numS (↑t.name.size:Int).toNat).size):Int)≤IntKind.i64.max∧(↑((numS (IntKind.i64.wrap t.kind).toNat++ByteArray.mk #[(32:UInt8)]++numS (↑t.name.size:Int).toNat).size+1):Int)≤IntKind.i64.max∧(↑((numS (IntKind.i64.wrap t.kind).toNat++ByteArray.mk #[(32:UInt8)]++numS (↑t.name.size:Int).toNat++ByteArray.mk #[(58:UInt8)]).size+t.name.size):Int)≤IntKind.i64.max∧(↑((numS (IntKind.i64.wrap t.kind).toNat++ByteArray.mk #[(32:UInt8)]++numS (↑t.name.size:Int).toNat++ByteArray.mk #[(58:UInt8)]++t.name).size+1):Int)≤IntKind.i64.max∧ifB t.neg ((↑((numS (IntKind.i64.wrap t.kind).toNat++ByteArray.mk #[(32:UInt8)]++numS (↑t.name.size:Int).toNat++ByteArray.mk #[(58:UInt8)]++t.name++ByteArray.mk #[(32:UInt8)]).size+1):Int)≤IntKind.i64.max∧∃ (x1:Unit),(((SubB (PV.f (Lf.v (Value.int IntKind.u8 t.kind))) (PV.f (Lf.v (Value.int IntKind.u8 t.kind)))∧SubB (sV t.name) (sV t.name)∧SubB (bV t.neg) (bV t.neg)∧SubB (PV.f (Lf.lr t.digits t.digits.length)) (PV.f (Lf.lr t.digits t.digits.length))∧SubB (PV.f (Lf.dt Sh.tm t.kids)) (PV.f (Lf.dt Sh.tm t.kids))∧True)∧True)∧SubB (PV.bp 0 0) (PV.bp 0 0)∧SubB (sV (numS (IntKind.i64.wrap t.kind).toNat++ByteArray.mk #[(32:UInt8)]++numS (↑t.name.size:Int).toNat++ByteArray.mk #[(58:UInt8)]++t.name++ByteArray.mk #[(32:UInt8)]++ByteArray.mk #[(45:UInt8)])) (sV (bA (kB t)))∧True)∧True) (∃ (x1:Unit),(((SubB (PV.f (Lf.v (Value.int IntKind.u8 t.kind))) (PV.f (Lf.v (Value.int IntKind.u8 t.kind)))∧SubB (sV t.name) (sV t.name)∧SubB (bV t.neg) (bV t.neg)∧SubB (PV.f (Lf.lr t.digits t.digits.length)) (PV.f (Lf.lr t.digits t.digits.length))∧SubB (PV.f (Lf.dt Sh.tm t.kids)) (PV.f (Lf.dt Sh.tm t.kids))∧True)∧True)∧SubB (PV.bp 0 0) (PV.bp 0 0)∧SubB (sV (numS (IntKind.i64.wrap t.kind).toNat++ByteArray.mk #[(32:UInt8)]++numS (↑t.name.size:Int).toNat++ByteArray.mk #[(58:UInt8)]++t.name++ByteArray.mk #[(32:UInt8)])) (sV (bA (kB t)))∧True)∧True)∧∀ (z1:Unit),True→∃ (x2:Nat),(((SubB (PV.f (Lf.v (Value.int IntKind.u8 t.kind))) (PV.f (Lf.v (Value.int IntKind.u8 t.kind)))∧SubB (sV t.name) (sV t.name)∧SubB (bV t.neg) (bV t.neg)∧SubB (PV.f (Lf.lr t.digits t.digits.length)) (PV.f (Lf.lr t.digits t.digits.length))∧SubB (PV.f (Lf.dt Sh.tm t.kids)) (PV.f (Lf.dt Sh.tm t.kids))∧True)∧True)∧SubB (PV.bp 0 0) (PV.bp 0 0)∧SubB (sV (bA (kB t))) (sV (bA (kC t x2)))∧SubB (iV 0) (iV (↑x2:Int))∧True)∧x2≤t.digits.length∧True∧∀ (z3:Nat),z3≤t.digits.length→True→ifB (decide ((↑z3:Int)<(↑t.digits.length:Int))) (((0:Int)≤(↑z3:Int)∧(↑z3:Int)<(↑t.digits.length:Int))∧((0:Int)≤IntKind.i64.wrap (↑(t.digits.getD (↑z3:Int).toNat 0):Int)∧IntKind.i64.wrap (↑(t.digits.getD (↑z3:Int).toNat 0):Int)≤(9223372036854775807:Int))∧(↑((bA (kC t z3)).size+(numS (IntKind.i64.wrap (↑(t.digits.getD (↑z3:Int).toNat 0):Int)).toNat).size):Int)≤IntKind.i64.max∧(↑((bA (kC t z3)++numS (IntKind.i64.wrap (↑(t.digits.getD (↑z3:Int).toNat 0):Int)).toNat).size+1):Int)≤IntKind.i64.max∧∃ (x4:Nat),(((SubB (PV.f (Lf.v (Value.int IntKind.u8 t.kind))) (PV.f (Lf.v (Value.int IntKind.u8 t.kind)))∧SubB (sV t.name) (sV t.name)∧SubB (bV t.neg) (bV t.neg)∧SubB (PV.f (Lf.lr t.digits t.digits.length)) (PV.f (Lf.lr t.digits t.digits.length))∧SubB (PV.f (Lf.dt Sh.tm t.kids)) (PV.f (Lf.dt Sh.tm t.kids))∧True)∧True)∧SubB (PV.bp 0 0) (PV.bp 0 0)∧SubB (sV (bA (kC t z3)++numS (IntKind.i64.wrap (↑(t.digits.getD (↑z3:Int).toNat 0):Int)).toNat++ByteArray.mk #[(46:UInt8)])) (sV (bA (kC t x4)))∧SubB (iV (IntKind.i64.wrap ((↑z3:Int)+(1:Int)))) (iV (↑x4:Int))∧True)∧x4≤t.digits.length∧True∧(t.digits.length - x4).succ.le (t.digits.length - z3)) ((↑((bA (kC t z3)).size+1):Int)≤IntKind.i64.max∧((0:Int)≤(↑t.kids.length:Int)∧(↑t.kids.length:Int)≤(9223372036854775807:Int))∧(↑((bA (kC t z3)++ByteArray.mk #[(32:UInt8)]).size+(numS (↑t.kids.length:Int).toNat).size):Int)≤IntKind.i64.max∧(↑((bA (kC t z3)++ByteArray.mk #[(32:UInt8)]++numS (↑t.kids.length:Int).toNat).size+1):Int)≤IntKind.i64.max∧∃ (x4:Nat),(((SubB (PV.f (Lf.v (Value.int IntKind.u8 t.kind))) (PV.f (Lf.v (Value.int IntKind.u8 t.kind)))∧SubB (sV t.name) (sV t.name)∧SubB (bV t.neg) (bV t.neg)∧SubB (PV.f (Lf.lr t.digits t.digits.length)) (PV.f (Lf.lr t.digits t.digits.length))∧SubB (PV.f (Lf.dt Sh.tm t.kids)) (PV.f (Lf.dt Sh.tm t.kids))∧True)∧True)∧SubB (PV.bp 0 0) (PV.bp 0 0)∧SubB (sV (bA (kC t z3)++ByteArray.mk #[(32:UInt8)]++numS (↑t.kids.length:Int).toNat++ByteArray.mk #[(59:UInt8)])) (sV (bA (kD t x4)))∧SubB (iV 0) (iV (↑x4:Int))∧True)∧x4≤t.kids.length∧True∧∀ (z5:Nat),z5≤t.kids.length→True→ifB (decide ((↑z5:Int)<(↑t.kids.length:Int))) (((0:Int)≤(↑z5:Int)∧(↑z5:Int)<(↑t.kids.length:Int))∧((Tw.mk (Tw.kind (t.kids.getD (↑z5:Int).toNat Sh.tm.nil)) (Tw.name (t.kids.getD (↑z5:Int).toNat Sh.tm.nil)) (Tw.neg (t.kids.getD (↑z5:Int).toNat Sh.tm.nil)) (Tw.digits (t.kids.getD (↑z5:Int).toNat Sh.tm.nil)) (Tw.kids (t.kids.getD (↑z5:Int).toNat Sh.tm.nil))).size<n∧kindR (Tw.mk (Tw.kind (t.kids.getD (↑z5:Int).toNat Sh.tm.nil)) (Tw.name (t.kids.getD (↑z5:Int).toNat Sh.tm.nil)) (Tw.neg (t.kids.getD (↑z5:Int).toNat Sh.tm.nil)) (Tw.digits (t.kids.getD (↑z5:Int).toNat Sh.tm.nil)) (Tw.kids (t.kids.getD (↑z5:Int).toNat Sh.tm.nil)))∧(Tw.mk (Tw.kind (t.kids.getD (↑z5:Int).toNat Sh.tm.nil)) (Tw.name (t.kids.getD (↑z5:Int).toNat Sh.tm.nil)) (Tw.neg (t.kids.getD (↑z5:Int).toNat Sh.tm.nil)) (Tw.digits (t.kids.getD (↑z5:Int).toNat Sh.tm.nil)) (Tw.kids (t.kids.getD (↑z5:Int).toNat Sh.tm.nil))).fitT∧(keyB (Tw.mk (Tw.kind (t.kids.getD (↑z5:Int).toNat Sh.tm.nil)) (Tw.name (t.kids.getD (↑z5:Int).toNat Sh.tm.nil)) (Tw.neg (t.kids.getD (↑z5:Int).toNat Sh.tm.nil)) (Tw.digits (t.kids.getD (↑z5:Int).toNat Sh.tm.nil)) (Tw.kids (t.kids.getD (↑z5:Int).toNat Sh.tm.nil)))).length≤140737488355328)∧(↑((bA (kD t z5)).size+(bA (keyB (Tw.mk (Tw.kind (t.kids.getD (↑z5:Int).toNat Sh.tm.nil)) (Tw.name (t.kids.getD (↑z5:Int).toNat Sh.tm.nil)) (Tw.neg (t.kids.getD (↑z5:Int).toNat Sh.tm.nil)) (Tw.digits (t.kids.getD (↑z5:Int).toNat Sh.tm.nil)) (Tw.kids (t.kids.getD (↑z5:Int).toNat Sh.tm.nil))))).size):Int)≤IntKind.i64.max∧∃ (x6:Nat),(((SubB (PV.f (Lf.v (Value.int IntKind.u8 t.kind))) (PV.f (Lf.v (Value.int IntKind.u8 t.kind)))∧SubB (sV t.name) (sV t.name)∧SubB (bV t.neg) (bV t.neg)∧SubB (PV.f (Lf.lr t.digits t.digits.length)) (PV.f (Lf.lr t.digits t.digits.length))∧SubB (PV.f (Lf.dt Sh.tm t.kids)) (PV.f (Lf.dt Sh.tm t.kids))∧True)∧True)∧SubB (PV.bp 0 0) (PV.bp 0 0)∧SubB (sV (bA (kD t z5)++bA (keyB (Tw.mk (Tw.kind (t.kids.getD (↑z5:Int).toNat Sh.tm.nil)) (Tw.name (t.kids.getD (↑z5:Int).toNat Sh.tm.nil)) (Tw.neg (t.kids.getD (↑z5:Int).toNat Sh.tm.nil)) (Tw.digits (t.kids.getD (↑z5:Int).toNat Sh.tm.nil)) (Tw.kids (t.kids.getD (↑z5:Int).toNat Sh.tm.nil)))))) (sV (bA (kD t x6)))∧SubB (iV (IntKind.i64.wrap ((↑z5:Int)+(1:Int)))) (iV (↑x6:Int))∧True)∧x6≤t.kids.length∧True∧(t.kids.length - x6).succ.le (t.kids.length - z5)) (true=true∧Sub (sV (bA (kD t z5))) (sV (bA (keyB t)))))) ?kr ?_
      case kr=>kernel_rfl
      refine ⟨?s0,⟨?s1,⟨?s2,⟨?s3,⟨?s4,⟨?s5,⟨?s6,⟨ifB_iff.2 ⟨fun hb0=>⟨?s7,⟨?x0,⟨⟨⟨⟨.refl _,⟨.refl _,⟨.refl _,⟨.refl _,⟨.refl _,trivial⟩⟩⟩⟩⟩,trivial⟩,⟨.refl _,⟨?m0,trivial⟩⟩⟩,trivial⟩⟩⟩,fun hb0=>⟨?x1,⟨⟨⟨⟨.refl _,⟨.refl _,⟨.refl _,⟨.refl _,⟨.refl _,trivial⟩⟩⟩⟩⟩,trivial⟩,⟨.refl _,⟨?m1,trivial⟩⟩⟩,trivial⟩⟩⟩,fun z1=>fun _=>⟨?x2,⟨⟨⟨⟨.refl _,⟨.refl _,⟨.refl _,⟨.refl _,⟨.refl _,trivial⟩⟩⟩⟩⟩,trivial⟩,⟨.refl _,⟨?m2,⟨?m3,trivial⟩⟩⟩⟩,⟨?s8,⟨trivial,fun z3=>fun hq1=>fun _=>ifB_iff.2 ⟨fun hb2=>⟨?s9,⟨?s10,⟨?s11,⟨?s12,⟨?x3,⟨⟨⟨⟨.refl _,⟨.refl _,⟨.refl _,⟨.refl _,⟨.refl _,trivial⟩⟩⟩⟩⟩,trivial⟩,⟨.refl _,⟨?m4,⟨?m5,trivial⟩⟩⟩⟩,⟨?s13,⟨trivial,?m6⟩⟩⟩⟩⟩⟩⟩⟩,fun hb2=>⟨?s14,⟨?s15,⟨?s16,⟨?s17,⟨?x4,⟨⟨⟨⟨.refl _,⟨.refl _,⟨.refl _,⟨.refl _,⟨.refl _,trivial⟩⟩⟩⟩⟩,trivial⟩,⟨.refl _,⟨?m7,⟨?m8,trivial⟩⟩⟩⟩,⟨?s18,⟨trivial,fun z5=>fun hq3=>fun _=>ifB_iff.2 ⟨fun hb4=>⟨?s19,⟨?s20,⟨?s21,⟨?x5,⟨⟨⟨⟨.refl _,⟨.refl _,⟨.refl _,⟨.refl _,⟨.refl _,trivial⟩⟩⟩⟩⟩,trivial⟩,⟨.refl _,⟨?m9,⟨?m10,trivial⟩⟩⟩⟩,⟨?s22,⟨trivial,?m11⟩⟩⟩⟩⟩⟩⟩,fun hb4=>⟨rfl,?m12⟩⟩⟩⟩⟩⟩⟩⟩⟩⟩⟩⟩⟩⟩⟩⟩⟩⟩⟩⟩⟩⟩⟩
      case x0=>exact ()
      case x1=>exact ()
      case x2=>exact 0
      case x3=>exact z3+1
      case x4=>exact 0
      case x5=>exact z5+1
      all_goals have hk':=(kindR_eq t).1 hk
      all_goals have hf':=(Tw.fitT_eq t).1 hf
      all_goals have hnm:=name_le t
      all_goals have e8:IntKind.i64.wrap t.kind=t.kind:=wJ _ (by omega) (by omega)
      all_goals have emx:IntKind.i64.max=9223372036854775807:=by decide
      all_goals have n1:=numS_size (n:=t.kind.toNat) (by omega)
      all_goals have n2:=numS_size (n:=t.name.size) (by omega)
      all_goals have n3:=numS_size (n:=t.kids.length) (by omega)
      all_goals try simp only [e8,emx,ByteArray.size_append,bs_1,bA_sz,Tw.eta,Int.toNat_natCast,decide_eq_true_eq,decide_eq_false_iff_not,Int.ofNat_lt] at *
      case s0=>omega
      case s1=>omega
      case s2=>omega
      case s3=>omega
      case s4=>omega
      case s5=>omega
      case s6=>omega
      case s7=>omega
      case m0=>exact subB_sv (kB_t hb0)
      case m1=>exact subB_sv (kB_f hb0)
      case m2=>exact subB_sv (by rw [kC,List.take_zero,digsC,List.append_nil])
      case m3=>exact .refl _
      case s8=>exact Nat.zero_le _
      case m8=>exact .refl _
      case s18=>exact Nat.zero_le _
      all_goals have q3:=kC_le t z3
      case s9=>exact ⟨by omega,by assumption⟩
      case s14=>omega
      case s15=>omega
      case s16=>omega
      case s17=>omega
      case m7 =>
       obtain rfl:z3=t.digits.length:=by omega
       exact subB_sv (kD_zero t)
      case s13=>omega
      case m6=>exact (by omega:t.digits.length - (z3+1)<t.digits.length - z3)
      case m5=>exact subB_i (by rw [wJ _ (by omega) (by omega)]; rfl)
      case s10 =>
       have h9:=hk'.1.2 _ (getD_mem0 hb2)
       rw [wJ _ (by omega) (by omega)]; omega
      case s11 =>
       have h9:=hk'.1.2 _ (getD_mem0 hb2)
       rw [wJ _ (by omega) (by omega),Int.toNat_natCast]
       have h10:=numS_size (n:=t.digits.getD z3 0) (by omega)
       omega
      case s12 =>
       have h9:=hk'.1.2 _ (getD_mem0 hb2)
       rw [wJ _ (by omega) (by omega),Int.toNat_natCast]
       have h10:=numS_size (n:=t.digits.getD z3 0) (by omega)
       omega
      case m4 =>
       have h9:=hk'.1.2 _ (getD_mem0 hb2)
       rw [wJ _ (by omega) (by omega),Int.toNat_natCast]
       exact subB_sv (kC_go hb2)
      case s19=>exact ⟨by omega,by assumption⟩
      case s20 =>
       have hm:t.kids.getD z5 Sh.tm.nil∈t.kids:=by
        rw [List.getD_eq_getElem?_getD,List.getElem?_eq_getElem hb4]; exact List.getElem_mem hb4
       have h8:=kid_le hb4
       have h9:=szL_in hm
       have h10:=t.size_eq
       exact ⟨by omega,kindRL_mem hk'.2 hm,fitTL_at _ hf'.2.2.2 hb4,by omega⟩
      case s21 =>
       have h8:=kid_le hb4
       omega
      case m9=>exact subB_sv (kD_go hb4)
      case m10=>exact subB_i (by rw [wJ _ (by omega) (by omega)]; rfl)
      case s22=>omega
      case m11=>exact (by omega:t.kids.length - (z5+1)<t.kids.length - z5)
      case m12 =>
       obtain rfl:z5=t.kids.length:=by omega
       exact (subB_sv (by rw [kD_all])).sub
    · cases hs
  · cases hs
def sKeyR:Spec
 | [x]=>match tmOf x with
  | some t=>some (some (kindR t∧t.fitT∧(keyB t).length≤140737488355328),.one (sV (bA (keyB t))))
  | none=>none
 | _=>none
theorem cKeyR {E:Env} (hU:Up E) (hT:∀ K w H,E K w H→Tab w):Contract Tryd.prog E 46 sKeyR:=by
 intro xs p r hs hp
 unfold sKeyR at hs
 split at hs
 · rename_i x
   split at hs
   · rename_i t ht
     cases hs
     refine cKeyRN hU hT (t.size+1) [x] (some (t.size<t.size+1∧kindR t∧t.fitT∧(keyB t).length≤140737488355328)) (.one (sV (bA (keyB t)))) ?_ fun q hq=>by cases hq; exact ⟨Nat.lt_succ_self _,hp _ rfl⟩
     unfold sKeyRN
     dsimp only
     rw [ht]
   · cases hs
 · cases hs
def sRefA:Spec2
 | [.bp 0 0],[.cells [.f (.v (.string s)),.f (.v (.int .i64 a)),.f (.v (.bool b))]] =>
  some (.need (b=false∧(0≤a∧a≤1099511627776)∧s.size≤1073741824) (.nm (Tw × Int × Bool) (refO s.data.toList a) fun z=>.ret (tmP z.1) [.cells [sV s,iV z.2.1,bV z.2.2]]))
 | _,_=>none
theorem cRefA {E:Env} (hU:Up E):Contract2 Tryd.prog E 45 sRefA:=by
 intro xs ob o hs hok
 unfold sRefA at hs
 split at hs
 · rename_i s a b
   cases hs
   exact cRefN hU (msR s.data.toList a+1) [.bp 0 0] _ (.need (b=false∧msR s.data.toList a<msR s.data.toList a+1∧(0≤a∧a≤1099511627776)∧s.size≤1073741824) (.nm (Tw × Int × Bool) (refO s.data.toList a) fun z=>.ret (tmP z.1) [.cells [sV s,iV z.2.1,bV z.2.2]])) rfl ⟨⟨hok.1.1,Nat.lt_succ_self _,hok.1.2⟩,hok.2⟩
 · cases hs
theorem ref_ok {s:List UInt8} {z:Tw × Int × Bool} (hz:z=refO s 0) (hn:s.length≤600000) (hb:z.2.2=false):Wgt z.1 s.length:=by
 subst hz
 have h:=refO_w (s:=s) (Int.le_refl 0)
 have h1:(refO s 0).2.1≤lnR s:=refT_ok s _ 0 hb
 unfold lnR at h1
 exact ⟨h.kind,by have:=h.len; omega⟩
theorem ref_yes {s:List UInt8} {z:Tw × Int × Bool} (hz:z=refO s 0) (hn:s.length≤600000) (hb:z.2.2=false) (hk:keyB z.1=s):rdE s=.ok z.1:=by
 have h:=ref_ok hz hn hb
 have h1:=h.len
 have h2:=key_rd h.kind (fit_of z.1 (by omega)).2
 rw [hk] at h2
 exact rdE_ok h2
theorem ref_no {s:List UInt8} {z:Tw × Int × Bool} (hz:z=refO s 0) (h:z.2.2=true∨keyB z.1≠s):rdE s=.error 4:=by
 cases hr:rdO s with
 | none=>exact rdE_no hr
 | some p =>
  obtain ⟨t,r⟩:=p
  by_cases hc:r=[]
  · subst hc
    obtain ⟨e,hk⟩:=rdO_is hr
    rw [List.append_nil] at e
    subst e
    obtain ⟨b,hb⟩:=key_ref hk
    rw [hb] at hz
    subst hz
    exact h.elim (fun h=>by cases h) (fun h=>absurd rfl h)
  · exact rdE_not hr hc
def sOfR:Spec
 | [.f (.v (.string s))]=>some (some (s.size≤600000),.nm (Except Int Tw) (rdE s.data.toList) fun z=>.tup [tmP (valE Sh.tm.nil z),bV (errE z==0)])
 | _=>none
theorem cOfR {E:Env} (hU:Up E) (hT:∀ K w H,E K w H→Tab w):Contract Tryd.prog E 14 sOfR:=by
 refine contract_D [(46,sKeyR)] [(45,sRefA)] Tryd.ntmps14 Tryd.func14 (by kernel_rfl) (by kernel_rfl) hU ⟨cKeyR hU hT,trivial⟩ ⟨cRefA hU,trivial⟩ ?_
 intro xs p r hs hp
 unfold sOfR at hs
 split at hs
 · rename_i s
   cases hs
   have hsz:=hp _ rfl
   refine ⟨[.f (.v (.string s))],[],.cons (.refl _) .nil,rfl,fun _ hsh=>?_⟩
   have h0:=hsz
   refine cast_rfl (p:=(false=false∧((0:Int)≤(0:Int)∧(0:Int)≤(1099511627776:Int))∧s.size≤1073741824)∧∀ (z1:Tw × Int × Bool),z1=refO s.data.toList (0:Int)→ifB z1.snd.snd (true=true∧Sub (PV.tup [PV.agg [PV.f (Lf.v (Value.int IntKind.u8 0)),sV (ByteArray.mk #[]),bV false,PV.f (Lf.v (Value.slice none 0 0)),PV.f (Lf.v (Value.slice none 0 0))],bV false]) (PV.tup [PV.agg (wrapF (tmC (valE Sh.tm.nil (rdE s.data.toList)))),bV (errE (rdE s.data.toList)==(0:Int))])) ((kindR (Tw.mk z1.fst.kind z1.fst.name z1.fst.neg z1.fst.digits z1.fst.kids)∧(Tw.mk z1.fst.kind z1.fst.name z1.fst.neg z1.fst.digits z1.fst.kids).fitT∧(keyB (Tw.mk z1.fst.kind z1.fst.name z1.fst.neg z1.fst.digits z1.fst.kids)).length≤140737488355328)∧ifB (!(bA (keyB (Tw.mk z1.fst.kind z1.fst.name z1.fst.neg z1.fst.digits z1.fst.kids))).toList==s.toList) (true=true∧Sub (PV.tup [PV.agg [PV.f (Lf.v (Value.int IntKind.u8 0)),sV (ByteArray.mk #[]),bV false,PV.f (Lf.v (Value.slice none 0 0)),PV.f (Lf.v (Value.slice none 0 0))],bV false]) (PV.tup [PV.agg (wrapF (tmC (valE Sh.tm.nil (rdE s.data.toList)))),bV (errE (rdE s.data.toList)==(0:Int))])) (true=true∧Sub (PV.tup [PV.agg (wrapF (tmC z1.fst)),bV true]) (PV.tup [PV.agg (wrapF (tmC (valE Sh.tm.nil (rdE s.data.toList)))),bV (errE (rdE s.data.toList)==(0:Int))])))) ?kr ?_
   case kr=>kernel_rfl
   refine ⟨?s0,fun z1=>fun hz1=>ifB_iff.2 ⟨fun hb0=>⟨rfl,?m0⟩,fun hb0=>⟨?s1,ifB_iff.2 ⟨fun hb1=>⟨rfl,?m1⟩,fun hb1=>⟨rfl,?m2⟩⟩⟩⟩⟩
   all_goals have hzs:=sz_list s
   case s0=>exact ⟨rfl,⟨by omega,by omega⟩,by omega⟩
   case m0 =>
    rw [ref_no hz1 (.inl hb0)]
    exact (tupBs (.cons (tm_sub (t:=Sh.tm.nil) rfl) (.cons (.refl _) .nil))).sub
   all_goals rw [Tw.eta] at *
   all_goals have hw:=ref_ok hz1 (by omega) hb0
   all_goals have hl:=hw.len
   case s1=>exact ⟨hw.kind,(fit_of z1.1 (by omega)).1,by omega⟩
   all_goals simp only [bs_l,Bool.not_eq_true',Bool.not_eq_false',decide_eq_true_eq,decide_eq_false_iff_not] at hb1
   case m1 =>
    rw [ref_no hz1 (.inr fun e=>hb1 (by rw [e]; rfl))]
    exact (tupBs (.cons (tm_sub (t:=Sh.tm.nil) rfl) (.cons (.refl _) .nil))).sub
   case m2 =>
    rw [ref_yes hz1 (by omega) hb0 (by rw [← hb1]; rfl)]
    exact (tupBs (.cons (.refl (tmP z1.1)) (.cons (.refl (bV true)) .nil))).sub
 · cases hs
end Go.Proofs.YtdeacbdpmdfgdaaDoor
