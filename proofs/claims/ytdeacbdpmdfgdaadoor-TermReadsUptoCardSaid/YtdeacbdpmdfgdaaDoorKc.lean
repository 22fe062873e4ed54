/- A term's text: what the writer writes. -/
import Derived.Test.YtdeacbdpmdfgdaaDoorKb
import Derived.Test.YtdeacbdpmdfgdaaDoorKx
import Derived.Test.YtdeacbdpmdfgdaaDoorEz
set_option linter.unusedSimpArgs false
namespace Go.Proofs.YtdeacbdpmdfgdaaDoor
open Go.RowKit
set_option linter.unusedVariables false
set_option maxRecDepth 100000
def numS (n:Nat):ByteArray:=⟨(Lib.decDigits n).toArray⟩
def sItoa:Spec
 | [.f (.v (.int .i64 n))]=>some (some (0≤n∧n≤9223372036854775807),.one (sV (numS n.toNat)))
 | _=>none
theorem cItoa {E:Env} (hT:∀ K w H,E K w H→Tab w):Contract Tryd.prog E 59 sItoa:=by
 intro xs p r hs hp w H vs hfro hE hvs
 unfold sItoa at hs
 split at hs
 · rename_i n
   cases hs
   obtain ⟨h0,h1⟩:=hp _ rfl
   obtain ⟨v0,rfl⟩:∃ v0,vs=[v0]:=by
    match vs,hvs.1 with
    | [v0],_=>exact ⟨v0,rfl⟩
   have q0:=(hvs.2 0 _ _ rfl rfl).val
   subst q0
   refine (Tryd.strconv_Itoa n (by omega) h1 w (hT _ _ _ hE)).mono ?_
   rintro e w' ⟨rfl,k,os,rfl⟩
   have hb:=Lib.below_grow w.heap.size w (Nat.le_refl _) k os
   refine ⟨H,_,rfl,⟨hb,H.le_refl,fun b j v hv=>(hb.cell (p:=⟨b,j,none⟩) (hfro.lt hv)).trans (hfro b j v hv),fun b j v h1 h2=>by rw [h1] at h2; cases h2⟩,?_⟩
   have e:Lib.itoa n=Lib.decDigits n.toNat:=if_neg (by omega)
   rw [e]
   exact .f (.v _ rfl)
 · cases hs
theorem tl_eq {o:Nat} {k:IntKind} {l m:List Int} (h:l=m):SubB (.tl o (.is k l)) (.tl o (.is k m)):=by subst h; exact .refl _
def wsI:List ByteArray→List Int
 | []=>[]
 | s::l=>strI s++wsI l
theorem wsI_snoc (l:List ByteArray) (s:ByteArray):wsI (l++[s])=wsI l++strI s:=by
 induction l with
 | nil=>simp [wsI]
 | cons a l ih=>simp [wsI,ih]
theorem wsI_len_take {l:List ByteArray} {i:Nat} (h:i<l.length):(wsI (l.take i)).length+(l.getD i ⟨#[]⟩).size≤(wsI l).length:=by
 induction l generalizing i with
 | nil=>simp at h
 | cons a l ih =>
  cases i with
  | zero=>simp [wsI,strI_len]
  | succ i =>
   have:=ih (i:=i) (by simpa using h)
   simp only [List.take_succ_cons,wsI,List.length_append,List.getD_cons_succ]
   omega
def bldO (l:List Int):List PO:=[.bld 70 (.tl 1 (.is .u8 l)),.tail 5 1]
def sPutW:Spec2
 | [.bp 0 0,.f x],[.bld T (.tl 1 (.is .u8 l)),.tail e 1]=>match dtOf .str x,Nat.beq T 70 && Nat.beq e 5 with
  | some ws,true=>some (.need (l.length+(wsI ws).length≤140737488355328) (.ret (.tup []) (bldO (l++wsI ws))))
  | _,_=>none
 | _,_=>none
theorem cPutW {E:Env} (hU:Up E):Contract2 Tryd.prog E 58 sPutW:=by
 refine contract2 [] [(84,sWriteS)] Tryd.ntmps58 Tryd.func58 (by kernel_rfl) (by kernel_rfl) hU trivial ⟨cWriteS,trivial⟩ ?_
 intro xs ob o hs hok
 unfold sPutW at hs
 split at hs
 · rename_i x T l e
   split at hs
   · rename_i ws hx hT
     cases hs
     rw [Bool.and_eq_true] at hT
     obtain rfl:=Nat.eq_of_beq_eq_true hT.1
     obtain rfl:=Nat.eq_of_beq_eq_true hT.2
     have hn:=hok.1
     refine ⟨[.bp 0 0,.f (.dt .str ws)],[(1,.s ⟨Nat,fun i=>⟨[(0,.bp 0 0),(6,.f (.dt .str ws)),(7,iV ws.length),(8,iV i)],bldO (l++wsI (ws.take i))⟩,fun i=>i≤ws.length,fun i=>ws.length - i⟩)],.cons (.refl _) (.cons ⟨fun H B v hv=>.f (dtOf_rd hx _ _ hv.rd)⟩ .nil),rfl,fun _ hsh=>?_⟩
     refine cast_rfl (p:=∃ (x1:Nat),((SubB (PV.tl 1 (Lf.is IntKind.u8 l)) (PV.tl 1 (Lf.is IntKind.u8 (l++wsI (List.take x1 ws))))∧True)∧SubB (PV.bp 0 0) (PV.bp 0 0)∧SubB (PV.f (Lf.dt Sh.str ws)) (PV.f (Lf.dt Sh.str ws))∧SubB (iV (↑ws.length:Int)) (iV (↑ws.length:Int))∧SubB (iV 0) (iV (↑x1:Int))∧True)∧x1≤ws.length∧True∧∀ (z2:Nat),z2≤ws.length→True→ifB (decide ((↑z2:Int)<(↑ws.length:Int))) (((0:Int)≤(↑z2:Int)∧(↑z2:Int)<(↑ws.length:Int))∧(l++wsI (List.take z2 ws)).length+ByteArray.size (ws.getD (↑z2:Int).toNat Sh.str.nil)≤140737488355328∧∃ (x3:Nat),((SubB (PV.tl 1 (Lf.is IntKind.u8 (l++wsI (List.take z2 ws)++strI (ws.getD (↑z2:Int).toNat Sh.str.nil)))) (PV.tl 1 (Lf.is IntKind.u8 (l++wsI (List.take x3 ws))))∧True)∧SubB (PV.bp 0 0) (PV.bp 0 0)∧SubB (PV.f (Lf.dt Sh.str ws)) (PV.f (Lf.dt Sh.str ws))∧SubB (iV (↑ws.length:Int)) (iV (↑ws.length:Int))∧SubB (iV (IntKind.i64.wrap ((↑z2:Int)+(1:Int)))) (iV (↑x3:Int))∧True)∧x3≤ws.length∧True∧(ws.length - x3).succ.le (ws.length - z2)) (EndU 2 (Out.need (l.length+(wsI ws).length≤140737488355328) (Out.ret (PV.tup []) (bldO (l++wsI ws)))).fin true (PV.tup []) [PO.bld 70 (PV.tl 1 (Lf.is IntKind.u8 (l++wsI (List.take z2 ws)))),PO.tail 5 1])) ?kr ?_
     case kr=>kernel_rfl
     refine ⟨?x0,⟨⟨⟨?m0,trivial⟩,⟨.refl _,⟨.refl _,⟨.refl _,⟨?m1,trivial⟩⟩⟩⟩⟩,⟨?s0,⟨trivial,fun z2=>fun hq0=>fun _=>ifB_iff.2 ⟨fun hb1=>⟨?s1,⟨?s2,⟨?x1,⟨⟨⟨?m2,trivial⟩,⟨.refl _,⟨.refl _,⟨.refl _,⟨?m3,trivial⟩⟩⟩⟩⟩,⟨?s3,⟨trivial,?m4⟩⟩⟩⟩⟩⟩,fun hb1=>?m5⟩⟩⟩⟩⟩
     case x0=>exact 0
     case x1=>exact z2+1
     all_goals try simp only [Int.toNat_natCast,decide_eq_true_eq,decide_eq_false_iff_not,Int.ofNat_lt] at *
     case m0=>exact tl_eq (by rw [List.take_zero]; exact (List.append_nil l).symm)
     case m1=>exact .refl _
     case s0=>exact Nat.zero_le _
     case m5=>rw [List.take_of_length_le (by omega)]; exact endU_need (endU (ob:=bldO (l++wsI ws)) (r:=[]) rfl (.refl _) rfl rfl rfl)
     all_goals have hz:z2<ws.length:=by omega
     case s1=>omega
     case s2 =>
      have h1:=wsI_len_take hz
      have h2:(ws.getD z2 Sh.str.nil).size=(ws.getD z2 ⟨#[]⟩).size:=rfl
      rw [List.length_append,h2]
      omega
     case m2=>exact tl_eq (by rw [List.take_add_one,List.getElem?_eq_getElem hz,Option.toList_some,wsI_snoc,List.append_assoc,List.getD_eq_getElem?_getD,List.getElem?_eq_getElem hz]; rfl)
     case m3=>exact subB_i (by rw [wJ _ (by omega) (by have:=short_row hsh.2.1; omega)]; rfl)
     case s3=>omega
     case m4=>exact (by omega:ws.length - (z2+1)<ws.length - z2)
   · cases hs
 · cases hs
def w1 (t:Tw):List ByteArray:=[numS t.kind.toNat,⟨#[32]⟩,numS t.name.size,⟨#[58]⟩,t.name,⟨#[32]⟩]
def ngI (t:Tw):List Int:=if t.neg=true then [45] else []
def dgI (l:List Nat):List Int:=(digsC l).map fun b=>(b.toNat:Int)
def w3 (t:Tw):List ByteArray:=[⟨#[32]⟩,numS t.kids.length,⟨#[59]⟩]
def kdI (l:List Tw):List Int:=(keyBL l).map fun b=>(b.toNat:Int)
theorem strI_num (n:Nat):strI (numS n)=(Lib.decDigits n).map fun b=>(b.toNat:Int):=by simp [strI,numS]
theorem keyI_eq (t:Tw):keyI t=wsI (w1 t)++(ngI t++(dgI t.digits++(wsI (w3 t)++kdI t.kids))):=by
 unfold keyI
 rw [keyB_eq]
 simp only [w1,w3,wsI,strI_num,List.map_append,List.map_cons,dgI,kdI,List.append_nil,List.append_assoc]
 unfold ngI
 have h1:(if t.neg=true then [(45:UInt8)] else []).map (fun b=>(b.toNat:Int))=if t.neg=true then [45] else []:=by split <;> rfl
 rw [h1]
 rfl
theorem digsC_app (l m:List Nat):digsC (l++m)=digsC l++digsC m:=by
 induction l with
 | nil=>rfl
 | cons d l ih=>simp only [List.cons_append,digsC,ih,List.append_assoc]
theorem dgI_next {l:List Nat} {i:Nat} (h:i<l.length):dgI (l.take (i+1))=dgI (l.take i)++wsI [numS (l.getD i 0),⟨#[46]⟩]:=by
 rw [List.take_add_one,List.getElem?_eq_getElem h,Option.toList_some,List.getD_eq_getElem?_getD,List.getElem?_eq_getElem h]
 unfold dgI
 rw [digsC_app,List.map_append]
 simp only [wsI,strI_num,digsC,List.map_append,List.map_cons,List.append_nil]
 rfl
theorem keyBL_app (l m:List Tw):keyBL (l++m)=keyBL l++keyBL m:=by
 induction l with
 | nil=>rfl
 | cons d l ih=>simp only [List.cons_append,keyBL,ih,List.append_assoc]
theorem kdI_next {l:List Tw} {i:Nat} (h:i<l.length):kdI (l.take (i+1))=kdI (l.take i)++keyI (l.getD i Sh.tm.nil):=by
 rw [List.take_add_one,List.getElem?_eq_getElem h,Option.toList_some,List.getD_eq_getElem?_getD,List.getElem?_eq_getElem h]
 unfold kdI keyI
 rw [keyBL_app,List.map_append]
 simp only [keyBL,List.append_nil]
 rfl
theorem digsC_take {l:List Nat} (i:Nat):(digsC (l.take i)).length≤(digsC l).length:=by
 conv=>rhs; rw [← List.take_append_drop i l,digsC_app,List.length_append]
 omega
theorem keyBL_take {l:List Tw} (i:Nat):(keyBL (l.take i)).length≤(keyBL l).length:=by
 conv=>rhs; rw [← List.take_append_drop i l,keyBL_app,List.length_append]
 omega
theorem getD_mem0 {l:List Nat} {i:Nat} (h:i<l.length):l.getD i 0∈l:=by
 rw [List.getD_eq_getElem?_getD,List.getElem?_eq_getElem h]; exact List.getElem_mem h
theorem szL_in:∀ {l:List Tw} {a:Tw},a∈l→a.size≤szL l
 | t::l,a,h=>by
  have e:szL (t::l)=t.size+szL l:=rfl
  rcases List.mem_cons.1 h with rfl | h
  · omega
  · have:=szL_in h; omega
theorem keyI_len (t:Tw):(keyI t).length=(keyB t).length:=by simp [keyI]
def sTermN (n:Nat):Spec2
 | [.bp 0 0,x],[.bld T (.tl 1 (.is .u8 l)),.tail e 1]=>match tmOf x,Nat.beq T 70 && Nat.beq e 5 with
  | some t,true=>some (.need (t.size<n∧kindR t∧t.fitT∧l.length+(keyB t).length≤140737488355328) (.ret (.tup []) (bldO (l++keyI t))))
  | _,_=>none
 | _,_=>none
theorem cTermN {E:Env} (hU:Up E) (hT:∀ K w H,E K w H→Tab w):∀ n,Contract2 Tryd.prog E 27 (sTermN n)
 | 0=>by
  intro xs ob o hs hok
  unfold sTermN at hs
  split at hs
  · split at hs
    · cases hs
      exact absurd hok.1.1 (Nat.not_lt_zero _)
    · cases hs
  · cases hs
 | n+1=>by
  refine contract2 [(59,sItoa)] [(58,sPutW),(27,sTermN n)] Tryd.ntmps27 Tryd.func27 (by kernel_rfl) (by kernel_rfl) hU ⟨cItoa hT,trivial⟩ ⟨cPutW hU,cTermN hU hT n,trivial⟩ ?_
  intro xs ob o hs hok
  unfold sTermN at hs
  split at hs
  · rename_i x T l e
    split at hs
    · rename_i t ht hT2
      cases hs
      rw [Bool.and_eq_true] at hT2
      obtain rfl:=Nat.eq_of_beq_eq_true hT2.1
      obtain rfl:=Nat.eq_of_beq_eq_true hT2.2
      obtain ⟨⟨hn,hk,hf,hl⟩,-⟩:=hok
      have f2:=(Tw.fitT_eq t).1 hf
      have k2:=(kindR_eq t).1 hk
      have e2:=keyI_eq t
      have e3:=congrArg List.length e2
      simp only [List.length_append,keyI_len] at e3
      have wk:IntKind.i64.wrap t.kind=t.kind:=wJ _ (by omega) (by omega)
      refine ⟨[.bp 0 0,tmP t],[(1000004,.s ⟨Unit,fun _=>⟨[(0,.bp 0 0),(3,.bp 2 0)],[.bld 70 (.tl 1 (.is .u8 (l++(wsI (w1 t)++ngI t)))),.tail 5 1,.cells (wrapF (tmC t))]⟩,fun _=>True,fun _=>0⟩),
       (5,.s ⟨Nat,fun i=>⟨[(0,.bp 0 0),(3,.bp 2 0),(29,.f (.lr t.digits t.digits.length)),(30,iV t.digits.length),(31,iV i)],[.bld 70 (.tl 1 (.is .u8 (l++(wsI (w1 t)++(ngI t++dgI (t.digits.take i)))))),.tail 5 1,.cells (wrapF (tmC t))]⟩,fun i=>i≤t.digits.length,fun i=>t.digits.length - i⟩),
       (11,.s ⟨Nat,fun i=>⟨[(0,.bp 0 0),(3,.bp 2 0),(50,.f (.dt .tm t.kids)),(51,iV t.kids.length),(52,iV i)],[.bld 70 (.tl 1 (.is .u8 (l++(wsI (w1 t)++(ngI t++(dgI t.digits++(wsI (w3 t)++kdI (t.kids.take i)))))))),.tail 5 1,.cells (wrapF (tmC t))]⟩,fun i=>i≤t.kids.length,fun i=>t.kids.length - i⟩)],.cons (.refl _) (.cons (tm_sub ht) .nil),rfl,fun _ hsh=>?_⟩
      refine cast_rfl (p:=((0:Int)≤IntKind.i64.wrap t.kind∧IntKind.i64.wrap t.kind≤(9223372036854775807:Int))∧((0:Int)≤(↑t.name.size:Int)∧(↑t.name.size:Int)≤(9223372036854775807:Int))∧l.length+(wsI [numS (IntKind.i64.wrap t.kind).toNat,ByteArray.mk #[(32:UInt8)],numS (↑t.name.size:Int).toNat,ByteArray.mk #[(58:UInt8)],t.name,ByteArray.mk #[(32:UInt8)]]).length≤140737488355328∧ifB t.neg ((l++wsI [numS (IntKind.i64.wrap t.kind).toNat,ByteArray.mk #[(32:UInt8)],numS (↑t.name.size:Int).toNat,ByteArray.mk #[(58:UInt8)],t.name,ByteArray.mk #[(32:UInt8)]]).length+1≤140737488355328∧∃ (x1:Unit),((SubB (PV.tl 1 (Lf.is IntKind.u8 (l++wsI [numS (IntKind.i64.wrap t.kind).toNat,ByteArray.mk #[(32:UInt8)],numS (↑t.name.size:Int).toNat,ByteArray.mk #[(58:UInt8)],t.name,ByteArray.mk #[(32:UInt8)]]++wsI [ByteArray.mk #[(45:UInt8)]]))) (PV.tl 1 (Lf.is IntKind.u8 (l++(wsI (w1 t)++ngI t))))∧(SubB (PV.f (Lf.v (Value.int IntKind.u8 t.kind))) (PV.f (Lf.v (Value.int IntKind.u8 t.kind)))∧SubB (sV t.name) (sV t.name)∧SubB (bV t.neg) (bV t.neg)∧SubB (PV.f (Lf.lr t.digits t.digits.length)) (PV.f (Lf.lr t.digits t.digits.length))∧SubB (PV.f (Lf.dt Sh.tm t.kids)) (PV.f (Lf.dt Sh.tm t.kids))∧True)∧True)∧SubB (PV.bp 0 0) (PV.bp 0 0)∧SubB (PV.bp 2 0) (PV.bp 2 0)∧True)∧True) (∃ (x1:Unit),((SubB (PV.tl 1 (Lf.is IntKind.u8 (l++wsI [numS (IntKind.i64.wrap t.kind).toNat,ByteArray.mk #[(32:UInt8)],numS (↑t.name.size:Int).toNat,ByteArray.mk #[(58:UInt8)],t.name,ByteArray.mk #[(32:UInt8)]]))) (PV.tl 1 (Lf.is IntKind.u8 (l++(wsI (w1 t)++ngI t))))∧(SubB (PV.f (Lf.v (Value.int IntKind.u8 t.kind))) (PV.f (Lf.v (Value.int IntKind.u8 t.kind)))∧SubB (sV t.name) (sV t.name)∧SubB (bV t.neg) (bV t.neg)∧SubB (PV.f (Lf.lr t.digits t.digits.length)) (PV.f (Lf.lr t.digits t.digits.length))∧SubB (PV.f (Lf.dt Sh.tm t.kids)) (PV.f (Lf.dt Sh.tm t.kids))∧True)∧True)∧SubB (PV.bp 0 0) (PV.bp 0 0)∧SubB (PV.bp 2 0) (PV.bp 2 0)∧True)∧True)∧∀ (z1:Unit),True→∃ (x2:Nat),((SubB (PV.tl 1 (Lf.is IntKind.u8 (l++(wsI (w1 t)++ngI t)))) (PV.tl 1 (Lf.is IntKind.u8 (l++(wsI (w1 t)++(ngI t++dgI (List.take x2 t.digits))))))∧(SubB (PV.f (Lf.v (Value.int IntKind.u8 t.kind))) (PV.f (Lf.v (Value.int IntKind.u8 t.kind)))∧SubB (sV t.name) (sV t.name)∧SubB (bV t.neg) (bV t.neg)∧SubB (PV.f (Lf.lr t.digits t.digits.length)) (PV.f (Lf.lr t.digits t.digits.length))∧SubB (PV.f (Lf.dt Sh.tm t.kids)) (PV.f (Lf.dt Sh.tm t.kids))∧True)∧True)∧SubB (PV.bp 0 0) (PV.bp 0 0)∧SubB (PV.bp 2 0) (PV.bp 2 0)∧SubB (PV.f (Lf.lr t.digits t.digits.length)) (PV.f (Lf.lr t.digits t.digits.length))∧SubB (iV (↑t.digits.length:Int)) (iV (↑t.digits.length:Int))∧SubB (iV 0) (iV (↑x2:Int))∧True)∧x2≤t.digits.length∧True∧∀ (z3:Nat),z3≤t.digits.length→True→ifB (decide ((↑z3:Int)<(↑t.digits.length:Int))) (((0:Int)≤(↑z3:Int)∧(↑z3:Int)<(↑t.digits.length:Int))∧((0:Int)≤IntKind.i64.wrap (↑(t.digits.getD (↑z3:Int).toNat 0):Int)∧IntKind.i64.wrap (↑(t.digits.getD (↑z3:Int).toNat 0):Int)≤(9223372036854775807:Int))∧(l++(wsI (w1 t)++(ngI t++dgI (List.take z3 t.digits)))).length+(wsI [numS (IntKind.i64.wrap (↑(t.digits.getD (↑z3:Int).toNat 0):Int)).toNat,ByteArray.mk #[(46:UInt8)]]).length≤140737488355328∧∃ (x4:Nat),((SubB (PV.tl 1 (Lf.is IntKind.u8 (l++(wsI (w1 t)++(ngI t++dgI (List.take z3 t.digits)))++wsI [numS (IntKind.i64.wrap (↑(t.digits.getD (↑z3:Int).toNat 0):Int)).toNat,ByteArray.mk #[(46:UInt8)]]))) (PV.tl 1 (Lf.is IntKind.u8 (l++(wsI (w1 t)++(ngI t++dgI (List.take x4 t.digits))))))∧(SubB (PV.f (Lf.v (Value.int IntKind.u8 t.kind))) (PV.f (Lf.v (Value.int IntKind.u8 t.kind)))∧SubB (sV t.name) (sV t.name)∧SubB (bV t.neg) (bV t.neg)∧SubB (PV.f (Lf.lr t.digits t.digits.length)) (PV.f (Lf.lr t.digits t.digits.length))∧SubB (PV.f (Lf.dt Sh.tm t.kids)) (PV.f (Lf.dt Sh.tm t.kids))∧True)∧True)∧SubB (PV.bp 0 0) (PV.bp 0 0)∧SubB (PV.bp 2 0) (PV.bp 2 0)∧SubB (PV.f (Lf.lr t.digits t.digits.length)) (PV.f (Lf.lr t.digits t.digits.length))∧SubB (iV (↑t.digits.length:Int)) (iV (↑t.digits.length:Int))∧SubB (iV (IntKind.i64.wrap ((↑z3:Int)+(1:Int)))) (iV (↑x4:Int))∧True)∧x4≤t.digits.length∧True∧(t.digits.length - x4).succ.le (t.digits.length - z3)) (((0:Int)≤(↑t.kids.length:Int)∧(↑t.kids.length:Int)≤(9223372036854775807:Int))∧(l++(wsI (w1 t)++(ngI t++dgI (List.take z3 t.digits)))).length+(wsI [ByteArray.mk #[(32:UInt8)],numS (↑t.kids.length:Int).toNat,ByteArray.mk #[(59:UInt8)]]).length≤140737488355328∧∃ (x4:Nat),((SubB (PV.tl 1 (Lf.is IntKind.u8 (l++(wsI (w1 t)++(ngI t++dgI (List.take z3 t.digits)))++wsI [ByteArray.mk #[(32:UInt8)],numS (↑t.kids.length:Int).toNat,ByteArray.mk #[(59:UInt8)]]))) (PV.tl 1 (Lf.is IntKind.u8 (l++(wsI (w1 t)++(ngI t++(dgI t.digits++(wsI (w3 t)++kdI (List.take x4 t.kids))))))))∧(SubB (PV.f (Lf.v (Value.int IntKind.u8 t.kind))) (PV.f (Lf.v (Value.int IntKind.u8 t.kind)))∧SubB (sV t.name) (sV t.name)∧SubB (bV t.neg) (bV t.neg)∧SubB (PV.f (Lf.lr t.digits t.digits.length)) (PV.f (Lf.lr t.digits t.digits.length))∧SubB (PV.f (Lf.dt Sh.tm t.kids)) (PV.f (Lf.dt Sh.tm t.kids))∧True)∧True)∧SubB (PV.bp 0 0) (PV.bp 0 0)∧SubB (PV.bp 2 0) (PV.bp 2 0)∧SubB (PV.f (Lf.dt Sh.tm t.kids)) (PV.f (Lf.dt Sh.tm t.kids))∧SubB (iV (↑t.kids.length:Int)) (iV (↑t.kids.length:Int))∧SubB (iV 0) (iV (↑x4:Int))∧True)∧x4≤t.kids.length∧True∧∀ (z5:Nat),z5≤t.kids.length→True→ifB (decide ((↑z5:Int)<(↑t.kids.length:Int))) (((0:Int)≤(↑z5:Int)∧(↑z5:Int)<(↑t.kids.length:Int))∧((Tw.mk (Tw.kind (t.kids.getD (↑z5:Int).toNat Sh.tm.nil)) (Tw.name (t.kids.getD (↑z5:Int).toNat Sh.tm.nil)) (Tw.neg (t.kids.getD (↑z5:Int).toNat Sh.tm.nil)) (Tw.digits (t.kids.getD (↑z5:Int).toNat Sh.tm.nil)) (Tw.kids (t.kids.getD (↑z5:Int).toNat Sh.tm.nil))).size<n∧kindR (Tw.mk (Tw.kind (t.kids.getD (↑z5:Int).toNat Sh.tm.nil)) (Tw.name (t.kids.getD (↑z5:Int).toNat Sh.tm.nil)) (Tw.neg (t.kids.getD (↑z5:Int).toNat Sh.tm.nil)) (Tw.digits (t.kids.getD (↑z5:Int).toNat Sh.tm.nil)) (Tw.kids (t.kids.getD (↑z5:Int).toNat Sh.tm.nil)))∧(Tw.mk (Tw.kind (t.kids.getD (↑z5:Int).toNat Sh.tm.nil)) (Tw.name (t.kids.getD (↑z5:Int).toNat Sh.tm.nil)) (Tw.neg (t.kids.getD (↑z5:Int).toNat Sh.tm.nil)) (Tw.digits (t.kids.getD (↑z5:Int).toNat Sh.tm.nil)) (Tw.kids (t.kids.getD (↑z5:Int).toNat Sh.tm.nil))).fitT∧(l++(wsI (w1 t)++(ngI t++(dgI t.digits++(wsI (w3 t)++kdI (List.take z5 t.kids)))))).length+(keyB (Tw.mk (Tw.kind (t.kids.getD (↑z5:Int).toNat Sh.tm.nil)) (Tw.name (t.kids.getD (↑z5:Int).toNat Sh.tm.nil)) (Tw.neg (t.kids.getD (↑z5:Int).toNat Sh.tm.nil)) (Tw.digits (t.kids.getD (↑z5:Int).toNat Sh.tm.nil)) (Tw.kids (t.kids.getD (↑z5:Int).toNat Sh.tm.nil)))).length≤140737488355328)∧∃ (x6:Nat),((SubB (PV.tl 1 (Lf.is IntKind.u8 (l++(wsI (w1 t)++(ngI t++(dgI t.digits++(wsI (w3 t)++kdI (List.take z5 t.kids)))))++keyI (Tw.mk (Tw.kind (t.kids.getD (↑z5:Int).toNat Sh.tm.nil)) (Tw.name (t.kids.getD (↑z5:Int).toNat Sh.tm.nil)) (Tw.neg (t.kids.getD (↑z5:Int).toNat Sh.tm.nil)) (Tw.digits (t.kids.getD (↑z5:Int).toNat Sh.tm.nil)) (Tw.kids (t.kids.getD (↑z5:Int).toNat Sh.tm.nil)))))) (PV.tl 1 (Lf.is IntKind.u8 (l++(wsI (w1 t)++(ngI t++(dgI t.digits++(wsI (w3 t)++kdI (List.take x6 t.kids))))))))∧(SubB (PV.f (Lf.v (Value.int IntKind.u8 t.kind))) (PV.f (Lf.v (Value.int IntKind.u8 t.kind)))∧SubB (sV t.name) (sV t.name)∧SubB (bV t.neg) (bV t.neg)∧SubB (PV.f (Lf.lr t.digits t.digits.length)) (PV.f (Lf.lr t.digits t.digits.length))∧SubB (PV.f (Lf.dt Sh.tm t.kids)) (PV.f (Lf.dt Sh.tm t.kids))∧True)∧True)∧SubB (PV.bp 0 0) (PV.bp 0 0)∧SubB (PV.bp 2 0) (PV.bp 2 0)∧SubB (PV.f (Lf.dt Sh.tm t.kids)) (PV.f (Lf.dt Sh.tm t.kids))∧SubB (iV (↑t.kids.length:Int)) (iV (↑t.kids.length:Int))∧SubB (iV (IntKind.i64.wrap ((↑z5:Int)+(1:Int)))) (iV (↑x6:Int))∧True)∧x6≤t.kids.length∧True∧(t.kids.length - x6).succ.le (t.kids.length - z5)) (EndU 2 (Out.need (t.size<n+1∧kindR t∧t.fitT∧l.length+(keyB t).length≤140737488355328) (Out.ret (PV.tup []) (bldO (l++keyI t)))).fin true (PV.tup []) [PO.bld 70 (PV.tl 1 (Lf.is IntKind.u8 (l++(wsI (w1 t)++(ngI t++(dgI t.digits++(wsI (w3 t)++kdI (List.take z5 t.kids)))))))),PO.tail 5 1,PO.cells (wrapF (tmC t))]))) ?kr ?_
      case kr=>kernel_rfl
      refine ⟨?s0,⟨?s1,⟨?s2,⟨ifB_iff.2 ⟨fun hb0=>⟨?s3,⟨?x0,⟨⟨⟨?m0,⟨⟨.refl _,⟨.refl _,⟨.refl _,⟨.refl _,⟨.refl _,trivial⟩⟩⟩⟩⟩,trivial⟩⟩,⟨.refl _,⟨.refl _,trivial⟩⟩⟩,trivial⟩⟩⟩,fun hb0=>⟨?x1,⟨⟨⟨?m1,⟨⟨.refl _,⟨.refl _,⟨.refl _,⟨.refl _,⟨.refl _,trivial⟩⟩⟩⟩⟩,trivial⟩⟩,⟨.refl _,⟨.refl _,trivial⟩⟩⟩,trivial⟩⟩⟩,fun z1=>fun _=>⟨?x2,⟨⟨⟨?m2,⟨⟨.refl _,⟨.refl _,⟨.refl _,⟨.refl _,⟨.refl _,trivial⟩⟩⟩⟩⟩,trivial⟩⟩,⟨.refl _,⟨.refl _,⟨.refl _,⟨.refl _,⟨?m3,trivial⟩⟩⟩⟩⟩⟩,⟨?s4,⟨trivial,fun z3=>fun hq1=>fun _=>ifB_iff.2 ⟨fun hb2=>⟨?s5,⟨?s6,⟨?s7,⟨?x3,⟨⟨⟨?m4,⟨⟨.refl _,⟨.refl _,⟨.refl _,⟨.refl _,⟨.refl _,trivial⟩⟩⟩⟩⟩,trivial⟩⟩,⟨.refl _,⟨.refl _,⟨.refl _,⟨.refl _,⟨?m5,trivial⟩⟩⟩⟩⟩⟩,⟨?s8,⟨trivial,?m6⟩⟩⟩⟩⟩⟩⟩,fun hb2=>⟨?s9,⟨?s10,⟨?x4,⟨⟨⟨?m7,⟨⟨.refl _,⟨.refl _,⟨.refl _,⟨.refl _,⟨.refl _,trivial⟩⟩⟩⟩⟩,trivial⟩⟩,⟨.refl _,⟨.refl _,⟨.refl _,⟨?m8,⟨?m9,trivial⟩⟩⟩⟩⟩⟩,⟨?s11,⟨trivial,fun z5=>fun hq3=>fun _=>ifB_iff.2 ⟨fun hb4=>⟨?s12,⟨?s13,⟨?x5,⟨⟨⟨?m10,⟨⟨.refl _,⟨.refl _,⟨.refl _,⟨.refl _,⟨.refl _,trivial⟩⟩⟩⟩⟩,trivial⟩⟩,⟨.refl _,⟨.refl _,⟨.refl _,⟨.refl _,⟨?m11,trivial⟩⟩⟩⟩⟩⟩,⟨?s14,⟨trivial,?m12⟩⟩⟩⟩⟩⟩,fun hb4=>?m13⟩⟩⟩⟩⟩⟩⟩⟩⟩⟩⟩⟩⟩⟩⟩⟩
      case x0=>exact ()
      case x1=>exact ()
      case x2=>exact 0
      case x3=>exact z3+1
      case x4=>exact 0
      case x5=>exact z5+1
      all_goals try simp only [wk,Int.toNat_natCast,decide_eq_true_eq,decide_eq_false_iff_not,Int.ofNat_lt,Tw.eta] at *
      case s0=>omega
      case s1=>omega
      case s2=>show l.length+(wsI (w1 t)).length≤_; omega
      case s3 =>
       have h1:(ngI t).length=1:=by unfold ngI; rw [if_pos hb0]; rfl
       rw [List.length_append]
       show l.length+(wsI (w1 t)).length+1≤_
       omega
      case m0=>exact tl_eq (by unfold ngI; rw [if_pos hb0,List.append_assoc]; rfl)
      case m1=>exact tl_eq (by unfold ngI; rw [if_neg (by rw [hb0]; decide),List.append_nil]; rfl)
      case m2=>exact tl_eq (by rw [List.take_zero]; show _=l++(wsI (w1 t)++(ngI t++[])); rw [List.append_nil])
      case m3=>exact .refl _
      case s4=>exact Nat.zero_le _
      case s5=>omega
      case m8=>exact .refl _
      case m9=>exact .refl _
      case s9=>omega
      case s11=>exact Nat.zero_le _
      case s12=>omega
      case m13 =>
       refine endU_need (endU (ob:=bldO (l++keyI t)) (r:=[.cells (wrapF (tmC t))]) rfl (.refl _) rfl rfl ?_)
       rw [List.take_of_length_le (by omega),← e2]; rfl
      case s13 =>
       have hz:z5<t.kids.length:=by omega
       have hm:t.kids.getD z5 Sh.tm.nil∈t.kids:=by rw [List.getD_eq_getElem?_getD,List.getElem?_eq_getElem hz]; exact List.getElem_mem hz
       have h1:=congrArg List.length (kdI_next hz)
       have h2:=keyBL_take (l:=t.kids) (z5+1)
       simp only [List.length_append,keyI_len,kdI,List.length_map] at h1 e3 ⊢
       have h3:=szL_in hm
       have h4:=t.size_eq
       exact ⟨by omega,kindRL_mem k2.2 hm,fitTL_at _ f2.2.2.2 hz,by omega⟩
      case s14=>omega
      case m10=>exact tl_eq (by rw [kdI_next (by omega)]; simp only [List.append_assoc])
      case m11=>exact subB_i (by rw [wJ _ (by omega) (by omega)]; rfl)
      case m12=>exact (by omega:t.kids.length - (z5+1)<t.kids.length - z5)
      case s10 =>
       rw [List.take_of_length_le (by omega)]
       simp only [List.length_append] at e3 ⊢
       show l.length+((wsI (w1 t)).length+((ngI t).length+(dgI t.digits).length))+(wsI (w3 t)).length≤_
       omega
      case m7=>exact tl_eq (by rw [List.take_of_length_le (by omega),List.take_zero]; show _=l++(wsI (w1 t)++(ngI t++(dgI t.digits++(wsI (w3 t)++[])))); simp only [List.append_assoc,List.append_nil]; rfl)
      all_goals have hz:z3<t.digits.length:=by omega
      all_goals have hd:t.digits.getD z3 0<4294967296:=k2.1.2 _ (getD_mem0 hz)
      all_goals have wd:IntKind.i64.wrap (t.digits.getD z3 0:Int)=(t.digits.getD z3 0:Int):=wJ _ (by omega) (by omega)
      all_goals try simp only [wd,Int.toNat_natCast] at *
      case s6=>omega
      case s7 =>
       have h1:=congrArg List.length (dgI_next hz)
       have h2:=digsC_take (l:=t.digits) (z3+1)
       simp only [List.length_append,dgI,List.length_map] at h1 e3 ⊢
       omega
      case m4=>exact tl_eq (by rw [dgI_next hz]; simp only [List.append_assoc])
      case m5=>exact subB_i (by rw [wJ _ (by omega) (by omega)]; rfl)
      case s8=>omega
      case m6=>exact (by omega:t.digits.length - (z3+1)<t.digits.length - z3)
    · cases hs
  · cases hs
def sTermW:Spec2
 | [.bp 0 0,x],[.bld T (.tl 1 (.is .u8 l)),.tail e 1]=>match tmOf x,Nat.beq T 70 && Nat.beq e 5 with
  | some t,true=>some (.need (kindR t∧t.fitT∧l.length+(keyB t).length≤140737488355328) (.ret (.tup []) (bldO (l++keyI t))))
  | _,_=>none
 | _,_=>none
theorem cTermW {E:Env} (hU:Up E) (hT:∀ K w H,E K w H→Tab w):Contract2 Tryd.prog E 27 sTermW:=by
 intro xs ob o hs hok
 unfold sTermW at hs
 split at hs
 · rename_i x T l e
   split at hs
   · rename_i t ht hT2
     cases hs
     refine cTermN hU hT (t.size+1) [.bp 0 0,x] [.bld T (.tl 1 (.is .u8 l)),.tail e 1] (.need (t.size<t.size+1∧kindR t∧t.fitT∧l.length+(keyB t).length≤140737488355328) (.ret (.tup []) (bldO (l++keyI t)))) ?_ ⟨⟨Nat.lt_succ_self _,hok.1⟩,hok.2⟩
     simp only [sTermN,ht,hT2]
   · cases hs
 · cases hs
end Go.Proofs.YtdeacbdpmdfgdaaDoor
