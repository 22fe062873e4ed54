/- Terms put for names: contracts of what is put, and of Subst. -/
import Derived.Test.YtijfaigpilfpaaaGreatDoorUa
import Derived.Test.YtijfaigpilfpaaaGreatDoorFa
import Derived.Test.YtijfaigpilfpaaaGreatDoorVt
set_option linter.unusedSimpArgs false
namespace Go.Proofs.YtijfaigpilfpaaaGreatDoor
open Go.RowKit
set_option linter.unusedVariables false
set_option maxRecDepth 100000
theorem QfP {n:Nat} {p:Prop} {b:Bool} {X Y:Out} {t:Bool} {x:PV} {ob:List PO} (hb:b=true) (h:EndU n X.fin t x ob):EndU n (Out.need p (Out.br b X Y)).fin t x ob:=by subst hb; exact h
theorem Qeo {n:Nat} {p:Prop} {b:Bool} {X Y:Out} {t:Bool} {x:PV} {ob:List PO} (hb:b=false) (h:EndU n Y.fin t x ob):EndU n (Out.need p (Out.br b X Y)).fin t x ob:=by subst hb; exact h
theorem Qa4 {o:Nat} {x y:Lf} (h:x=y):SubB (.tl o x) (.tl o y):=by subst h; exact .refl _
theorem Qsp {l:List Tw} {i:Nat} (h:i<l.length):Lf.dt Sh.tm (l.take i++[l.getD i Sh.tm.nil])=Lf.dt Sh.tm (l.take (i+1)):=by
 rw [List.take_add_one,List.getElem?_eq_getElem h,List.getD_eq_getElem?_getD,List.getElem?_eq_getElem h]; rfl
theorem QnA {m:List Tw} {i:Nat} (h:i<m.length):szL (m.take i)+(m.getD i Sh.tm.nil).size≤szL m:=by
 rw [QkO h]; exact QeQ m (i+1)
def Qp8:Spec2
 | [.bp 0 0],[.cells [.f (.v (.int .i64 m)),.fn 208 [] [.bp 1 0,.bp 2 0,.bp 3 0]],.cells [.f (.v (.int .i64 n))],.cells [.f (.dt .str l)],.cells [.f (.dt .tm ts)]]=>some (.need (0≤m∧m≤20000) (.br (decide (m+1≤20000)) (.ret (.tup []) [.cells [iV (m+1),.fn 208 [] [.bp 1 0,.bp 2 0,.bp 3 0]],.cells [iV n],.cells [.f (.dt .str l)],.cells [.f (.dt .tm ts)]]) (.pan (eP 34) [.cells [iV (m+1),.fn 208 [] [.bp 1 0,.bp 2 0,.bp 3 0]],.cells [iV n],.cells [.f (.dt .str l)],.cells [.f (.dt .tm ts)]])))
 | _,_=>none
theorem cMore {E:Env} (hU:Up E):Contract2 Tryz.prog E 211 Qp8:=by
 refine contract2 [] [(175,Qhc)] Tryz.ntmps211 Tryz.func211 (by kernel_rfl) (by kernel_rfl) hU trivial ⟨Qku hU,trivial⟩ ?_
 intro xs ob o hs hok
 unfold Qp8 at hs
 split at hs
 · rename_i m n l ts
   cases hs
   obtain ⟨⟨hm0,hm1⟩,-⟩:=hok
   refine ⟨[.bp 0 0],[],.cons (.refl _) .nil,rfl,fun _ hsh=>?_⟩
   have h0:=hm0
   refine Qab (p:=ifB (decide (IntKind.i64.wrap (m+(1:Int))≤(20000:Int))) (EndU 4 (Out.need ((0:Int)≤m∧m≤(20000:Int)) (Out.br (decide (m+(1:Int)≤(20000:Int))) (Out.ret (PV.tup []) [PO.cells [iV (m+(1:Int)),PV.fn 208 [] [PV.bp 1 0,PV.bp 2 0,PV.bp 3 0]],PO.cells [iV n],PO.cells [dP Sh.str l],PO.cells [dP Sh.tm ts]]) (Out.pan (eP (34:Int)) [PO.cells [iV (m+(1:Int)),PV.fn 208 [] [PV.bp 1 0,PV.bp 2 0,PV.bp 3 0]],PO.cells [iV n],PO.cells [dP Sh.str l],PO.cells [dP Sh.tm ts]]))).fin true (PV.tup []) [PO.cells [iV (IntKind.i64.wrap (m+(1:Int))),PV.fn 208 [] [PV.bp 1 0,PV.bp 2 0,PV.bp 3 0]],PO.cells [iV n],PO.cells [dP Sh.str l],PO.cells [dP Sh.tm ts]]) (EndU 4 (Out.need ((0:Int)≤m∧m≤(20000:Int)) (Out.br (decide (m+(1:Int)≤(20000:Int))) (Out.ret (PV.tup []) [PO.cells [iV (m+(1:Int)),PV.fn 208 [] [PV.bp 1 0,PV.bp 2 0,PV.bp 3 0]],PO.cells [iV n],PO.cells [dP Sh.str l],PO.cells [dP Sh.tm ts]]) (Out.pan (eP (34:Int)) [PO.cells [iV (m+(1:Int)),PV.fn 208 [] [PV.bp 1 0,PV.bp 2 0,PV.bp 3 0]],PO.cells [iV n],PO.cells [dP Sh.str l],PO.cells [dP Sh.tm ts]]))).fin false (PV.ifc 36 (iV 34)) [PO.cells [iV (IntKind.i64.wrap (m+(1:Int))),PV.fn 208 [] [PV.bp 1 0,PV.bp 2 0,PV.bp 3 0]],PO.cells [iV n],PO.cells [dP Sh.str l],PO.cells [dP Sh.tm ts]])) ?kr ?_
   case kr=>kernel_rfl
   refine Qaa.2 ⟨fun hb0=>?m0,fun hb0=>?m1⟩
   all_goals rw [wJ _ (by omega) (by omega)] at hb0 ⊢
   case m0=>exact QfP hb0 (endU rfl (.refl _) rfl rfl rfl)
   case m1=>exact Qeo hb0 (endU rfl (.refl _) rfl rfl rfl)
 · cases hs
def Qiv:Spec
 | [x]=>match tmOf x with
  | some t=>some (some t.fitT,.one (.agg [.f (.v (.int .u8 t.kind)),.f (.v (.string t.name)),.f (.v (.bool t.neg)),.f (.lr t.digits t.digits.length),.f (.v (.slice none 0 0))]))
  | none=>none
 | _=>none
theorem Qpx {E:Env} (hU:Up E):Contract Tryz.prog E 212 Qiv:=by
 refine Qac [(256,Qn0)] [] Tryz.ntmps212 Tryz.func212 (by kernel_rfl) (by kernel_rfl) hU ⟨cClone hU,trivial⟩ trivial ?_
 intro xs p r hs hp
 unfold Qiv at hs
 split at hs
 · rename_i x
   split at hs
   · rename_i t ht
     cases hs
     have hf:=hp _ rfl
     refine ⟨[tmP t],[],.cons (QaG ht).sub .nil,rfl,fun _ hsh=>?_⟩
     have f2:=(Tw.fitT_eq t).1 hf
     refine Qab (p:=t.digits.length≤40000000∧true=true∧rfS (PV.agg [uV t.kind,sV t.name,bV t.neg,PV.f (Lf.lr t.digits t.digits.length),nlP])) ?kr ?_
     case kr=>kernel_rfl
     refine ⟨?s0,⟨rfl,?m0⟩⟩
     case s0=>exact f2.2.1
     case m0=>exact .refl _
   · cases hs
 · cases hs
def QnY (N:Nat):Spec2
 | [.bp 0 0,x],[.cells [.f (.v (.int .i64 m)),.fn 208 [] [.bp 1 0,.bp 2 0,.bp 3 0]],.cells [.f (.v (.int .i64 n))],.cells [.f (.dt .str l)],.cells [.f (.dt .tm ts)]]=>match tmOf x with
  | some t=>some (.need (t.size<N∧t.fitT∧0≤m∧m≤20000) (.br (decide (m+t.size≤20000)) (.ret (tmP t) [.cells [iV (m+t.size),.fn 208 [] [.bp 1 0,.bp 2 0,.bp 3 0]],.cells [iV n],.cells [.f (.dt .str l)],.cells [.f (.dt .tm ts)]]) (.pan (eP 34) [.cells [iV 20001,.fn 208 [] [.bp 1 0,.bp 2 0,.bp 3 0]],.cells [iV n],.cells [.f (.dt .str l)],.cells [.f (.dt .tm ts)]])))
  | none=>none
 | _,_=>none
theorem cCopN {E:Env} (hU:Up E):∀ N,Contract2 Tryz.prog E 209 (QnY N)
 | 0=>by
  intro xs ob o hs hok
  unfold QnY at hs
  split at hs
  · split at hs
    · cases hs
      exact absurd hok.1.1 (Nat.not_lt_zero _)
    · cases hs
  · cases hs
 | N+1=>by
  refine contract2 [(212,Qiv)] [(211,Qp8),(209,QnY N)] Tryz.ntmps209 Tryz.func209 (by kernel_rfl) (by kernel_rfl) hU ⟨Qpx hU,trivial⟩ ⟨cMore hU,cCopN hU N,trivial⟩ ?_
  intro xs ob o hs hok
  unfold QnY at hs
  split at hs
  · rename_i x m n l ts
    split at hs
    · rename_i t h1
      cases hs
      obtain ⟨⟨hn,hft,hm0,hm1⟩,-⟩:=hok
      have f2:=(Tw.fitT_eq t).1 hft
      refine ⟨[.bp 0 0,tmP t],[(4,.s ⟨Nat,fun i=>⟨[(0,.bp 0 0),(3,.bp 4 0),(4,.bp 5 0),(5,.bp 6 0),(15,.f (.dt .tm t.kids)),(16,iV t.kids.length),(17,iV i)],[.cells [iV (m+1+szL (t.kids.take i)),.fn 208 [] [.bp 1 0,.bp 2 0,.bp 3 0]],.cells [iV n],.cells [.f (.dt .str l)],.cells [.f (.dt .tm ts)],.cells (Qae (tmC t)),.cells [.f (.v (.int .u8 0)),.f (.v (.string ⟨#[]⟩)),.f (.v (.bool false)),.f (.v (.slice none 0 0)),.f (.v (.slice none 0 0))],.cells [.f (.v (.int .u8 t.kind)),.f (.v (.string t.name)),.f (.v (.bool t.neg)),.f (.lr t.digits t.digits.length),.tl 7 (.dt .tm (t.kids.take i))],.tail 28 5]⟩,fun i=>i≤t.kids.length∧m+1+szL (t.kids.take i)≤20000,fun i=>t.kids.length - i⟩)],.cons (.refl _) (.cons (QaG h1) .nil),rfl,fun _ hsh=>?_⟩
      have h0:=hft
      refine Qab (p:=let A1:=Out.need (t.size<N+1∧t.fitT∧(0:Int)≤m∧m≤(20000:Int)) (Out.br (decide (m+(↑t.size:Int)≤(20000:Int))) (Out.ret (tmP t) [PO.cells [iV (m+(↑t.size:Int)),PV.fn 208 [] [PV.bp 1 0,PV.bp 2 0,PV.bp 3 0]],PO.cells [iV n],PO.cells [dP Sh.str l],PO.cells [dP Sh.tm ts]]) (Out.pan (eP (34:Int)) [PO.cells [iV (20001:Int),PV.fn 208 [] [PV.bp 1 0,PV.bp 2 0,PV.bp 3 0]],PO.cells [iV n],PO.cells [dP Sh.str l],PO.cells [dP Sh.tm ts]])); let A6:=Lf.lr t.digits t.digits.length; let A7:=fun (z2:Nat)=>(List.take z2 t.kids); let A8:=fun (z2:Nat)=>(t.kids.getD (↑z2:Int).toNat Sh.tm.nil); let A9:=rfB (uV t.kind)∧rfB (sV t.name)∧rfB (bV t.neg)∧rfB (PV.f A6)∧rfB (dP Sh.tm t.kids)∧True; let A10:=rfB (uV 0)∧rfB (sV (ByteArray.mk #[]))∧rfB (bV false)∧rfB (nlP)∧rfB (nlP)∧True; let A2:=fun (z2:Nat) (x3:Nat)=>(((SubB (iV (m+(1:Int)+(↑(szL (A7 z2)):Int)+(↑(etaT (A8 z2)).size:Int))) (iV (m+(1:Int)+(↑(szL (List.take x3 t.kids)):Int)))∧rfB (PV.fn 208 [] [PV.bp 1 0,PV.bp 2 0,PV.bp 3 0])∧True)∧(rfB (iV n)∧True)∧(rfB (dP Sh.str l)∧True)∧(rfB (dP Sh.tm ts)∧True)∧A9∧A10∧(rfB (uV t.kind)∧rfB (sV t.name)∧rfB (bV t.neg)∧rfB (PV.f A6)∧SubB (PV.tl 7 (Lf.dt Sh.tm (List.take z2 t.kids++[etaT (etaT (A8 z2))]))) (PV.tl 7 (Lf.dt Sh.tm (List.take x3 t.kids)))∧True)∧True)∧rfB (PV.bp 0 0)∧rfB (PV.bp 4 0)∧rfB (PV.bp 5 0)∧rfB (PV.bp 6 0)∧rfB (dP Sh.tm t.kids)∧rfB (iV (↑t.kids.length:Int))∧SubB (iV (IntKind.i64.wrap ((↑z2:Int)+(1:Int)))) (iV (↑x3:Int))∧True); let A3:=fun (z2:Nat)=>(EndU 4 A1.fin false (PV.ifc 36 (iV 34)) [PO.cells [iV 20001,PV.fn 208 [] [PV.bp 1 0,PV.bp 2 0,PV.bp 3 0]],PO.cells [iV n],PO.cells [dP Sh.str l],PO.cells [dP Sh.tm ts],PO.cells (Qae (tmC t)),PO.cells zTP,PO.cells [uV t.kind,sV t.name,bV t.neg,PV.f A6,PV.tl 7 (Lf.dt Sh.tm (A7 z2))],PO.tail 28 5,PO.cells (Qae (tmC (A8 z2)))]); let A4:=fun (z2:Nat)=>((etaT (A8 z2)).size<N∧(etaT (A8 z2)).fitT∧(0:Int)≤m+(1:Int)+(↑(szL (A7 z2)):Int)∧m+(1:Int)+(↑(szL (A7 z2)):Int)≤(20000:Int)); let A5:=fun (z2:Nat)=>(decide (m+(1:Int)+(↑(szL (A7 z2)):Int)+(↑(etaT (A8 z2)).size:Int)≤(20000:Int))); let A0:=fun (z2:Nat)=>(SameL [PV.any,PV.any,PV.bp 6 4] [PV.any,PV.any,PV.bp 6 4]∧SameL [PV.any,PV.any,PV.bp 6 4] [PV.any,PV.any,PV.bp 6 4]∧((A7 z2).length+1≤9223372036854775807∧((A7 z2).length+1) * 80≤140737488355328)∧SameL [PV.any,PV.any,PV.bp 6 4] [PV.any,PV.any,PV.bp 6 4]∧SameL [PV.any,PV.any,PV.any] [PV.any,PV.any,PV.any]∧∃ (x3:Nat),(A2 z2 x3)∧(x3≤t.kids.length∧m+(1:Int)+(↑(szL (List.take x3 t.kids)):Int)≤(20000:Int))∧True∧(t.kids.length - x3).succ.le (t.kids.length - z2)); ((0:Int)≤m∧m≤(20000:Int))∧ifB (decide (m+(1:Int)≤(20000:Int))) ((etaT t).fitT∧∃ (x1:Nat),(((SubB (iV (m+(1:Int))) (iV (m+(1:Int)+(↑(szL (List.take x1 t.kids)):Int)))∧rfB (PV.fn 208 [] [PV.bp 1 0,PV.bp 2 0,PV.bp 3 0])∧True)∧(rfB (iV n)∧True)∧(rfB (dP Sh.str l)∧True)∧(rfB (dP Sh.tm ts)∧True)∧A9∧A10∧(SubB (uV ((etaT t).kind)) (uV t.kind)∧SubB (sV ((etaT t).name)) (sV t.name)∧SubB (bV ((etaT t).neg)) (bV t.neg)∧SubB (PV.f (Lf.lr (etaT t).digits (etaT t).digits.length)) (PV.f A6)∧Qbg (PV.tl 7 (Lf.dt Sh.tm (List.take x1 t.kids)))∧True)∧True)∧rfB (PV.bp 0 0)∧rfB (PV.bp 4 0)∧rfB (PV.bp 5 0)∧rfB (PV.bp 6 0)∧rfB (dP Sh.tm t.kids)∧rfB (iV (↑t.kids.length:Int))∧SubB (iV 0) (iV (↑x1:Int))∧True)∧(x1≤t.kids.length∧m+(1:Int)+(↑(szL (List.take x1 t.kids)):Int)≤(20000:Int))∧True∧∀ (z2:Nat),z2≤t.kids.length∧m+(1:Int)+(↑(szL (A7 z2)):Int)≤(20000:Int)→True→ifB (decide ((↑z2:Int)<(↑t.kids.length:Int))) (((0:Int)≤(↑z2:Int)∧(↑z2:Int)<(↑t.kids.length:Int))∧SameL [PV.bp 6 4,PV.bp 0 0,PV.bp 6 4] [PV.bp 6 4,PV.bp 0 0,PV.bp 6 4]∧(SameL [PV.any,PV.bp 0 0,PV.bp 6 4] [PV.any,PV.bp 0 0,PV.bp 6 4]∧SameL [PV.any,PV.bp 0 0,PV.bp 6 4] [PV.any,PV.bp 0 0,PV.bp 6 4]∧(A4 z2)∧ifB (A5 z2) (A0 z2) (A3 z2))∧SameL [PV.bp 6 4,PV.bp 0 0,PV.bp 6 4] [PV.bp 6 4,PV.bp 0 0,PV.bp 6 4]∧(SameL [PV.any,PV.bp 0 0,PV.bp 6 4] [PV.any,PV.bp 0 0,PV.bp 6 4]∧(A4 z2)∧ifB (A5 z2) (A0 z2) (A3 z2))∧(A4 z2)∧ifB (A5 z2) (SameL [PV.bp 6 4,PV.any,PV.bp 6 4] [PV.bp 6 4,PV.any,PV.bp 6 4]∧(A0 z2)∧SameL [PV.bp 6 4,PV.any,PV.bp 6 4] [PV.bp 6 4,PV.any,PV.bp 6 4]∧SameL [PV.any,PV.any,PV.bp 6 4] [PV.any,PV.any,PV.bp 6 4]∧((A7 z2).length+1≤9223372036854775807∧((A7 z2).length+1) * 80≤140737488355328)∧SameL [PV.any,PV.any,PV.bp 6 4] [PV.any,PV.any,PV.bp 6 4]∧SameL [PV.any,PV.any,PV.any] [PV.any,PV.any,PV.any]∧∃ (x3:Nat),(A2 z2 x3)∧(x3≤t.kids.length∧m+(1:Int)+(↑(szL (List.take x3 t.kids)):Int)≤(20000:Int))∧True∧(t.kids.length - x3).succ.le (t.kids.length - z2)) (A3 z2)) (EndU 4 A1.fin true (PV.agg [uV t.kind,sV t.name,bV t.neg,PV.f A6,dP Sh.tm (A7 z2)]) [PO.cells [iV (m+(1:Int)+(↑(szL (A7 z2)):Int)),PV.fn 208 [] [PV.bp 1 0,PV.bp 2 0,PV.bp 3 0]],PO.cells [iV n],PO.cells [dP Sh.str l],PO.cells [dP Sh.tm ts],PO.cells (Qae (tmC t)),PO.cells [uV t.kind,sV t.name,bV t.neg,PV.f A6,PV.tl 7 (Lf.dt Sh.tm (A7 z2))],PO.cells [uV t.kind,sV t.name,bV t.neg,PV.f A6,PV.tl 7 (Lf.dt Sh.tm (A7 z2))],PO.tail 28 5])) (EndU 4 A1.fin false (PV.ifc 36 (iV 34)) [PO.cells [iV (m+(1:Int)),PV.fn 208 [] [PV.bp 1 0,PV.bp 2 0,PV.bp 3 0]],PO.cells [iV n],PO.cells [dP Sh.str l],PO.cells [dP Sh.tm ts],PO.cells (Qae (tmC t)),PO.cells zTP])) ?kr ?_
      case kr=>kernel_rfl
      conv=>zeta
      refine ⟨?s0,Qaa.2 ⟨fun hb0=>⟨?s1,⟨?x0,⟨?s2,⟨?s3,⟨trivial,fun z2=>fun hq1=>fun _=>Qaa.2 ⟨fun hb2=>⟨?s4,⟨⟨rfl⟩,⟨⟨⟨rfl⟩,⟨⟨rfl⟩,⟨?s5,Qaa.2 ⟨fun hb3=>⟨⟨rfl⟩,⟨⟨rfl⟩,⟨?s6,⟨⟨rfl⟩,⟨⟨rfl⟩,⟨?x1,⟨⟨⟨⟨?m0,⟨.refl _,trivial⟩⟩,⟨⟨.refl _,trivial⟩,⟨⟨.refl _,trivial⟩,⟨⟨.refl _,trivial⟩,⟨⟨.refl _,⟨.refl _,⟨.refl _,⟨.refl _,⟨.refl _,trivial⟩⟩⟩⟩⟩,⟨⟨.refl _,⟨.refl _,⟨.refl _,⟨.refl _,⟨.refl _,trivial⟩⟩⟩⟩⟩,⟨⟨.refl _,⟨.refl _,⟨.refl _,⟨.refl _,⟨?m1,trivial⟩⟩⟩⟩⟩,trivial⟩⟩⟩⟩⟩⟩⟩,⟨.refl _,⟨.refl _,⟨.refl _,⟨.refl _,⟨.refl _,⟨.refl _,⟨?m2,trivial⟩⟩⟩⟩⟩⟩⟩⟩,⟨?s7,⟨trivial,?m3⟩⟩⟩⟩⟩⟩⟩⟩⟩,fun hb3=>?m4⟩⟩⟩⟩,⟨⟨rfl⟩,⟨⟨⟨rfl⟩,⟨?s8,Qaa.2 ⟨fun hb4=>⟨⟨rfl⟩,⟨⟨rfl⟩,⟨?s9,⟨⟨rfl⟩,⟨⟨rfl⟩,⟨?x2,⟨⟨⟨⟨?m5,⟨.refl _,trivial⟩⟩,⟨⟨.refl _,trivial⟩,⟨⟨.refl _,trivial⟩,⟨⟨.refl _,trivial⟩,⟨⟨.refl _,⟨.refl _,⟨.refl _,⟨.refl _,⟨.refl _,trivial⟩⟩⟩⟩⟩,⟨⟨.refl _,⟨.refl _,⟨.refl _,⟨.refl _,⟨.refl _,trivial⟩⟩⟩⟩⟩,⟨⟨.refl _,⟨.refl _,⟨.refl _,⟨.refl _,⟨?m6,trivial⟩⟩⟩⟩⟩,trivial⟩⟩⟩⟩⟩⟩⟩,⟨.refl _,⟨.refl _,⟨.refl _,⟨.refl _,⟨.refl _,⟨.refl _,⟨?m7,trivial⟩⟩⟩⟩⟩⟩⟩⟩,⟨?s10,⟨trivial,?m8⟩⟩⟩⟩⟩⟩⟩⟩⟩,fun hb4=>?m9⟩⟩⟩,⟨?s11,Qaa.2 ⟨fun hb5=>⟨⟨rfl⟩,⟨⟨⟨rfl⟩,⟨⟨rfl⟩,⟨?s12,⟨⟨rfl⟩,⟨⟨rfl⟩,⟨?x3,⟨⟨⟨⟨?m10,⟨.refl _,trivial⟩⟩,⟨⟨.refl _,trivial⟩,⟨⟨.refl _,trivial⟩,⟨⟨.refl _,trivial⟩,⟨⟨.refl _,⟨.refl _,⟨.refl _,⟨.refl _,⟨.refl _,trivial⟩⟩⟩⟩⟩,⟨⟨.refl _,⟨.refl _,⟨.refl _,⟨.refl _,⟨.refl _,trivial⟩⟩⟩⟩⟩,⟨⟨.refl _,⟨.refl _,⟨.refl _,⟨.refl _,⟨?m11,trivial⟩⟩⟩⟩⟩,trivial⟩⟩⟩⟩⟩⟩⟩,⟨.refl _,⟨.refl _,⟨.refl _,⟨.refl _,⟨.refl _,⟨.refl _,⟨?m12,trivial⟩⟩⟩⟩⟩⟩⟩⟩,⟨?s13,⟨trivial,?m13⟩⟩⟩⟩⟩⟩⟩⟩⟩,⟨⟨rfl⟩,⟨⟨rfl⟩,⟨?s14,⟨⟨rfl⟩,⟨⟨rfl⟩,⟨?x4,⟨⟨⟨⟨?m14,⟨.refl _,trivial⟩⟩,⟨⟨.refl _,trivial⟩,⟨⟨.refl _,trivial⟩,⟨⟨.refl _,trivial⟩,⟨⟨.refl _,⟨.refl _,⟨.refl _,⟨.refl _,⟨.refl _,trivial⟩⟩⟩⟩⟩,⟨⟨.refl _,⟨.refl _,⟨.refl _,⟨.refl _,⟨.refl _,trivial⟩⟩⟩⟩⟩,⟨⟨.refl _,⟨.refl _,⟨.refl _,⟨.refl _,⟨?m15,trivial⟩⟩⟩⟩⟩,trivial⟩⟩⟩⟩⟩⟩⟩,⟨.refl _,⟨.refl _,⟨.refl _,⟨.refl _,⟨.refl _,⟨.refl _,⟨?m16,trivial⟩⟩⟩⟩⟩⟩⟩⟩,⟨?s15,⟨trivial,?m17⟩⟩⟩⟩⟩⟩⟩⟩⟩⟩⟩,fun hb5=>?m18⟩⟩⟩⟩⟩⟩⟩,fun hb2=>?m19⟩⟩⟩⟩⟩⟩,fun hb0=>?m20⟩⟩
      all_goals try simp only [etaT] at *
      case x0=>exact 0
      case x1=>exact z2+1
      case x2=>exact z2+1
      case x3=>exact z2+1
      case x4=>exact z2+1
      all_goals try simp only [Tw.eta,Int.toNat_natCast,decide_eq_true_eq,decide_eq_false_iff_not,Int.ofNat_lt] at *
      all_goals have hsz:t.size=szL t.kids+1:=Tw.size_eq t
      all_goals have hkl:=f2.2.2.1
      case s0=>exact ⟨hm0,hm1⟩
      case s1=>exact hft
      case s2=>repeat' first | exact SubB.refl _ | exact trivial | exact rfl | exact Qad (by simp [szL]) | refine And.intro ?_ ?_
      case s3=>exact ⟨Nat.zero_le _,by simp [szL]; omega⟩
      case s4=>omega
      case m19 =>
       have e:z2=t.kids.length:=by omega
       have e2:t.kids.take z2=t.kids:=by rw [e,List.take_length]
       rw [e2]
       rw [e2] at hq1
       rw [show m+1+(szL t.kids:Int)=m+t.size by omega]
       exact QfP (decide_eq_true (by omega)) (endU (ob:=[.cells [iV (m+t.size),.fn 208 [] [.bp 1 0,.bp 2 0,.bp 3 0]],.cells [iV n],.cells [.f (.dt .str l)],.cells [.f (.dt .tm ts)]]) rfl (.refl (tmP t)) rfl rfl rfl)
      case m20 =>
       obtain rfl:m=20000:=by omega
       exact Qeo (decide_eq_false (by have:=t.size_pos; omega)) (endU rfl (.refl _) rfl rfl rfl)
      all_goals try (have h1:=QkO hb2)
      all_goals try (have h2:=QnA hb2)
      all_goals first
       | exact ⟨by omega,QaR _ f2.2.2.2 hb2,by omega,by omega⟩
       | exact ⟨by rw [List.length_take]; omega,by rw [List.length_take]; omega⟩
       | exact Qad (by omega)
       | exact Qa4 (Qsp hb2)
       | exact .refl _
       | exact hb2
       | exact Qeo (decide_eq_false (by omega)) (endU rfl (.refl _) rfl rfl rfl)
       | exact Qad (by rw [wJ _ (by omega) (by omega)]; rfl)
       | exact ⟨by omega,by omega⟩
       | (show t.kids.length - (z2+1)<t.kids.length - z2; omega)
    · cases hs
  · cases hs
end Go.Proofs.YtijfaigpilfpaaaGreatDoor
namespace Go.Proofs.YtijfaigpilfpaaaGreatDoor
open Go.RowKit
set_option linter.unusedVariables false
set_option maxRecDepth 100000
def sizO (z:Option Tw):Nat:=match z with | some u=>u.size | none=>0
def sCop:Spec2
 | [.bp 0 0,x],[.cells [.f (.v (.int .i64 m)),.fn 208 [] [.bp 1 0,.bp 2 0,.bp 3 0]],.cells [.f (.v (.int .i64 n))],.cells [.f (.dt .str l)],.cells [.f (.dt .tm ts)]]=>match tmOf x with
  | some t=>some (.need (t.fitT∧0≤m∧m≤20000) (.br (decide (m+t.size≤20000)) (.ret (tmP t) [.cells [iV (m+t.size),.fn 208 [] [.bp 1 0,.bp 2 0,.bp 3 0]],.cells [iV n],.cells [.f (.dt .str l)],.cells [.f (.dt .tm ts)]]) (.pan (eP 34) [.cells [iV 20001,.fn 208 [] [.bp 1 0,.bp 2 0,.bp 3 0]],.cells [iV n],.cells [.f (.dt .str l)],.cells [.f (.dt .tm ts)]])))
  | none=>none
 | _,_=>none
theorem cCop {E:Env} (hU:Up E):Contract2 Tryz.prog E 209 sCop:=by
 intro xs ob o hs hok
 unfold sCop at hs
 split at hs
 · rename_i x m n l ts
   split at hs
   · rename_i t ht
     cases hs
     refine cCopN hU (t.size+1) [.bp 0 0,x] _ (.need (t.size<t.size+1∧t.fitT∧0≤m∧m≤20000) (.br (decide (m+t.size≤20000)) (.ret (tmP t) [.cells [iV (m+t.size),.fn 208 [] [.bp 1 0,.bp 2 0,.bp 3 0]],.cells [iV n],.cells [.f (.dt .str l)],.cells [.f (.dt .tm ts)]]) (.pan (eP 34) [.cells [iV 20001,.fn 208 [] [.bp 1 0,.bp 2 0,.bp 3 0]],.cells [iV n],.cells [.f (.dt .str l)],.cells [.f (.dt .tm ts)]]))) (by simp only [QnY,ht]) ⟨⟨Nat.lt_succ_self _,hok.1⟩,hok.2⟩
   · cases hs
 · cases hs
def QsF:Spec2
 | [.bp 0 0,x,.bp 1 0,.bp 2 0,.bp 3 0],[.cells [.f (.v (.int .i64 m)),.fn 208 [] [.bp 1 0,.bp 2 0,.bp 3 0]],.cells [.f (.v (.int .i64 n))],.cells [.f (.dt .str l)],.cells [.f (.dt .tm ts)]]=>match tmOf x with
  | some t=>some (.need ((t.fitT∧∀ u∈ts,u.fitT)∧(l.length≤100000000∧ts.length≤100000000)∧n=(min l.length ts.length:Nat)∧0≤m∧m≤20000) (.nm (Option Tw) (putW l ts t.kind t.name) fun z=>.br (decide (m+sizO z≤20000)) (.ret (.tup [tmP (z.getD t),bV z.isSome]) [.cells [iV (m+sizO z),.fn 208 [] [.bp 1 0,.bp 2 0,.bp 3 0]],.cells [iV n],.cells [.f (.dt .str l)],.cells [.f (.dt .tm ts)]]) (.pan (eP 34) [.cells [iV 20001,.fn 208 [] [.bp 1 0,.bp 2 0,.bp 3 0]],.cells [iV n],.cells [.f (.dt .str l)],.cells [.f (.dt .tm ts)]])))
  | none=>none
 | _,_=>none
theorem endP {n:Nat} {p:Prop} {k:Int} {s:ByteArray} {l:List ByteArray} {ts:List Tw} {m:Int} {X Y:Option Tw→Out} {t:Bool} {x:PV} {ob:List PO} {u:Option Tw} (hu:putW l ts k s=u) (hb:m+sizO u≤20000) (h:EndU n (X u).fin t x ob):EndU n (Out.need p (Out.nm (Option Tw) (putW l ts k s) fun z=>.br (decide (m+sizO z≤20000)) (X z) (Y z))).fin t x ob:=by
 subst hu
 refine Qaq ?_
 show EndU n (Out.br (decide _) _ _).fin t x ob
 rw [br_t (decide_eq_true hb)]; exact h
theorem endQ {n:Nat} {p:Prop} {k:Int} {s:ByteArray} {l:List ByteArray} {ts:List Tw} {m:Int} {X Y:Option Tw→Out} {t:Bool} {x:PV} {ob:List PO} {u:Option Tw} (hu:putW l ts k s=u) (hb:¬ m+sizO u≤20000) (h:EndU n (Y u).fin t x ob):EndU n (Out.need p (Out.nm (Option Tw) (putW l ts k s) fun z=>.br (decide (m+sizO z≤20000)) (X z) (Y z))).fin t x ob:=by
 subst hu
 refine Qaq ?_
 show EndU n (Out.br (decide _) _ _).fin t x ob
 rw [br_f (decide_eq_false hb)]; exact h
theorem cPutN {E:Env} (hU:Up E):Contract2 Tryz.prog E 208 QsF:=by
 refine contract2 [] [(209,sCop)] Tryz.ntmps208 Tryz.func208 (by kernel_rfl) (by kernel_rfl) hU trivial ⟨cCop hU,trivial⟩ ?_
 intro xs ob o hs hok
 unfold QsF at hs
 split at hs
 · rename_i x m n l ts
   split at hs
   · rename_i t h1
     cases hs
     obtain ⟨⟨⟨hft,hts⟩,⟨hl,htl⟩,hn,hm0,hm1⟩,-⟩:=hok
     refine ⟨[.bp 0 0,tmP t,.bp 1 0,.bp 2 0,.bp 3 0],[(2,.s ⟨Nat,fun k=>⟨[(0,.bp 0 0),(2,.bp 1 0),(3,.bp 2 0),(4,.bp 3 0),(6,.bp 4 0),(7,.bp 5 0),(9,iV ((k:Int) - 1))],[.cells [iV m,.fn 208 [] [.bp 1 0,.bp 2 0,.bp 3 0]],.cells [iV n],.cells [.f (.dt .str l)],.cells [.f (.dt .tm ts)],.cells (Qae (tmC t)),.cells [.f (.v (.int .u8 0)),.f (.v (.string ⟨#[]⟩)),.f (.v (.bool false)),.f (.v (.slice none 0 0)),.f (.v (.slice none 0 0))]]⟩,fun k=>k≤min l.length ts.length∧∀ j,k≤j→j<min l.length ts.length→¬ l.getD j Sh.str.nil=t.name,fun k=>k⟩)],.cons (.refl _) (.cons (QaG h1) (.cons (.refl _) (.cons (.refl _) (.cons (.refl _) .nil)))),rfl,fun _ hsh=>?_⟩
     have h0:=hft
     refine Qab (p:=let A0:=Out.need ((t.fitT∧∀ (u:Sh.tm.T),u∈ts→Tw.fitT u)∧(l.length≤100000000∧ts.length≤100000000)∧n=(↑(min l.length ts.length):Int)∧(0:Int)≤m∧m≤(20000:Int)) (Out.nm (Option Tw) (putW l ts t.kind t.name) fun (z:Option Tw)=>Out.br (decide (m+(↑(sizO z):Int)≤(20000:Int))) (Out.ret (PV.tup [tmP (z.getD t),bV z.isSome]) [PO.cells [iV (m+(↑(sizO z):Int)),PV.fn 208 [] [PV.bp 1 0,PV.bp 2 0,PV.bp 3 0]],PO.cells [iV n],PO.cells [dP Sh.str l],PO.cells [dP Sh.tm ts]]) (Out.pan (eP (34:Int)) [PO.cells [iV (20001:Int),PV.fn 208 [] [PV.bp 1 0,PV.bp 2 0,PV.bp 3 0]],PO.cells [iV n],PO.cells [dP Sh.str l],PO.cells [dP Sh.tm ts]])); let A1:=(rfB (iV m)∧rfB (PV.fn 208 [] [PV.bp 1 0,PV.bp 2 0,PV.bp 3 0])∧True)∧(rfB (iV n)∧True)∧(rfB (dP Sh.str l)∧True)∧(rfB (dP Sh.tm ts)∧True)∧(rfB (uV t.kind)∧rfB (sV t.name)∧rfB (bV t.neg)∧rfB (PV.f (Lf.lr t.digits t.digits.length))∧rfB (dP Sh.tm t.kids)∧True)∧(rfB (uV 0)∧rfB (sV (ByteArray.mk #[]))∧rfB (bV false)∧rfB (nlP)∧rfB (nlP)∧True)∧True; let A2:=EndU 4 A0.fin true (PV.tup [PV.agg (Qae (tmC t)),bV false]) [PO.cells [iV m,PV.fn 208 [] [PV.bp 1 0,PV.bp 2 0,PV.bp 3 0]],PO.cells [iV n],PO.cells [dP Sh.str l],PO.cells [dP Sh.tm ts],PO.cells (Qae (tmC t)),PO.cells (Qae (tmC t))]; let A3:=fun (z2:Nat)=>(etaT (ts.getD ((↑z2:Int) - (1:Int)).toNat Sh.tm.nil)); ∃ (x1:Nat),(A1∧rfB (PV.bp 0 0)∧rfB (PV.bp 1 0)∧rfB (PV.bp 2 0)∧rfB (PV.bp 3 0)∧rfB (PV.bp 4 0)∧rfB (PV.bp 5 0)∧SubB (iV (IntKind.i64.wrap (n - (1:Int)))) (iV ((↑x1:Int) - (1:Int)))∧True)∧(x1≤min l.length ts.length∧∀ (j:Nat),x1≤j→j<min l.length ts.length→¬l.getD j Sh.str.nil=t.name)∧True∧∀ (z2:Nat),(z2≤min l.length ts.length∧∀ (j:Nat),z2≤j→j<min l.length ts.length→¬l.getD j Sh.str.nil=t.name)→True→ifB (decide ((↑z2:Int) - (1:Int) ≥ (0:Int))) (ifB (t.kind==(1:Int)) (((0:Int)≤(↑z2:Int) - (1:Int)∧(↑z2:Int) - (1:Int)<(↑l.length:Int))∧ifB (ByteArray.toList (l.getD ((↑z2:Int) - (1:Int)).toNat Sh.str.nil)==t.name.toList) (((0:Int)≤(↑z2:Int) - (1:Int)∧(↑z2:Int) - (1:Int)<(↑ts.length:Int))∧((A3 z2).fitT∧(0:Int)≤m∧m≤(20000:Int))∧ifB (decide (m+(↑(A3 z2).size:Int)≤(20000:Int))) (EndU 4 A0.fin true (PV.tup [PV.agg (Qae (tmC (A3 z2))),bV true]) [PO.cells [iV (m+(↑(A3 z2).size:Int)),PV.fn 208 [] [PV.bp 1 0,PV.bp 2 0,PV.bp 3 0]],PO.cells [iV n],PO.cells [dP Sh.str l],PO.cells [dP Sh.tm ts],PO.cells (Qae (tmC t)),PO.cells (Qae (tmC (A3 z2)))]) (EndU 4 A0.fin false (PV.ifc 36 (iV 34)) [PO.cells [iV 20001,PV.fn 208 [] [PV.bp 1 0,PV.bp 2 0,PV.bp 3 0]],PO.cells [iV n],PO.cells [dP Sh.str l],PO.cells [dP Sh.tm ts],PO.cells (Qae (tmC t)),PO.cells zTP])) (∃ (x3:Nat),(A1∧rfB (PV.bp 0 0)∧rfB (PV.bp 1 0)∧rfB (PV.bp 2 0)∧rfB (PV.bp 3 0)∧rfB (PV.bp 4 0)∧rfB (PV.bp 5 0)∧SubB (iV (IntKind.i64.wrap ((↑z2:Int) - (1:Int) - (1:Int)))) (iV ((↑x3:Int) - (1:Int)))∧True)∧(x3≤min l.length ts.length∧∀ (j:Nat),x3≤j→j<min l.length ts.length→¬l.getD j Sh.str.nil=t.name)∧True∧x3.succ.le z2)) A2) A2) ?kr ?_
     case kr=>kernel_rfl
     conv=>zeta
     refine ⟨?x0,⟨⟨⟨⟨.refl _,⟨?m0,trivial⟩⟩,⟨⟨.refl _,trivial⟩,⟨⟨.refl _,trivial⟩,⟨⟨.refl _,trivial⟩,⟨⟨.refl _,⟨.refl _,⟨.refl _,⟨.refl _,⟨.refl _,trivial⟩⟩⟩⟩⟩,⟨⟨.refl _,⟨.refl _,⟨.refl _,⟨.refl _,⟨.refl _,trivial⟩⟩⟩⟩⟩,trivial⟩⟩⟩⟩⟩⟩,⟨.refl _,⟨.refl _,⟨.refl _,⟨.refl _,⟨.refl _,⟨.refl _,⟨?m1,trivial⟩⟩⟩⟩⟩⟩⟩⟩,⟨?s0,⟨trivial,fun z2=>fun hq0=>fun _=>Qaa.2 ⟨fun hb1=>Qaa.2 ⟨fun hb2=>⟨?s1,Qaa.2 ⟨fun hb3=>⟨?s2,⟨?s3,Qaa.2 ⟨fun hb4=>?m2,fun hb4=>?m3⟩⟩⟩,fun hb3=>⟨?x1,⟨⟨⟨⟨.refl _,⟨.refl _,trivial⟩⟩,⟨⟨.refl _,trivial⟩,⟨⟨.refl _,trivial⟩,⟨⟨.refl _,trivial⟩,⟨⟨.refl _,⟨.refl _,⟨.refl _,⟨.refl _,⟨.refl _,trivial⟩⟩⟩⟩⟩,⟨⟨.refl _,⟨.refl _,⟨.refl _,⟨.refl _,⟨.refl _,trivial⟩⟩⟩⟩⟩,trivial⟩⟩⟩⟩⟩⟩,⟨.refl _,⟨.refl _,⟨.refl _,⟨.refl _,⟨.refl _,⟨.refl _,⟨?m4,trivial⟩⟩⟩⟩⟩⟩⟩⟩,⟨?s4,⟨trivial,?m5⟩⟩⟩⟩⟩⟩,fun hb2=>?m6⟩,fun hb1=>?m7⟩⟩⟩⟩⟩
     all_goals try simp only [etaT] at *
     case x0=>exact min l.length ts.length
     case x1=>exact z2 - 1
     all_goals try simp only [Tw.eta,bs_l,decide_eq_true_eq,decide_eq_false_iff_not,beq_iff_eq,beq_eq_false_iff_ne,ne_eq] at *
     case m0=>exact .refl _
     case m1=>exact Qad (by rw [hn,wJ _ (by omega) (by omega)])
     case s0=>exact ⟨Nat.le_refl _,fun j h2 h3=>by omega⟩
     all_goals have e0:m+((sizO none:Nat):Int)=m:=Int.add_zero m
     case m6=>exact endP (u:=none) (by rw [Qqf hb2]) (by rw [e0]; exact hm1) (endU (ob:=[.cells [iV m,.fn 208 [] [.bp 1 0,.bp 2 0,.bp 3 0]],.cells [iV n],.cells [.f (.dt .str l)],.cells [.f (.dt .tm ts)]]) (by rw [e0]; rfl) (.refl (.tup [tmP t,bV false])) rfl rfl rfl)
     case m7 =>
      have h2:putW l ts t.kind t.name=none:=Qqe (QqT fun k hk=>hq0.2 k (by omega) hk)
      exact endP (u:=none) h2 (by rw [e0]; exact hm1) (endU (ob:=[.cells [iV m,.fn 208 [] [.bp 1 0,.bp 2 0,.bp 3 0]],.cells [iV n],.cells [.f (.dt .str l)],.cells [.f (.dt .tm ts)]]) (by rw [e0]; rfl) (.refl (.tup [tmP t,bV false])) rfl rfl rfl)
     all_goals have ez:((z2:Int) - 1).toNat=z2 - 1:=by omega
     all_goals simp only [ez] at *
     case s1=>omega
     case s2=>omega
     case s3=>exact ⟨hts _ (by rw [List.getD_eq_getElem?_getD,List.getElem?_eq_getElem (by omega)]; exact List.getElem_mem _),hm0,hm1⟩
     case m2 =>
      have h2:putW l ts t.kind t.name=some (ts.getD (z2 - 1) Sh.tm.nil):=Qli hb2 (QlP (by omega) hb3 fun k h3 h4=>hq0.2 k (by omega) h4)
      exact endP h2 hb4 (endU rfl (.refl _) rfl rfl rfl)
     case m3 =>
      have h2:putW l ts t.kind t.name=some (ts.getD (z2 - 1) Sh.tm.nil):=Qli hb2 (QlP (by omega) hb3 fun k h3 h4=>hq0.2 k (by omega) h4)
      exact endQ h2 hb4 (endU rfl (.refl _) rfl rfl rfl)
     case m4=>exact Qad (by rw [wJ _ (by omega) (by omega)]; omega)
     case s4 =>
      refine ⟨by omega,fun j h3 h4=>?_⟩
      by_cases hj:j=z2 - 1
      · subst hj; exact hb3
      · exact hq0.2 j (by omega) h4
     case m5=>exact (by omega:z2 - 1<z2)
   · cases hs
 · cases hs
theorem Qsy (l:List ByteArray) (ts:List Tw) (t:Tw):sizO (putW l ts t.kind t.name)≤(Qam l ts t).size:=by
 cases h:putW l ts t.kind t.name with
 | none=>exact Nat.zero_le _
 | some u=>rw [Qc0 h]; exact Nat.le_refl _
theorem sizO0 (m:Int):m+((sizO none:Nat):Int)=m:=Int.add_zero m
theorem Qqj {α:Type} {z:Option α} (h:z.isSome=false):z=none:=by cases z with | none=>rfl | some x=>cases h
def QnW (N:Nat):Spec2
 | [.bp 0 0,x],[.cells [.f (.v (.int .i64 m)),.fn 208 [] [.bp 1 0,.bp 2 0,.bp 3 0]],.cells [.f (.v (.int .i64 n))],.cells [.f (.dt .str l)],.cells [.f (.dt .tm ts)]]=>match tmOf x with
  | some t=>some (.need (t.size<N∧(t.fitT∧∀ u∈ts,u.fitT)∧(l.length≤100000000∧ts.length≤100000000)∧n=(min l.length ts.length:Nat)∧0≤m∧m≤20000) (.br (decide (m+(Qam l ts t).size≤20000)) (.ret (tmP (Qam l ts t)) [.cells [iV (m+(Qam l ts t).size),.fn 208 [] [.bp 1 0,.bp 2 0,.bp 3 0]],.cells [iV n],.cells [.f (.dt .str l)],.cells [.f (.dt .tm ts)]]) (.pan (eP 34) [.cells [iV 20001,.fn 208 [] [.bp 1 0,.bp 2 0,.bp 3 0]],.cells [iV n],.cells [.f (.dt .str l)],.cells [.f (.dt .tm ts)]])))
  | none=>none
 | _,_=>none
set_option maxHeartbeats 8000000 in
theorem cOfUN {E:Env} (hU:Up E):∀ N,Contract2 Tryz.prog E 159 (QnW N)
 | 0=>by
  intro xs ob o hs hok
  unfold QnW at hs
  split at hs
  · split at hs
    · cases hs
      exact absurd hok.1.1 (Nat.not_lt_zero _)
    · cases hs
  · cases hs
 | N+1=>by
  refine contract2 [(212,Qiv)] [(211,Qp8),(208,QsF),(159,QnW N)] Tryz.ntmps159 Tryz.func159 (by kernel_rfl) (by kernel_rfl) hU ⟨Qpx hU,trivial⟩ ⟨cMore hU,cPutN hU,cOfUN hU N,trivial⟩ ?_
  intro xs ob o hs hok
  unfold QnW at hs
  split at hs
  · rename_i x m n l ts
    split at hs
    · rename_i t h1
      cases hs
      obtain ⟨⟨hN,⟨hft,hts⟩,⟨hl,htl⟩,hn,hm0,hm1⟩,-⟩:=hok
      have f2:=(Tw.fitT_eq t).1 hft
      refine ⟨[.bp 0 0,tmP t],[(1000002,.s ⟨Option Tw,fun z=>⟨[(0,.bp 0 0),(3,.bp 4 0),(4,.bp 5 0),(5,.bp 6 0),(6,bV z.isSome)],[.cells [iV (m+sizO z),.fn 208 [] [.bp 1 0,.bp 2 0,.bp 3 0]],.cells [iV n],.cells [.f (.dt .str l)],.cells [.f (.dt .tm ts)],.cells (Qae (tmC t)),.cells [.f (.v (.int .u8 0)),.f (.v (.string ⟨#[]⟩)),.f (.v (.bool false)),.f (.v (.slice none 0 0)),.f (.v (.slice none 0 0))],.cells (Qae (tmC (z.getD t)))]⟩,fun z=>z=putW l ts t.kind t.name∧m+sizO z≤20000,fun _=>0⟩),(7,.s ⟨Nat,fun i=>⟨[(0,.bp 0 0),(3,.bp 4 0),(4,.bp 5 0),(7,.bp 7 0),(29,.f (.dt .tm t.kids)),(30,iV t.kids.length),(31,iV i)],[.cells [iV (m+1+szL (Qax l ts (t.kids.take i))),.fn 208 [] [.bp 1 0,.bp 2 0,.bp 3 0]],.cells [iV n],.cells [.f (.dt .str l)],.cells [.f (.dt .tm ts)],.cells (Qae (tmC t)),.cells [.f (.v (.int .u8 0)),.f (.v (.string ⟨#[]⟩)),.f (.v (.bool false)),.f (.v (.slice none 0 0)),.f (.v (.slice none 0 0))],.gone,.cells [.f (.v (.int .u8 t.kind)),.f (.v (.string t.name)),.f (.v (.bool t.neg)),.f (.lr t.digits t.digits.length),.tl 8 (.dt .tm (Qax l ts (t.kids.take i)))],.tail 28 5]⟩,fun i=>i≤t.kids.length∧m+1+szL (Qax l ts (t.kids.take i))≤20000∧putW l ts t.kind t.name=none,fun i=>t.kids.length - i⟩)],.cons (.refl _) (.cons (QaG h1) .nil),rfl,fun _ hsh=>?_⟩
      have h0:=hft
      refine Qab (p:=let A10:=Qae (tmC t); let A11:=fun (z3:Nat)=>(Qax l ts (List.take z3 t.kids)); let A16:=fun (x2:Option Tw)=>((20000:Int) - (m+(↑(sizO x2):Int))); let A17:=rfB (uV 0)∧rfB (sV (ByteArray.mk #[]))∧rfB (bV false)∧rfB (nlP)∧rfB (nlP)∧True; let A18:=Lf.lr t.digits t.digits.length; let A19:=fun (z3:Nat)=>(t.kids.getD (↑z3:Int).toNat Sh.tm.nil); let A20:=fun (z1:Option Tw)=>(decide (m+(↑(sizO z1):Int)≤(20000:Int))); let A21:=fun (x4:Nat)=>(x4≤t.kids.length∧m+(1:Int)+(↑(szL (Qax l ts (List.take x4 t.kids))):Int)≤(20000:Int)∧putW l ts t.kind t.name=none); let A22:=l.length≤100000000∧ts.length≤100000000; let A23:=PV.fn 208 [] [PV.bp 1 0,PV.bp 2 0,PV.bp 3 0]; let A1:=Out.need (t.size<N+1∧(t.fitT∧∀ (u:Sh.tm.T),u∈ts→Tw.fitT u)∧A22∧n=(↑(min l.length ts.length):Int)∧(0:Int)≤m∧m≤(20000:Int)) (Out.br (decide (m+(↑(Qam l ts t).size:Int)≤(20000:Int))) (Out.ret (tmP (Qam l ts t)) [PO.cells [iV (m+(↑(Qam l ts t).size:Int)),PV.fn 208 [] [PV.bp 1 0,PV.bp 2 0,PV.bp 3 0]],PO.cells [iV n],PO.cells [dP Sh.str l],PO.cells [dP Sh.tm ts]]) (Out.pan (eP (34:Int)) [PO.cells [iV (20001:Int),PV.fn 208 [] [PV.bp 1 0,PV.bp 2 0,PV.bp 3 0]],PO.cells [iV n],PO.cells [dP Sh.str l],PO.cells [dP Sh.tm ts]])); let A6:=fun (z3:Nat)=>((etaT (A19 z3)).size<N∧((etaT (A19 z3)).fitT∧∀ (u:Sh.tm.T),u∈ts→Tw.fitT u)∧A22∧n=(↑(min l.length ts.length):Int)∧(0:Int)≤m+(1:Int)+(↑(szL (A11 z3)):Int)∧m+(1:Int)+(↑(szL (A11 z3)):Int)≤(20000:Int)); let A7:=fun (z3:Nat)=>(EndU 4 A1.fin false (PV.ifc 36 (iV 34)) [PO.cells [iV 20001,PV.fn 208 [] [PV.bp 1 0,PV.bp 2 0,PV.bp 3 0]],PO.cells [iV n],PO.cells [dP Sh.str l],PO.cells [dP Sh.tm ts],PO.cells A10,PO.cells zTP,PO.gone,PO.cells [uV t.kind,sV t.name,bV t.neg,PV.f A18,PV.tl 8 (Lf.dt Sh.tm (A11 z3))],PO.tail 28 5,PO.cells (Qae (tmC (A19 z3)))]); let A8:=((etaT t).fitT∧∀ (u:Sh.tm.T),u∈ts→Tw.fitT u)∧A22∧n=(↑(min l.length ts.length):Int)∧(0:Int)≤m∧m≤(20000:Int); let A9:=EndU 4 A1.fin false (PV.ifc 36 (iV 34)) [PO.cells [iV 20001,PV.fn 208 [] [PV.bp 1 0,PV.bp 2 0,PV.bp 3 0]],PO.cells [iV n],PO.cells [dP Sh.str l],PO.cells [dP Sh.tm ts],PO.cells A10,PO.cells zTP,PO.cells zTP]; let A13:=rfB (uV t.kind)∧rfB (sV t.name)∧rfB (bV t.neg)∧rfB (PV.f A18)∧rfB (dP Sh.tm t.kids)∧True; let A14:=fun (z3:Nat)=>(decide (m+(1:Int)+(↑(szL (A11 z3)):Int)+(↑(Qam l ts (etaT (A19 z3))).size:Int)≤(20000:Int))); let A0:=fun (z1:Option Tw) (x2:Option Tw)=>(((SubB (iV (m+(↑(sizO z1):Int))) (iV (m+(↑(sizO x2):Int)))∧rfB A23∧True)∧(rfB (iV n)∧True)∧(rfB (dP Sh.str l)∧True)∧(rfB (dP Sh.tm ts)∧True)∧A13∧A17∧(SubB (uV ((z1.getD (etaT t)).kind)) (uV ((x2.getD t).kind))∧SubB (sV ((z1.getD (etaT t)).name)) (sV ((x2.getD t).name))∧SubB (bV ((z1.getD (etaT t)).neg)) (bV ((x2.getD t).neg))∧SubB (PV.f (Lf.lr (z1.getD (etaT t)).digits (z1.getD (etaT t)).digits.length)) (PV.f (Lf.lr (x2.getD t).digits (x2.getD t).digits.length))∧SubB (dP Sh.tm (z1.getD (etaT t)).kids) (dP Sh.tm (x2.getD t).kids)∧True)∧True)∧rfB (PV.bp 0 0)∧rfB (PV.bp 4 0)∧rfB (PV.bp 5 0)∧rfB (PV.bp 6 0)∧SubB (bV z1.isSome) (bV x2.isSome)∧True); let A5:=fun (z3:Nat) (x4:Nat)=>(((SubB (iV (m+(1:Int)+(↑(szL (A11 z3)):Int)+(↑(Qam l ts (etaT (A19 z3))).size:Int))) (iV (m+(1:Int)+(↑(szL (Qax l ts (List.take x4 t.kids))):Int)))∧rfB A23∧True)∧(rfB (iV n)∧True)∧(rfB (dP Sh.str l)∧True)∧(rfB (dP Sh.tm ts)∧True)∧A13∧A17∧(rfB (uV t.kind)∧rfB (sV t.name)∧rfB (bV t.neg)∧rfB (PV.f A18)∧SubB (PV.tl 8 (Lf.dt Sh.tm (Qax l ts (List.take z3 t.kids)++[etaT (Qam l ts (etaT (A19 z3)))]))) (PV.tl 8 (Lf.dt Sh.tm (Qax l ts (List.take x4 t.kids))))∧True)∧True)∧rfB (PV.bp 0 0)∧rfB (PV.bp 4 0)∧rfB (PV.bp 5 0)∧rfB (PV.bp 7 0)∧rfB (dP Sh.tm t.kids)∧rfB (iV (↑t.kids.length:Int))∧SubB (iV (IntKind.i64.wrap ((↑z3:Int)+(1:Int)))) (iV (↑x4:Int))∧True); let A12:=fun (z1:Option Tw)=>(SameL [PV.any,PV.any,PV.any] [PV.any,PV.any,PV.any]∧SameL [PV.any,PV.any,PV.any] [PV.any,PV.any,PV.any]∧SameL [PV.any,PV.any,PV.any] [PV.any,PV.any,PV.any]∧SameL [PV.any,PV.any,PV.any] [PV.any,PV.any,PV.any]∧∃ (x2:Option Tw),(A0 z1 x2)∧x2=putW l ts t.kind t.name∧(A16 x2).NonNeg); let A15:=fun (z1:Option Tw)=>(SameL [PV.any,PV.any,PV.any] [PV.any,PV.any,PV.any]∧SameL [PV.any,PV.any,PV.any] [PV.any,PV.any,PV.any]∧SameL [PV.any,PV.any,PV.any] [PV.any,PV.any,PV.any]∧∃ (x2:Option Tw),(A0 z1 x2)∧x2=putW l ts t.kind t.name∧(A16 x2).NonNeg); let A2:=fun (z3:Nat)=>(SameL [PV.any,PV.any,PV.bp 7 4] [PV.any,PV.any,PV.bp 7 4]∧SameL [PV.any,PV.any,PV.bp 7 4] [PV.any,PV.any,PV.bp 7 4]∧((A11 z3).length+1≤9223372036854775807∧((A11 z3).length+1) * 80≤140737488355328)∧SameL [PV.any,PV.any,PV.bp 7 4] [PV.any,PV.any,PV.bp 7 4]∧SameL [PV.any,PV.any,PV.any] [PV.any,PV.any,PV.any]∧∃ (x4:Nat),(A5 z3 x4)∧(A21 x4)∧True∧(t.kids.length - x4).succ.le (t.kids.length - z3)); let A4:=fun (z1:Option Tw)=>(SameL [PV.any,PV.any,PV.any] [PV.any,PV.any,PV.any]∧(A15 z1)∧SameL [PV.any,PV.any,PV.any] [PV.any,PV.any,PV.any]∧SameL [PV.any,PV.any,PV.any] [PV.any,PV.any,PV.any]∧SameL [PV.any,PV.any,PV.any] [PV.any,PV.any,PV.any]∧∃ (x2:Option Tw),(A0 z1 x2)∧x2=putW l ts t.kind t.name∧(A16 x2).NonNeg); let A3:=fun (z1:Option Tw)=>(SameL [PV.any,PV.any,PV.any] [PV.any,PV.any,PV.any]∧SameL [PV.any,PV.any,PV.any] [PV.any,PV.any,PV.any]∧(A4 z1)∧SameL [PV.any,PV.any,PV.any] [PV.any,PV.any,PV.any]∧SameL [PV.any,PV.any,PV.any] [PV.any,PV.any,PV.any]∧SameL [PV.any,PV.any,PV.any] [PV.any,PV.any,PV.any]∧SameL [PV.any,PV.any,PV.any] [PV.any,PV.any,PV.any]∧∃ (x2:Option Tw),(A0 z1 x2)∧x2=putW l ts t.kind t.name∧(A16 x2).NonNeg); (SameL [PV.bp 0 0,PV.bp 0 0,PV.agg A10] [PV.bp 0 0,PV.bp 0 0,PV.agg A10]∧(SameL [PV.any,PV.bp 0 0,PV.agg A10] [PV.any,PV.bp 0 0,PV.agg A10]∧(SameL [PV.any,PV.bp 0 0,PV.agg A10] [PV.any,PV.bp 0 0,PV.agg A10]∧(SameL [PV.any,PV.bp 0 0,PV.agg A10] [PV.any,PV.bp 0 0,PV.agg A10]∧(A8∧∀ (z1:Option Tw),z1=putW l ts (etaT t).kind (etaT t).name→ifB (A20 z1) (SameL [PV.any,PV.any,PV.any] [PV.any,PV.any,PV.any]∧(SameL [PV.any,PV.any,PV.any] [PV.any,PV.any,PV.any]∧(SameL [PV.any,PV.any,PV.any] [PV.any,PV.any,PV.any]∧(A12 z1)∧SameL [PV.any,PV.any,PV.any] [PV.any,PV.any,PV.any]∧(A15 z1)∧SameL [PV.any,PV.any,PV.any] [PV.any,PV.any,PV.any]∧SameL [PV.any,PV.any,PV.any] [PV.any,PV.any,PV.any]∧SameL [PV.any,PV.any,PV.any] [PV.any,PV.any,PV.any]∧∃ (x2:Option Tw),(A0 z1 x2)∧x2=putW l ts t.kind t.name∧(A16 x2).NonNeg)∧(SameL [PV.any,PV.any,PV.any] [PV.any,PV.any,PV.any]∧(A12 z1)∧SameL [PV.any,PV.any,PV.any] [PV.any,PV.any,PV.any]∧SameL [PV.any,PV.any,PV.any] [PV.any,PV.any,PV.any]∧SameL [PV.any,PV.any,PV.any] [PV.any,PV.any,PV.any]∧SameL [PV.any,PV.any,PV.any] [PV.any,PV.any,PV.any]∧∃ (x2:Option Tw),(A0 z1 x2)∧x2=putW l ts t.kind t.name∧(A16 x2).NonNeg)∧SameL [PV.any,PV.any,PV.any] [PV.any,PV.any,PV.any]∧(A4 z1)∧SameL [PV.any,PV.any,PV.any] [PV.any,PV.any,PV.any]∧SameL [PV.any,PV.any,PV.any] [PV.any,PV.any,PV.any]∧SameL [PV.any,PV.any,PV.any] [PV.any,PV.any,PV.any]∧SameL [PV.any,PV.any,PV.any] [PV.any,PV.any,PV.any]∧∃ (x2:Option Tw),(A0 z1 x2)∧x2=putW l ts t.kind t.name∧(A16 x2).NonNeg)∧SameL [PV.any,PV.any,PV.any] [PV.any,PV.any,PV.any]∧SameL [PV.any,PV.any,PV.any] [PV.any,PV.any,PV.any]∧(A4 z1)∧SameL [PV.any,PV.any,PV.any] [PV.any,PV.any,PV.any]∧SameL [PV.any,PV.any,PV.any] [PV.any,PV.any,PV.any]∧SameL [PV.any,PV.any,PV.any] [PV.any,PV.any,PV.any]∧SameL [PV.any,PV.any,PV.any] [PV.any,PV.any,PV.any]∧∃ (x2:Option Tw),(A0 z1 x2)∧x2=putW l ts t.kind t.name∧(A16 x2).NonNeg) (EndU 4 A1.fin false (PV.ifc 36 (iV 34)) [PO.cells [iV 20001,PV.fn 208 [] [PV.bp 1 0,PV.bp 2 0,PV.bp 3 0]],PO.cells [iV n],PO.cells [dP Sh.str l],PO.cells [dP Sh.tm ts],PO.cells A10,PO.cells zTP]))∧SameL [PV.any,PV.bp 0 0,PV.agg A10] [PV.any,PV.bp 0 0,PV.agg A10]∧A8∧∀ (z1:Option Tw),z1=putW l ts (etaT t).kind (etaT t).name→ifB (A20 z1) (A3 z1) A9)∧SameL [PV.any,PV.bp 0 0,PV.agg A10] [PV.any,PV.bp 0 0,PV.agg A10]∧SameL [PV.any,PV.bp 0 0,PV.agg A10] [PV.any,PV.bp 0 0,PV.agg A10]∧A8∧∀ (z1:Option Tw),z1=putW l ts (etaT t).kind (etaT t).name→ifB (A20 z1) (A3 z1) A9)∧SameL [PV.any,PV.bp 0 0,PV.agg A10] [PV.any,PV.bp 0 0,PV.agg A10]∧SameL [PV.any,PV.bp 0 0,PV.agg A10] [PV.any,PV.bp 0 0,PV.agg A10]∧SameL [PV.any,PV.bp 0 0,PV.agg A10] [PV.any,PV.bp 0 0,PV.agg A10]∧A8∧∀ (z1:Option Tw),z1=putW l ts (etaT t).kind (etaT t).name→ifB (A20 z1) (A3 z1) A9)∧SameL [PV.bp 0 0,PV.bp 0 0,PV.agg A10] [PV.bp 0 0,PV.bp 0 0,PV.agg A10]∧SameL [PV.any,PV.bp 0 0,PV.agg A10] [PV.any,PV.bp 0 0,PV.agg A10]∧SameL [PV.any,PV.bp 0 0,PV.agg A10] [PV.any,PV.bp 0 0,PV.agg A10]∧SameL [PV.any,PV.bp 0 0,PV.agg A10] [PV.any,PV.bp 0 0,PV.agg A10]∧A8∧∀ (z1:Option Tw),z1=putW l ts (etaT t).kind (etaT t).name→ifB (A20 z1) (A3 z1) A9)∧∀ (z1:Option Tw),z1=putW l ts t.kind t.name∧m+(↑(sizO z1):Int)≤(20000:Int)→ifB z1.isSome (EndU 4 A1.fin true (PV.agg (Qae (tmC (z1.getD t)))) [PO.cells [iV (m+(↑(sizO z1):Int)),PV.fn 208 [] [PV.bp 1 0,PV.bp 2 0,PV.bp 3 0]],PO.cells [iV n],PO.cells [dP Sh.str l],PO.cells [dP Sh.tm ts],PO.cells A10,PO.cells (Qae (tmC (z1.getD t))),PO.cells (Qae (tmC (z1.getD t)))]) (((0:Int)≤m+(↑(sizO z1):Int)∧m+(↑(sizO z1):Int)≤(20000:Int))∧ifB (decide (m+(↑(sizO z1):Int)+(1:Int)≤(20000:Int))) ((etaT t).fitT∧∃ (x2:Nat),(((SubB (iV (m+(↑(sizO z1):Int)+(1:Int))) (iV (m+(1:Int)+(↑(szL (Qax l ts (List.take x2 t.kids))):Int)))∧rfB A23∧True)∧(rfB (iV n)∧True)∧(rfB (dP Sh.str l)∧True)∧(rfB (dP Sh.tm ts)∧True)∧A13∧A17∧(SubB (uV ((etaT t).kind)) (uV t.kind)∧SubB (sV ((etaT t).name)) (sV t.name)∧SubB (bV ((etaT t).neg)) (bV t.neg)∧SubB (PV.f (Lf.lr (etaT t).digits (etaT t).digits.length)) (PV.f A18)∧Qbg (PV.tl 8 (Lf.dt Sh.tm (Qax l ts (List.take x2 t.kids))))∧True)∧True)∧rfB (PV.bp 0 0)∧rfB (PV.bp 4 0)∧rfB (PV.bp 5 0)∧rfB (PV.bp 7 0)∧rfB (dP Sh.tm t.kids)∧rfB (iV (↑t.kids.length:Int))∧SubB (iV 0) (iV (↑x2:Int))∧True)∧(x2≤t.kids.length∧m+(1:Int)+(↑(szL (Qax l ts (List.take x2 t.kids))):Int)≤(20000:Int)∧putW l ts t.kind t.name=none)∧True∧∀ (z3:Nat),z3≤t.kids.length∧m+(1:Int)+(↑(szL (A11 z3)):Int)≤(20000:Int)∧putW l ts t.kind t.name=none→True→ifB (decide ((↑z3:Int)<(↑t.kids.length:Int))) (((0:Int)≤(↑z3:Int)∧(↑z3:Int)<(↑t.kids.length:Int))∧SameL [PV.bp 7 4,PV.bp 0 0,PV.bp 7 4] [PV.bp 7 4,PV.bp 0 0,PV.bp 7 4]∧(SameL [PV.any,PV.bp 0 0,PV.bp 7 4] [PV.any,PV.bp 0 0,PV.bp 7 4]∧SameL [PV.any,PV.bp 0 0,PV.bp 7 4] [PV.any,PV.bp 0 0,PV.bp 7 4]∧(A6 z3)∧ifB (A14 z3) (A2 z3) (A7 z3))∧SameL [PV.bp 7 4,PV.bp 0 0,PV.bp 7 4] [PV.bp 7 4,PV.bp 0 0,PV.bp 7 4]∧(SameL [PV.any,PV.bp 0 0,PV.bp 7 4] [PV.any,PV.bp 0 0,PV.bp 7 4]∧(A6 z3)∧ifB (A14 z3) (A2 z3) (A7 z3))∧(A6 z3)∧ifB (A14 z3) (SameL [PV.bp 7 4,PV.any,PV.bp 7 4] [PV.bp 7 4,PV.any,PV.bp 7 4]∧(A2 z3)∧SameL [PV.bp 7 4,PV.any,PV.bp 7 4] [PV.bp 7 4,PV.any,PV.bp 7 4]∧SameL [PV.any,PV.any,PV.bp 7 4] [PV.any,PV.any,PV.bp 7 4]∧((A11 z3).length+1≤9223372036854775807∧((A11 z3).length+1) * 80≤140737488355328)∧SameL [PV.any,PV.any,PV.bp 7 4] [PV.any,PV.any,PV.bp 7 4]∧SameL [PV.any,PV.any,PV.any] [PV.any,PV.any,PV.any]∧∃ (x4:Nat),(A5 z3 x4)∧(A21 x4)∧True∧(t.kids.length - x4).succ.le (t.kids.length - z3)) (A7 z3)) (EndU 4 A1.fin true (PV.agg [uV t.kind,sV t.name,bV t.neg,PV.f A18,dP Sh.tm (A11 z3)]) [PO.cells [iV (m+(1:Int)+(↑(szL (A11 z3)):Int)),PV.fn 208 [] [PV.bp 1 0,PV.bp 2 0,PV.bp 3 0]],PO.cells [iV n],PO.cells [dP Sh.str l],PO.cells [dP Sh.tm ts],PO.cells A10,PO.cells [uV t.kind,sV t.name,bV t.neg,PV.f A18,PV.tl 8 (Lf.dt Sh.tm (A11 z3))],PO.gone,PO.cells [uV t.kind,sV t.name,bV t.neg,PV.f A18,PV.tl 8 (Lf.dt Sh.tm (A11 z3))],PO.tail 28 5])) (EndU 4 A1.fin false (PV.ifc 36 (iV 34)) [PO.cells [iV (m+(↑(sizO z1):Int)+(1:Int)),PV.fn 208 [] [PV.bp 1 0,PV.bp 2 0,PV.bp 3 0]],PO.cells [iV n],PO.cells [dP Sh.str l],PO.cells [dP Sh.tm ts],PO.cells A10,PO.cells zTP,PO.cells (Qae (tmC (z1.getD t)))]))) ?kr ?_
      case kr=>kernel_rfl
      conv=>zeta
      refine ⟨⟨⟨rfl⟩,⟨⟨⟨rfl⟩,⟨⟨⟨rfl⟩,⟨⟨⟨rfl⟩,⟨⟨?s0,fun z1=>fun hz1=>Qaa.2 ⟨fun hb0=>⟨⟨rfl⟩,⟨⟨⟨rfl⟩,⟨⟨⟨rfl⟩,⟨⟨⟨rfl⟩,⟨⟨rfl⟩,⟨⟨rfl⟩,⟨⟨rfl⟩,⟨?x0,⟨⟨⟨⟨?m0,⟨.refl _,trivial⟩⟩,⟨⟨.refl _,trivial⟩,⟨⟨.refl _,trivial⟩,⟨⟨.refl _,trivial⟩,⟨⟨.refl _,⟨.refl _,⟨.refl _,⟨.refl _,⟨.refl _,trivial⟩⟩⟩⟩⟩,⟨⟨.refl _,⟨.refl _,⟨.refl _,⟨.refl _,⟨.refl _,trivial⟩⟩⟩⟩⟩,⟨⟨?m1,⟨?m2,⟨?m3,⟨?m4,⟨?m5,trivial⟩⟩⟩⟩⟩,trivial⟩⟩⟩⟩⟩⟩⟩,⟨.refl _,⟨.refl _,⟨.refl _,⟨.refl _,⟨?m6,trivial⟩⟩⟩⟩⟩⟩,⟨?s1,?m7⟩⟩⟩⟩⟩⟩⟩,⟨⟨rfl⟩,⟨⟨⟨rfl⟩,⟨⟨rfl⟩,⟨⟨rfl⟩,⟨?x1,⟨⟨⟨⟨?m8,⟨.refl _,trivial⟩⟩,⟨⟨.refl _,trivial⟩,⟨⟨.refl _,trivial⟩,⟨⟨.refl _,trivial⟩,⟨⟨.refl _,⟨.refl _,⟨.refl _,⟨.refl _,⟨.refl _,trivial⟩⟩⟩⟩⟩,⟨⟨.refl _,⟨.refl _,⟨.refl _,⟨.refl _,⟨.refl _,trivial⟩⟩⟩⟩⟩,⟨⟨?m9,⟨?m10,⟨?m11,⟨?m12,⟨?m13,trivial⟩⟩⟩⟩⟩,trivial⟩⟩⟩⟩⟩⟩⟩,⟨.refl _,⟨.refl _,⟨.refl _,⟨.refl _,⟨?m14,trivial⟩⟩⟩⟩⟩⟩,⟨?s2,?m15⟩⟩⟩⟩⟩⟩,⟨⟨rfl⟩,⟨⟨rfl⟩,⟨⟨rfl⟩,⟨?x2,⟨⟨⟨⟨?m16,⟨.refl _,trivial⟩⟩,⟨⟨.refl _,trivial⟩,⟨⟨.refl _,trivial⟩,⟨⟨.refl _,trivial⟩,⟨⟨.refl _,⟨.refl _,⟨.refl _,⟨.refl _,⟨.refl _,trivial⟩⟩⟩⟩⟩,⟨⟨.refl _,⟨.refl _,⟨.refl _,⟨.refl _,⟨.refl _,trivial⟩⟩⟩⟩⟩,⟨⟨?m17,⟨?m18,⟨?m19,⟨?m20,⟨?m21,trivial⟩⟩⟩⟩⟩,trivial⟩⟩⟩⟩⟩⟩⟩,⟨.refl _,⟨.refl _,⟨.refl _,⟨.refl _,⟨?m22,trivial⟩⟩⟩⟩⟩⟩,⟨?s3,?m23⟩⟩⟩⟩⟩⟩⟩⟩⟩⟩,⟨⟨⟨rfl⟩,⟨⟨⟨rfl⟩,⟨⟨rfl⟩,⟨⟨rfl⟩,⟨⟨rfl⟩,⟨?x3,⟨⟨⟨⟨?m24,⟨.refl _,trivial⟩⟩,⟨⟨.refl _,trivial⟩,⟨⟨.refl _,trivial⟩,⟨⟨.refl _,trivial⟩,⟨⟨.refl _,⟨.refl _,⟨.refl _,⟨.refl _,⟨.refl _,trivial⟩⟩⟩⟩⟩,⟨⟨.refl _,⟨.refl _,⟨.refl _,⟨.refl _,⟨.refl _,trivial⟩⟩⟩⟩⟩,⟨⟨?m25,⟨?m26,⟨?m27,⟨?m28,⟨?m29,trivial⟩⟩⟩⟩⟩,trivial⟩⟩⟩⟩⟩⟩⟩,⟨.refl _,⟨.refl _,⟨.refl _,⟨.refl _,⟨?m30,trivial⟩⟩⟩⟩⟩⟩,⟨?s4,?m31⟩⟩⟩⟩⟩⟩⟩,⟨⟨rfl⟩,⟨⟨rfl⟩,⟨⟨rfl⟩,⟨⟨rfl⟩,⟨?x4,⟨⟨⟨⟨?m32,⟨.refl _,trivial⟩⟩,⟨⟨.refl _,trivial⟩,⟨⟨.refl _,trivial⟩,⟨⟨.refl _,trivial⟩,⟨⟨.refl _,⟨.refl _,⟨.refl _,⟨.refl _,⟨.refl _,trivial⟩⟩⟩⟩⟩,⟨⟨.refl _,⟨.refl _,⟨.refl _,⟨.refl _,⟨.refl _,trivial⟩⟩⟩⟩⟩,⟨⟨?m33,⟨?m34,⟨?m35,⟨?m36,⟨?m37,trivial⟩⟩⟩⟩⟩,trivial⟩⟩⟩⟩⟩⟩⟩,⟨.refl _,⟨.refl _,⟨.refl _,⟨.refl _,⟨?m38,trivial⟩⟩⟩⟩⟩⟩,⟨?s5,?m39⟩⟩⟩⟩⟩⟩⟩⟩⟩,⟨⟨rfl⟩,⟨⟨⟨rfl⟩,⟨⟨⟨rfl⟩,⟨⟨rfl⟩,⟨⟨rfl⟩,⟨?x5,⟨⟨⟨⟨?m40,⟨.refl _,trivial⟩⟩,⟨⟨.refl _,trivial⟩,⟨⟨.refl _,trivial⟩,⟨⟨.refl _,trivial⟩,⟨⟨.refl _,⟨.refl _,⟨.refl _,⟨.refl _,⟨.refl _,trivial⟩⟩⟩⟩⟩,⟨⟨.refl _,⟨.refl _,⟨.refl _,⟨.refl _,⟨.refl _,trivial⟩⟩⟩⟩⟩,⟨⟨?m41,⟨?m42,⟨?m43,⟨?m44,⟨?m45,trivial⟩⟩⟩⟩⟩,trivial⟩⟩⟩⟩⟩⟩⟩,⟨.refl _,⟨.refl _,⟨.refl _,⟨.refl _,⟨?m46,trivial⟩⟩⟩⟩⟩⟩,⟨?s6,?m47⟩⟩⟩⟩⟩⟩,⟨⟨rfl⟩,⟨⟨rfl⟩,⟨⟨rfl⟩,⟨?x6,⟨⟨⟨⟨?m48,⟨.refl _,trivial⟩⟩,⟨⟨.refl _,trivial⟩,⟨⟨.refl _,trivial⟩,⟨⟨.refl _,trivial⟩,⟨⟨.refl _,⟨.refl _,⟨.refl _,⟨.refl _,⟨.refl _,trivial⟩⟩⟩⟩⟩,⟨⟨.refl _,⟨.refl _,⟨.refl _,⟨.refl _,⟨.refl _,trivial⟩⟩⟩⟩⟩,⟨⟨?m49,⟨?m50,⟨?m51,⟨?m52,⟨?m53,trivial⟩⟩⟩⟩⟩,trivial⟩⟩⟩⟩⟩⟩⟩,⟨.refl _,⟨.refl _,⟨.refl _,⟨.refl _,⟨?m54,trivial⟩⟩⟩⟩⟩⟩,⟨?s7,?m55⟩⟩⟩⟩⟩⟩⟩⟩,⟨⟨rfl⟩,⟨⟨rfl⟩,⟨⟨rfl⟩,⟨⟨rfl⟩,⟨?x7,⟨⟨⟨⟨?m56,⟨.refl _,trivial⟩⟩,⟨⟨.refl _,trivial⟩,⟨⟨.refl _,trivial⟩,⟨⟨.refl _,trivial⟩,⟨⟨.refl _,⟨.refl _,⟨.refl _,⟨.refl _,⟨.refl _,trivial⟩⟩⟩⟩⟩,⟨⟨.refl _,⟨.refl _,⟨.refl _,⟨.refl _,⟨.refl _,trivial⟩⟩⟩⟩⟩,⟨⟨?m57,⟨?m58,⟨?m59,⟨?m60,⟨?m61,trivial⟩⟩⟩⟩⟩,trivial⟩⟩⟩⟩⟩⟩⟩,⟨.refl _,⟨.refl _,⟨.refl _,⟨.refl _,⟨?m62,trivial⟩⟩⟩⟩⟩⟩,⟨?s8,?m63⟩⟩⟩⟩⟩⟩⟩⟩⟩⟩⟩⟩,⟨⟨rfl⟩,⟨⟨rfl⟩,⟨⟨⟨rfl⟩,⟨⟨⟨rfl⟩,⟨⟨rfl⟩,⟨⟨rfl⟩,⟨?x8,⟨⟨⟨⟨?m64,⟨.refl _,trivial⟩⟩,⟨⟨.refl _,trivial⟩,⟨⟨.refl _,trivial⟩,⟨⟨.refl _,trivial⟩,⟨⟨.refl _,⟨.refl _,⟨.refl _,⟨.refl _,⟨.refl _,trivial⟩⟩⟩⟩⟩,⟨⟨.refl _,⟨.refl _,⟨.refl _,⟨.refl _,⟨.refl _,trivial⟩⟩⟩⟩⟩,⟨⟨?m65,⟨?m66,⟨?m67,⟨?m68,⟨?m69,trivial⟩⟩⟩⟩⟩,trivial⟩⟩⟩⟩⟩⟩⟩,⟨.refl _,⟨.refl _,⟨.refl _,⟨.refl _,⟨?m70,trivial⟩⟩⟩⟩⟩⟩,⟨?s9,?m71⟩⟩⟩⟩⟩⟩,⟨⟨rfl⟩,⟨⟨rfl⟩,⟨⟨rfl⟩,⟨?x9,⟨⟨⟨⟨?m72,⟨.refl _,trivial⟩⟩,⟨⟨.refl _,trivial⟩,⟨⟨.refl _,trivial⟩,⟨⟨.refl _,trivial⟩,⟨⟨.refl _,⟨.refl _,⟨.refl _,⟨.refl _,⟨.refl _,trivial⟩⟩⟩⟩⟩,⟨⟨.refl _,⟨.refl _,⟨.refl _,⟨.refl _,⟨.refl _,trivial⟩⟩⟩⟩⟩,⟨⟨?m73,⟨?m74,⟨?m75,⟨?m76,⟨?m77,trivial⟩⟩⟩⟩⟩,trivial⟩⟩⟩⟩⟩⟩⟩,⟨.refl _,⟨.refl _,⟨.refl _,⟨.refl _,⟨?m78,trivial⟩⟩⟩⟩⟩⟩,⟨?s10,?m79⟩⟩⟩⟩⟩⟩⟩⟩,⟨⟨rfl⟩,⟨⟨rfl⟩,⟨⟨rfl⟩,⟨⟨rfl⟩,⟨?x10,⟨⟨⟨⟨?m80,⟨.refl _,trivial⟩⟩,⟨⟨.refl _,trivial⟩,⟨⟨.refl _,trivial⟩,⟨⟨.refl _,trivial⟩,⟨⟨.refl _,⟨.refl _,⟨.refl _,⟨.refl _,⟨.refl _,trivial⟩⟩⟩⟩⟩,⟨⟨.refl _,⟨.refl _,⟨.refl _,⟨.refl _,⟨.refl _,trivial⟩⟩⟩⟩⟩,⟨⟨?m81,⟨?m82,⟨?m83,⟨?m84,⟨?m85,trivial⟩⟩⟩⟩⟩,trivial⟩⟩⟩⟩⟩⟩⟩,⟨.refl _,⟨.refl _,⟨.refl _,⟨.refl _,⟨?m86,trivial⟩⟩⟩⟩⟩⟩,⟨?s11,?m87⟩⟩⟩⟩⟩⟩⟩⟩⟩⟩⟩⟩,fun hb0=>?m88⟩⟩,⟨⟨rfl⟩,⟨?s12,fun z1=>fun hz1=>Qaa.2 ⟨fun hb1=>⟨⟨rfl⟩,⟨⟨rfl⟩,⟨⟨⟨rfl⟩,⟨⟨⟨rfl⟩,⟨⟨rfl⟩,⟨⟨rfl⟩,⟨?x11,⟨⟨⟨⟨?m89,⟨.refl _,trivial⟩⟩,⟨⟨.refl _,trivial⟩,⟨⟨.refl _,trivial⟩,⟨⟨.refl _,trivial⟩,⟨⟨.refl _,⟨.refl _,⟨.refl _,⟨.refl _,⟨.refl _,trivial⟩⟩⟩⟩⟩,⟨⟨.refl _,⟨.refl _,⟨.refl _,⟨.refl _,⟨.refl _,trivial⟩⟩⟩⟩⟩,⟨⟨?m90,⟨?m91,⟨?m92,⟨?m93,⟨?m94,trivial⟩⟩⟩⟩⟩,trivial⟩⟩⟩⟩⟩⟩⟩,⟨.refl _,⟨.refl _,⟨.refl _,⟨.refl _,⟨?m95,trivial⟩⟩⟩⟩⟩⟩,⟨?s13,?m96⟩⟩⟩⟩⟩⟩,⟨⟨rfl⟩,⟨⟨rfl⟩,⟨⟨rfl⟩,⟨?x12,⟨⟨⟨⟨?m97,⟨.refl _,trivial⟩⟩,⟨⟨.refl _,trivial⟩,⟨⟨.refl _,trivial⟩,⟨⟨.refl _,trivial⟩,⟨⟨.refl _,⟨.refl _,⟨.refl _,⟨.refl _,⟨.refl _,trivial⟩⟩⟩⟩⟩,⟨⟨.refl _,⟨.refl _,⟨.refl _,⟨.refl _,⟨.refl _,trivial⟩⟩⟩⟩⟩,⟨⟨?m98,⟨?m99,⟨?m100,⟨?m101,⟨?m102,trivial⟩⟩⟩⟩⟩,trivial⟩⟩⟩⟩⟩⟩⟩,⟨.refl _,⟨.refl _,⟨.refl _,⟨.refl _,⟨?m103,trivial⟩⟩⟩⟩⟩⟩,⟨?s14,?m104⟩⟩⟩⟩⟩⟩⟩⟩,⟨⟨rfl⟩,⟨⟨rfl⟩,⟨⟨rfl⟩,⟨⟨rfl⟩,⟨?x13,⟨⟨⟨⟨?m105,⟨.refl _,trivial⟩⟩,⟨⟨.refl _,trivial⟩,⟨⟨.refl _,trivial⟩,⟨⟨.refl _,trivial⟩,⟨⟨.refl _,⟨.refl _,⟨.refl _,⟨.refl _,⟨.refl _,trivial⟩⟩⟩⟩⟩,⟨⟨.refl _,⟨.refl _,⟨.refl _,⟨.refl _,⟨.refl _,trivial⟩⟩⟩⟩⟩,⟨⟨?m106,⟨?m107,⟨?m108,⟨?m109,⟨?m110,trivial⟩⟩⟩⟩⟩,trivial⟩⟩⟩⟩⟩⟩⟩,⟨.refl _,⟨.refl _,⟨.refl _,⟨.refl _,⟨?m111,trivial⟩⟩⟩⟩⟩⟩,⟨?s15,?m112⟩⟩⟩⟩⟩⟩⟩⟩⟩⟩,fun hb1=>?m113⟩⟩⟩⟩⟩,⟨⟨rfl⟩,⟨⟨rfl⟩,⟨?s16,fun z1=>fun hz1=>Qaa.2 ⟨fun hb2=>⟨⟨rfl⟩,⟨⟨rfl⟩,⟨⟨⟨rfl⟩,⟨⟨⟨rfl⟩,⟨⟨rfl⟩,⟨⟨rfl⟩,⟨?x14,⟨⟨⟨⟨?m114,⟨.refl _,trivial⟩⟩,⟨⟨.refl _,trivial⟩,⟨⟨.refl _,trivial⟩,⟨⟨.refl _,trivial⟩,⟨⟨.refl _,⟨.refl _,⟨.refl _,⟨.refl _,⟨.refl _,trivial⟩⟩⟩⟩⟩,⟨⟨.refl _,⟨.refl _,⟨.refl _,⟨.refl _,⟨.refl _,trivial⟩⟩⟩⟩⟩,⟨⟨?m115,⟨?m116,⟨?m117,⟨?m118,⟨?m119,trivial⟩⟩⟩⟩⟩,trivial⟩⟩⟩⟩⟩⟩⟩,⟨.refl _,⟨.refl _,⟨.refl _,⟨.refl _,⟨?m120,trivial⟩⟩⟩⟩⟩⟩,⟨?s17,?m121⟩⟩⟩⟩⟩⟩,⟨⟨rfl⟩,⟨⟨rfl⟩,⟨⟨rfl⟩,⟨?x15,⟨⟨⟨⟨?m122,⟨.refl _,trivial⟩⟩,⟨⟨.refl _,trivial⟩,⟨⟨.refl _,trivial⟩,⟨⟨.refl _,trivial⟩,⟨⟨.refl _,⟨.refl _,⟨.refl _,⟨.refl _,⟨.refl _,trivial⟩⟩⟩⟩⟩,⟨⟨.refl _,⟨.refl _,⟨.refl _,⟨.refl _,⟨.refl _,trivial⟩⟩⟩⟩⟩,⟨⟨?m123,⟨?m124,⟨?m125,⟨?m126,⟨?m127,trivial⟩⟩⟩⟩⟩,trivial⟩⟩⟩⟩⟩⟩⟩,⟨.refl _,⟨.refl _,⟨.refl _,⟨.refl _,⟨?m128,trivial⟩⟩⟩⟩⟩⟩,⟨?s18,?m129⟩⟩⟩⟩⟩⟩⟩⟩,⟨⟨rfl⟩,⟨⟨rfl⟩,⟨⟨rfl⟩,⟨⟨rfl⟩,⟨?x16,⟨⟨⟨⟨?m130,⟨.refl _,trivial⟩⟩,⟨⟨.refl _,trivial⟩,⟨⟨.refl _,trivial⟩,⟨⟨.refl _,trivial⟩,⟨⟨.refl _,⟨.refl _,⟨.refl _,⟨.refl _,⟨.refl _,trivial⟩⟩⟩⟩⟩,⟨⟨.refl _,⟨.refl _,⟨.refl _,⟨.refl _,⟨.refl _,trivial⟩⟩⟩⟩⟩,⟨⟨?m131,⟨?m132,⟨?m133,⟨?m134,⟨?m135,trivial⟩⟩⟩⟩⟩,trivial⟩⟩⟩⟩⟩⟩⟩,⟨.refl _,⟨.refl _,⟨.refl _,⟨.refl _,⟨?m136,trivial⟩⟩⟩⟩⟩⟩,⟨?s19,?m137⟩⟩⟩⟩⟩⟩⟩⟩⟩⟩,fun hb2=>?m138⟩⟩⟩⟩⟩⟩,⟨⟨rfl⟩,⟨⟨rfl⟩,⟨⟨rfl⟩,⟨?s20,fun z1=>fun hz1=>Qaa.2 ⟨fun hb3=>⟨⟨rfl⟩,⟨⟨rfl⟩,⟨⟨⟨rfl⟩,⟨⟨⟨rfl⟩,⟨⟨rfl⟩,⟨⟨rfl⟩,⟨?x17,⟨⟨⟨⟨?m139,⟨.refl _,trivial⟩⟩,⟨⟨.refl _,trivial⟩,⟨⟨.refl _,trivial⟩,⟨⟨.refl _,trivial⟩,⟨⟨.refl _,⟨.refl _,⟨.refl _,⟨.refl _,⟨.refl _,trivial⟩⟩⟩⟩⟩,⟨⟨.refl _,⟨.refl _,⟨.refl _,⟨.refl _,⟨.refl _,trivial⟩⟩⟩⟩⟩,⟨⟨?m140,⟨?m141,⟨?m142,⟨?m143,⟨?m144,trivial⟩⟩⟩⟩⟩,trivial⟩⟩⟩⟩⟩⟩⟩,⟨.refl _,⟨.refl _,⟨.refl _,⟨.refl _,⟨?m145,trivial⟩⟩⟩⟩⟩⟩,⟨?s21,?m146⟩⟩⟩⟩⟩⟩,⟨⟨rfl⟩,⟨⟨rfl⟩,⟨⟨rfl⟩,⟨?x18,⟨⟨⟨⟨?m147,⟨.refl _,trivial⟩⟩,⟨⟨.refl _,trivial⟩,⟨⟨.refl _,trivial⟩,⟨⟨.refl _,trivial⟩,⟨⟨.refl _,⟨.refl _,⟨.refl _,⟨.refl _,⟨.refl _,trivial⟩⟩⟩⟩⟩,⟨⟨.refl _,⟨.refl _,⟨.refl _,⟨.refl _,⟨.refl _,trivial⟩⟩⟩⟩⟩,⟨⟨?m148,⟨?m149,⟨?m150,⟨?m151,⟨?m152,trivial⟩⟩⟩⟩⟩,trivial⟩⟩⟩⟩⟩⟩⟩,⟨.refl _,⟨.refl _,⟨.refl _,⟨.refl _,⟨?m153,trivial⟩⟩⟩⟩⟩⟩,⟨?s22,?m154⟩⟩⟩⟩⟩⟩⟩⟩,⟨⟨rfl⟩,⟨⟨rfl⟩,⟨⟨rfl⟩,⟨⟨rfl⟩,⟨?x19,⟨⟨⟨⟨?m155,⟨.refl _,trivial⟩⟩,⟨⟨.refl _,trivial⟩,⟨⟨.refl _,trivial⟩,⟨⟨.refl _,trivial⟩,⟨⟨.refl _,⟨.refl _,⟨.refl _,⟨.refl _,⟨.refl _,trivial⟩⟩⟩⟩⟩,⟨⟨.refl _,⟨.refl _,⟨.refl _,⟨.refl _,⟨.refl _,trivial⟩⟩⟩⟩⟩,⟨⟨?m156,⟨?m157,⟨?m158,⟨?m159,⟨?m160,trivial⟩⟩⟩⟩⟩,trivial⟩⟩⟩⟩⟩⟩⟩,⟨.refl _,⟨.refl _,⟨.refl _,⟨.refl _,⟨?m161,trivial⟩⟩⟩⟩⟩⟩,⟨?s23,?m162⟩⟩⟩⟩⟩⟩⟩⟩⟩⟩,fun hb3=>?m163⟩⟩⟩⟩⟩⟩⟩,⟨⟨rfl⟩,⟨⟨rfl⟩,⟨⟨rfl⟩,⟨⟨rfl⟩,⟨?s24,fun z1=>fun hz1=>Qaa.2 ⟨fun hb4=>⟨⟨rfl⟩,⟨⟨rfl⟩,⟨⟨⟨rfl⟩,⟨⟨⟨rfl⟩,⟨⟨rfl⟩,⟨⟨rfl⟩,⟨?x20,⟨⟨⟨⟨?m164,⟨.refl _,trivial⟩⟩,⟨⟨.refl _,trivial⟩,⟨⟨.refl _,trivial⟩,⟨⟨.refl _,trivial⟩,⟨⟨.refl _,⟨.refl _,⟨.refl _,⟨.refl _,⟨.refl _,trivial⟩⟩⟩⟩⟩,⟨⟨.refl _,⟨.refl _,⟨.refl _,⟨.refl _,⟨.refl _,trivial⟩⟩⟩⟩⟩,⟨⟨?m165,⟨?m166,⟨?m167,⟨?m168,⟨?m169,trivial⟩⟩⟩⟩⟩,trivial⟩⟩⟩⟩⟩⟩⟩,⟨.refl _,⟨.refl _,⟨.refl _,⟨.refl _,⟨?m170,trivial⟩⟩⟩⟩⟩⟩,⟨?s25,?m171⟩⟩⟩⟩⟩⟩,⟨⟨rfl⟩,⟨⟨rfl⟩,⟨⟨rfl⟩,⟨?x21,⟨⟨⟨⟨?m172,⟨.refl _,trivial⟩⟩,⟨⟨.refl _,trivial⟩,⟨⟨.refl _,trivial⟩,⟨⟨.refl _,trivial⟩,⟨⟨.refl _,⟨.refl _,⟨.refl _,⟨.refl _,⟨.refl _,trivial⟩⟩⟩⟩⟩,⟨⟨.refl _,⟨.refl _,⟨.refl _,⟨.refl _,⟨.refl _,trivial⟩⟩⟩⟩⟩,⟨⟨?m173,⟨?m174,⟨?m175,⟨?m176,⟨?m177,trivial⟩⟩⟩⟩⟩,trivial⟩⟩⟩⟩⟩⟩⟩,⟨.refl _,⟨.refl _,⟨.refl _,⟨.refl _,⟨?m178,trivial⟩⟩⟩⟩⟩⟩,⟨?s26,?m179⟩⟩⟩⟩⟩⟩⟩⟩,⟨⟨rfl⟩,⟨⟨rfl⟩,⟨⟨rfl⟩,⟨⟨rfl⟩,⟨?x22,⟨⟨⟨⟨?m180,⟨.refl _,trivial⟩⟩,⟨⟨.refl _,trivial⟩,⟨⟨.refl _,trivial⟩,⟨⟨.refl _,trivial⟩,⟨⟨.refl _,⟨.refl _,⟨.refl _,⟨.refl _,⟨.refl _,trivial⟩⟩⟩⟩⟩,⟨⟨.refl _,⟨.refl _,⟨.refl _,⟨.refl _,⟨.refl _,trivial⟩⟩⟩⟩⟩,⟨⟨?m181,⟨?m182,⟨?m183,⟨?m184,⟨?m185,trivial⟩⟩⟩⟩⟩,trivial⟩⟩⟩⟩⟩⟩⟩,⟨.refl _,⟨.refl _,⟨.refl _,⟨.refl _,⟨?m186,trivial⟩⟩⟩⟩⟩⟩,⟨?s27,?m187⟩⟩⟩⟩⟩⟩⟩⟩⟩⟩,fun hb4=>?m188⟩⟩⟩⟩⟩⟩⟩⟩,fun z1=>fun hq5=>Qaa.2 ⟨fun hb6=>?m189,fun hb6=>⟨?s28,Qaa.2 ⟨fun hb7=>⟨?s29,⟨?x23,⟨?s30,⟨?s31,⟨trivial,fun z3=>fun hq8=>fun _=>Qaa.2 ⟨fun hb9=>⟨?s32,⟨⟨rfl⟩,⟨⟨⟨rfl⟩,⟨⟨rfl⟩,⟨?s33,Qaa.2 ⟨fun hb10=>⟨⟨rfl⟩,⟨⟨rfl⟩,⟨?s34,⟨⟨rfl⟩,⟨⟨rfl⟩,⟨?x24,⟨⟨⟨⟨?m190,⟨.refl _,trivial⟩⟩,⟨⟨.refl _,trivial⟩,⟨⟨.refl _,trivial⟩,⟨⟨.refl _,trivial⟩,⟨⟨.refl _,⟨.refl _,⟨.refl _,⟨.refl _,⟨.refl _,trivial⟩⟩⟩⟩⟩,⟨⟨.refl _,⟨.refl _,⟨.refl _,⟨.refl _,⟨.refl _,trivial⟩⟩⟩⟩⟩,⟨⟨.refl _,⟨.refl _,⟨.refl _,⟨.refl _,⟨?m191,trivial⟩⟩⟩⟩⟩,trivial⟩⟩⟩⟩⟩⟩⟩,⟨.refl _,⟨.refl _,⟨.refl _,⟨.refl _,⟨.refl _,⟨.refl _,⟨?m192,trivial⟩⟩⟩⟩⟩⟩⟩⟩,⟨?s35,⟨trivial,?m193⟩⟩⟩⟩⟩⟩⟩⟩⟩,fun hb10=>?m194⟩⟩⟩⟩,⟨⟨rfl⟩,⟨⟨⟨rfl⟩,⟨?s36,Qaa.2 ⟨fun hb11=>⟨⟨rfl⟩,⟨⟨rfl⟩,⟨?s37,⟨⟨rfl⟩,⟨⟨rfl⟩,⟨?x25,⟨⟨⟨⟨?m195,⟨.refl _,trivial⟩⟩,⟨⟨.refl _,trivial⟩,⟨⟨.refl _,trivial⟩,⟨⟨.refl _,trivial⟩,⟨⟨.refl _,⟨.refl _,⟨.refl _,⟨.refl _,⟨.refl _,trivial⟩⟩⟩⟩⟩,⟨⟨.refl _,⟨.refl _,⟨.refl _,⟨.refl _,⟨.refl _,trivial⟩⟩⟩⟩⟩,⟨⟨.refl _,⟨.refl _,⟨.refl _,⟨.refl _,⟨?m196,trivial⟩⟩⟩⟩⟩,trivial⟩⟩⟩⟩⟩⟩⟩,⟨.refl _,⟨.refl _,⟨.refl _,⟨.refl _,⟨.refl _,⟨.refl _,⟨?m197,trivial⟩⟩⟩⟩⟩⟩⟩⟩,⟨?s38,⟨trivial,?m198⟩⟩⟩⟩⟩⟩⟩⟩⟩,fun hb11=>?m199⟩⟩⟩,⟨?s39,Qaa.2 ⟨fun hb12=>⟨⟨rfl⟩,⟨⟨⟨rfl⟩,⟨⟨rfl⟩,⟨?s40,⟨⟨rfl⟩,⟨⟨rfl⟩,⟨?x26,⟨⟨⟨⟨?m200,⟨.refl _,trivial⟩⟩,⟨⟨.refl _,trivial⟩,⟨⟨.refl _,trivial⟩,⟨⟨.refl _,trivial⟩,⟨⟨.refl _,⟨.refl _,⟨.refl _,⟨.refl _,⟨.refl _,trivial⟩⟩⟩⟩⟩,⟨⟨.refl _,⟨.refl _,⟨.refl _,⟨.refl _,⟨.refl _,trivial⟩⟩⟩⟩⟩,⟨⟨.refl _,⟨.refl _,⟨.refl _,⟨.refl _,⟨?m201,trivial⟩⟩⟩⟩⟩,trivial⟩⟩⟩⟩⟩⟩⟩,⟨.refl _,⟨.refl _,⟨.refl _,⟨.refl _,⟨.refl _,⟨.refl _,⟨?m202,trivial⟩⟩⟩⟩⟩⟩⟩⟩,⟨?s41,⟨trivial,?m203⟩⟩⟩⟩⟩⟩⟩⟩⟩,⟨⟨rfl⟩,⟨⟨rfl⟩,⟨?s42,⟨⟨rfl⟩,⟨⟨rfl⟩,⟨?x27,⟨⟨⟨⟨?m204,⟨.refl _,trivial⟩⟩,⟨⟨.refl _,trivial⟩,⟨⟨.refl _,trivial⟩,⟨⟨.refl _,trivial⟩,⟨⟨.refl _,⟨.refl _,⟨.refl _,⟨.refl _,⟨.refl _,trivial⟩⟩⟩⟩⟩,⟨⟨.refl _,⟨.refl _,⟨.refl _,⟨.refl _,⟨.refl _,trivial⟩⟩⟩⟩⟩,⟨⟨.refl _,⟨.refl _,⟨.refl _,⟨.refl _,⟨?m205,trivial⟩⟩⟩⟩⟩,trivial⟩⟩⟩⟩⟩⟩⟩,⟨.refl _,⟨.refl _,⟨.refl _,⟨.refl _,⟨.refl _,⟨.refl _,⟨?m206,trivial⟩⟩⟩⟩⟩⟩⟩⟩,⟨?s43,⟨trivial,?m207⟩⟩⟩⟩⟩⟩⟩⟩⟩⟩⟩,fun hb12=>?m208⟩⟩⟩⟩⟩⟩⟩,fun hb9=>?m209⟩⟩⟩⟩⟩⟩,fun hb7=>?m210⟩⟩⟩⟩
      all_goals try simp only [etaT] at *
      case x0=>exact putW l ts t.kind t.name
      case x1=>exact putW l ts t.kind t.name
      case x2=>exact putW l ts t.kind t.name
      case x3=>exact putW l ts t.kind t.name
      case x4=>exact putW l ts t.kind t.name
      case x5=>exact putW l ts t.kind t.name
      case x6=>exact putW l ts t.kind t.name
      case x7=>exact putW l ts t.kind t.name
      case x8=>exact putW l ts t.kind t.name
      case x9=>exact putW l ts t.kind t.name
      case x10=>exact putW l ts t.kind t.name
      case x11=>exact putW l ts t.kind t.name
      case x12=>exact putW l ts t.kind t.name
      case x13=>exact putW l ts t.kind t.name
      case x14=>exact putW l ts t.kind t.name
      case x15=>exact putW l ts t.kind t.name
      case x16=>exact putW l ts t.kind t.name
      case x17=>exact putW l ts t.kind t.name
      case x18=>exact putW l ts t.kind t.name
      case x19=>exact putW l ts t.kind t.name
      case x20=>exact putW l ts t.kind t.name
      case x21=>exact putW l ts t.kind t.name
      case x22=>exact putW l ts t.kind t.name
      case x23=>exact 0
      case x24=>exact z3+1
      case x25=>exact z3+1
      case x26=>exact z3+1
      case x27=>exact z3+1
      all_goals try simp only [Tw.eta,Int.toNat_natCast,decide_eq_true_eq,decide_eq_false_iff_not,Int.ofNat_lt] at *
      all_goals try subst hz1
      all_goals have hsm:=Qsy l ts t
      all_goals try obtain ⟨rfl,hq5b⟩:=hq5
      all_goals try first
       | exact .refl _
       | exact rfl
       | exact ⟨⟨hft,hts⟩,⟨hl,htl⟩,hn,hm0,hm1⟩
       | exact (show m+(sizO (putW l ts t.kind t.name):Int)≤20000 by omega)
      case m189 =>
       obtain ⟨u,hu⟩:=Option.isSome_iff_exists.1 hb6
       have e:=Qc0 hu
       rw [hu] at hq5b ⊢
       refine QfP (decide_eq_true (by rw [e]; exact hq5b)) ?_
       rw [e]
       exact endU (ob:=[.cells [iV (m+sizO (some u)),.fn 208 [] [.bp 1 0,.bp 2 0,.bp 3 0]],.cells [iV n],.cells [.f (.dt .str l)],.cells [.f (.dt .tm ts)]]) rfl (.refl (tmP u)) rfl rfl rfl
      all_goals try (have hp:=Qqj hb6; have hsz:=Qsx hp; have hno:=QdA hp; simp only [hp,sizO0 m] at *)
      all_goals have hsz2:t.size=szL t.kids+1:=Tw.size_eq t
      all_goals have hkl:=f2.2.2.1
      case s28=>exact ⟨hm0,hm1⟩
      case s29=>exact hft
      case s30=>repeat' first | exact SubB.refl _ | exact trivial | exact rfl | exact Qad (by simp [szL,Qax]) | refine And.intro ?_ ?_
      case s31=>exact ⟨Nat.zero_le _,by simp [szL,Qax]; omega,trivial⟩
      case m209 =>
       have e:z3=t.kids.length:=by omega
       have e2:t.kids.take z3=t.kids:=by rw [e,List.take_length]
       rw [e2]
       rw [e2] at hq8
       rw [show m+1+(szL (Qax l ts t.kids):Int)=m+(Qam l ts t).size by omega]
       refine QfP (decide_eq_true (by omega)) ?_
       rw [hno]
       exact endU (ob:=[.cells [iV (m+(Tw.mk t.kind t.name t.neg t.digits (Qax l ts t.kids)).size),.fn 208 [] [.bp 1 0,.bp 2 0,.bp 3 0]],.cells [iV n],.cells [.f (.dt .str l)],.cells [.f (.dt .tm ts)]]) rfl (.refl (tmP (.mk t.kind t.name t.neg t.digits (Qax l ts t.kids)))) rfl rfl rfl
      case m210 =>
       obtain rfl:m=20000:=by omega
       exact Qeo (decide_eq_false (by have:=(Qam l ts t).size_pos; omega)) (endU rfl (.refl _) rfl rfl rfl)
      all_goals try (have h1:=Qmt l ts hb9)
      all_goals try (have h2:=Qjt l ts t.kids (z3+1))
      all_goals try (have h3:=QnA hb9)
      all_goals first
       | exact Qeo (decide_eq_false (by omega)) (endU rfl (.refl _) rfl rfl rfl)
       | exact ⟨by omega,⟨QaR _ f2.2.2.2 hb9,hts⟩,⟨hl,htl⟩,hn,by omega,by omega⟩
       | exact ⟨by rw [Qea,List.length_take]; omega,by rw [Qea,List.length_take]; omega⟩
       | exact ⟨by omega,hb9⟩
       | exact Qad (by omega)
       | exact Qa4 (congrArg (Lf.dt Sh.tm) (Qff l ts hb9))
       | exact .refl _
       | exact Qad (by rw [wJ _ (by omega) (by omega)]; rfl)
       | exact ⟨by omega,by omega,trivial⟩
       | (show t.kids.length - (z3+1)<t.kids.length - z3; omega)
    · cases hs
  · cases hs
end Go.Proofs.YtijfaigpilfpaaaGreatDoor
