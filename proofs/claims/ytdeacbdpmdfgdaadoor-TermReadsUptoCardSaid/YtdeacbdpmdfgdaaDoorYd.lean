/- The layer term: Of, of any text. -/
import Derived.Test.YtdeacbdpmdfgdaaDoorYc
import Derived.Test.YtdeacbdpmdfgdaaDoorUd
set_option linter.unusedSimpArgs false
namespace Go.Proofs.YtdeacbdpmdfgdaaDoor
open Go.RowKit
set_option linter.unusedVariables false
set_option maxRecDepth 100000
def rdE (s:List UInt8):Except Int Tw:=match rdO s with
 | some (t,r)=>if r=[] then .ok t else .error 4
 | none=>.error 4
theorem rdE_ok {s:List UInt8} {t:Tw} (h:rdO s=some (t,[])):rdE s=.ok t:=by unfold rdE; rw [h]; exact if_pos rfl
theorem rdE_no {s:List UInt8} (h:rdO s=none):rdE s=.error 4:=by unfold rdE; rw [h]
theorem rdE_not {s:List UInt8} {t:Tw} {r:List UInt8} (h:rdO s=some (t,r)) (hr:¬ r=[]):rdE s=.error 4:=by unfold rdE; rw [h]; exact if_neg hr
theorem endG2 {o:Bool × PV × List PO} {t:Bool} {x y:PV} {q:PO} {r:List PO} (h:o=(t,y,[.cells [.bp 1 0],.gone])) (hx:SubB x y) (hn:newT (PO.cells [.bp 1 0]::q::r).length x y=false) (hb:belowP 2 y=true):EndU 2 o t x (.cells [.bp 1 0]::q::r):=by
 subst h
 refine ⟨rfl,?_⟩
 unfold Weak
 have hb':(belowE 2 [(0,y)] && (belowO 2 [.cells [.bp 1 0],.gone] && Nat.ble 2 2))=true:=by
  unfold belowE; rw [hb]; rfl
 show (match belowE 2 [(0,y)] && (belowO 2 [.cells [.bp 1 0],.gone] && Nat.ble 2 2) with
  | true=>_
  | false=>False)
 rw [hb']
 refine ⟨⟨⟨SubB.refl _,trivial⟩,trivial⟩,?_⟩
 show (match newT (PO.cells [.bp 1 0]::q::r).length x y with | true=>emptyT y∧True | false=>SubB x y∧True)
 rw [hn]
 exact ⟨hx,trivial⟩
theorem rd_some {s:List UInt8} {z:Option (Tw × List UInt8)} (hz:z=rdO s) (hs:z.isSome=true):rdO s=some ((z.getD (Sh.tm.nil,[])).1,(z.getD (Sh.tm.nil,[])).2):=hz.symm.trans (some_get _ hs)
theorem rd_none {s:List UInt8} {z:Option (Tw × List UInt8)} (hz:z=rdO s) (hs:z.isSome=false):rdO s=none:=hz.symm.trans (by cases z <;> first | rfl | cases hs)
def sRdA:Spec2
 | [.bp 0 0],[.cells [.f (.v (.string s))]]=>some (.need (s.size<4294967281) (rdOut s))
 | _,_=>none
theorem cRdA {E:Env} (hU:Up E) (hT:∀ K w H,E K w H→Tab w) (hMx:∀ K w H,E K w H→∃ m,H 0 0=some (.int .i64 m)) (hEr:ErrsIn E):Contract2 Tryd.prog E 43 sRdA:=by
 intro xs ob o hs hok
 unfold sRdA at hs
 split at hs
 · rename_i s
   cases hs
   have h:=cRdX hU hT hMx hEr (s.size+1) [.bp 0 0] [.cells [.f (.v (.string s))]] _ rfl ⟨⟨Nat.lt_succ_self _,hok.1⟩,hok.2⟩
   exact h
 · cases hs
def sOf1X:Spec2
 | [.bp 0 0],[.cells [.bp 1 0],.cells [.f (.v (.string s))]]=>some (.need (s.size<4294967281) (outE Sh.tm.nil tmP (rdE s.data.toList) [.cells [.bp 1 0],.gone]))
 | _,_=>none
theorem cOf1X {E:Env} (hU:Up E) (hT:∀ K w H,E K w H→Tab w) (hMx:∀ K w H,E K w H→∃ m,H 0 0=some (.int .i64 m)) (hEr:ErrsIn E):Contract2 Tryd.prog E 42 sOf1X:=by
 refine contract2 [] [(43,sRdA),(44,sMust)] Tryd.ntmps42 Tryd.func42 (by kernel_rfl) (by kernel_rfl) hU trivial ⟨cRdA hU hT hMx hEr,cMust hU,trivial⟩ ?_
 intro xs ob o hs hok
 unfold sOf1X at hs
 split at hs
 · rename_i s
   cases hs
   obtain ⟨hsz,-⟩:=hok
   refine ⟨[.bp 0 0],[],.cons (.refl _) .nil,rfl,fun _ hsh=>?_⟩
   have h0:=hsz
   refine cast_rfl (p:=s.size<4294967281∧∀ (z1:Option (Tw × List UInt8)),z1=rdO s.data.toList→ifB z1.isSome (ifB ((bA (z1.getD (Sh.tm.nil,[])).snd).toList==(ByteArray.mk #[]).toList) (EndU 2 (Out.need (s.size<4294967281) (outE Sh.tm.nil tmP (rdE s.data.toList) [PO.cells [PV.bp 1 0],PO.gone])).fin true (PV.agg [PV.f (Lf.v (Value.int IntKind.u8 (z1.getD (Sh.tm.nil,[])).fst.kind)),sV ((z1.getD (Sh.tm.nil,[])).fst.name),bV ((z1.getD (Sh.tm.nil,[])).fst.neg),PV.f (Lf.lr (z1.getD (Sh.tm.nil,[])).fst.digits (z1.getD (Sh.tm.nil,[])).fst.digits.length),PV.f (Lf.dt Sh.tm (z1.getD (Sh.tm.nil,[])).fst.kids)]) [PO.cells [PV.bp 1 0],PO.cells [sV (bA (z1.getD (Sh.tm.nil,[])).snd)],PO.cells [PV.f (Lf.v (Value.int IntKind.u8 (z1.getD (Sh.tm.nil,[])).fst.kind)),sV ((z1.getD (Sh.tm.nil,[])).fst.name),bV ((z1.getD (Sh.tm.nil,[])).fst.neg),PV.f (Lf.lr (z1.getD (Sh.tm.nil,[])).fst.digits (z1.getD (Sh.tm.nil,[])).fst.digits.length),PV.f (Lf.dt Sh.tm (z1.getD (Sh.tm.nil,[])).fst.kids)],PO.cells [PV.f (Lf.v (Value.int IntKind.u8 (z1.getD (Sh.tm.nil,[])).fst.kind)),sV ((z1.getD (Sh.tm.nil,[])).fst.name),bV ((z1.getD (Sh.tm.nil,[])).fst.neg),PV.f (Lf.lr (z1.getD (Sh.tm.nil,[])).fst.digits (z1.getD (Sh.tm.nil,[])).fst.digits.length),PV.f (Lf.dt Sh.tm (z1.getD (Sh.tm.nil,[])).fst.kids)]]) (EndU 2 (Out.need (s.size<4294967281) (outE Sh.tm.nil tmP (rdE s.data.toList) [PO.cells [PV.bp 1 0],PO.gone])).fin false (PV.ifc 35 (iV 4)) [PO.cells [PV.bp 1 0],PO.cells [sV (bA (z1.getD (Sh.tm.nil,[])).snd)],PO.cells [PV.f (Lf.v (Value.int IntKind.u8 0)),sV (ByteArray.mk #[]),bV false,PV.f (Lf.v (Value.slice none 0 0)),PV.f (Lf.v (Value.slice none 0 0))],PO.cells [PV.f (Lf.v (Value.int IntKind.u8 (z1.getD (Sh.tm.nil,[])).fst.kind)),sV ((z1.getD (Sh.tm.nil,[])).fst.name),bV ((z1.getD (Sh.tm.nil,[])).fst.neg),PV.f (Lf.lr (z1.getD (Sh.tm.nil,[])).fst.digits (z1.getD (Sh.tm.nil,[])).fst.digits.length),PV.f (Lf.dt Sh.tm (z1.getD (Sh.tm.nil,[])).fst.kids)]])) (EndU 2 (Out.need (s.size<4294967281) (outE Sh.tm.nil tmP (rdE s.data.toList) [PO.cells [PV.bp 1 0],PO.gone])).fin false (PV.ifc 35 (iV 4)) [PO.cells [PV.bp 1 0],PO.gone,PO.cells [PV.f (Lf.v (Value.int IntKind.u8 0)),sV (ByteArray.mk #[]),bV false,PV.f (Lf.v (Value.slice none 0 0)),PV.f (Lf.v (Value.slice none 0 0))]])) ?kr ?_
   case kr=>kernel_rfl
   refine ⟨?s0,fun z1=>fun hz1=>ifB_iff.2 ⟨fun hb0=>ifB_iff.2 ⟨fun hb1=>?m0,fun hb1=>?m1⟩,fun hb0=>?m2⟩⟩
   all_goals try simp only [bs_l,decide_eq_true_eq,decide_eq_false_iff_not] at *
   case s0=>exact hsz
   case m0 =>
    have h1:=rd_some hz1 hb0
    rw [nil_of hb1] at h1
    exact endU_need (endG2 (outE_ok (rdE_ok h1)) (.refl _) rfl rfl)
   case m1=>exact endU_need (endG2 (outE_err (rdE_not (rd_some hz1 hb0) fun e=>hb1 (by rw [e]; rfl))) (.refl _) rfl rfl)
   case m2=>exact endU_need (endG2 (outE_err (rdE_no (rd_none hz1 hb0))) (.refl _) rfl rfl)
 · cases hs
def sTriedX:Spec2
 | [.fn 42 [] [.bp 0 0]],[.cells [.bp 1 0],.cells [.f (.v (.string s))]]=>some (.need (s.size<4294967281) (.nm (Except Int Tw) (rdE s.data.toList) fun z=>.ret (.tup [tmP (valE Sh.tm.nil z),iV (errE z)]) [.cells [.bp 1 0],.gone]))
 | _,_=>none
theorem cTriedX {E:Env} (hU:Up E) (hT:∀ K w H,E K w H→Tab w) (hMx:∀ K w H,E K w H→∃ m,H 0 0=some (.int .i64 m)) (hEr:ErrsIn E):Contract2 Tryd.prog E 41 sTriedX:=by
 refine contract2_tried (cf:=66) [] [(42,sOf1X)] Tryd.ntmps41 Tryd.func41 rfl (by kernel_rfl) hU trivial ⟨cOf1X hU hT hMx hEr,trivial⟩ rfl rfl rfl rfl rfl rfl Tryd.ntmps66 Tryd.func66 rfl rfl rfl rfl rfl rfl rfl (by kernel_rfl) (by kernel_rfl) (by kernel_rfl) ?_
 intro xs ob o hs hok
 unfold sTriedX at hs
 split at hs
 · rename_i s
   cases hs
   obtain ⟨hneed,-⟩:=hok
   refine ⟨[.fn 42 [] [.bp 0 0]],.cons (.refl _) .nil,rfl,?_⟩
   have h0:=hneed
   refine cast_rfl (p:=s.size<4294967281∧∀ (z1:Except Int Sh.tm.T),z1=rdE s.data.toList→ifB (okE z1) (EndU 2 (Out.need (s.size<4294967281) (Out.nm (Except Int Tw) (rdE s.data.toList) fun (z:Except Int Tw)=>Out.ret (PV.tup [tmP (valE Sh.tm.nil z),iV (errE z)]) [PO.cells [PV.bp 1 0],PO.gone])).fin true (PV.tup [PV.agg (wrapF (tmC (valE Sh.tm.nil z1))),iV 0]) [PO.cells [PV.bp 1 0],PO.gone,PO.cells (wrapF (tmC (valE Sh.tm.nil z1))),PO.cells [iV 0]]) (EndU 2 (Out.need (s.size<4294967281) (Out.nm (Except Int Tw) (rdE s.data.toList) fun (z:Except Int Tw)=>Out.ret (PV.tup [tmP (valE Sh.tm.nil z),iV (errE z)]) [PO.cells [PV.bp 1 0],PO.gone])).fin true (PV.tup [PV.agg [PV.f (Lf.v (Value.int IntKind.u8 0)),sV (ByteArray.mk #[]),bV false,PV.f (Lf.v (Value.slice none 0 0)),PV.f (Lf.v (Value.slice none 0 0))],iV (errE z1)]) [PO.cells [PV.bp 1 0],PO.gone,PO.cells [PV.f (Lf.v (Value.int IntKind.u8 0)),sV (ByteArray.mk #[]),bV false,PV.f (Lf.v (Value.slice none 0 0)),PV.f (Lf.v (Value.slice none 0 0))],PO.cells [iV (errE z1)],PO.cells [PV.f (Lf.v (Value.int IntKind.u8 0)),sV (ByteArray.mk #[]),bV false,PV.f (Lf.v (Value.slice none 0 0)),PV.f (Lf.v (Value.slice none 0 0))]])) ?kr ?_
   case kr=>kernel_rfl
   refine ⟨?s0,fun z1=>fun hz1=>ifB_iff.2 ⟨fun hb0=>?m0,fun hb0=>?m1⟩⟩
   case s0=>exact hneed
   case m0 =>
    obtain ⟨x,rfl⟩:=okE_ex hb0
    exact endR (pv:=fun z=>.tup [tmP (valE Sh.tm.nil z),iV (errE z)]) hz1 (.refl (.tup [tmP x,iV 0])) rfl rfl rfl
   case m1 =>
    obtain e | x:=z1
    · exact endR (pv:=fun z=>.tup [tmP (valE Sh.tm.nil z),iV (errE z)]) hz1 (tupBs (.cons (tm_sub (t:=Sh.tm.nil) rfl) (.cons (.refl _) .nil))) rfl rfl rfl
    · cases hb0
 · cases hs
def sOfX:Spec
 | [.f (.v (.string s))]=>some (some (s.size<4294967281),.nm (Except Int Tw) (rdE s.data.toList) fun z=>.tup [tmP (valE Sh.tm.nil z),bV (errE z==0)])
 | _=>none
theorem cOfX {E:Env} (hU:Up E) (hT:∀ K w H,E K w H→Tab w) (hMx:∀ K w H,E K w H→∃ m,H 0 0=some (.int .i64 m)) (hEr:ErrsIn E):Contract Tryd.prog E 13 sOfX:=by
 refine contract_D [] [(41,sTriedX)] Tryd.ntmps13 Tryd.func13 (by kernel_rfl) (by kernel_rfl) hU trivial ⟨cTriedX hU hT hMx hEr,trivial⟩ ?_
 intro xs p r hs hp
 unfold sOfX at hs
 split at hs
 · rename_i s
   cases hs
   have hsz:=hp _ rfl
   refine ⟨[.f (.v (.string s))],[],.cons (.refl _) .nil,rfl,fun _ hsh=>?_⟩
   have h0:=hsz
   refine cast_rfl (p:=s.size<4294967281∧∀ (z1:Except Int Tw),z1=rdE s.data.toList→true=true∧Sub (PV.tup [PV.agg (wrapF (tmC (valE Sh.tm.nil z1))),bV (errE z1==(0:Int))]) (PV.tup [PV.agg (wrapF (tmC (valE Sh.tm.nil (rdE s.data.toList)))),bV (errE (rdE s.data.toList)==(0:Int))])) ?kr ?_
   case kr=>kernel_rfl
   refine ⟨?s0,fun z1=>fun hz1=>⟨rfl,?m0⟩⟩
   case s0=>exact hsz
   case m0=>subst hz1; exact .refl _
 · cases hs
end Go.Proofs.YtdeacbdpmdfgdaaDoor
