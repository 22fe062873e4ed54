/- Terms put for names: the contract of Subst. -/
import Derived.Test.YtdeacbdpmdfgdaaDoorUc
import Derived.Test.YtdeacbdpmdfgdaaDoorCc
set_option linter.unusedSimpArgs false
namespace Go.Proofs.YtdeacbdpmdfgdaaDoor
open Go.RowKit
set_option linter.unusedVariables false
set_option maxRecDepth 100000
theorem endW {n0:Nat} {o:Bool × PV × List PO} {t:Bool} {x y:PV} {ob ob':List PO} (h:o=(t,y,ob)) (hx:SubB x y) (hn:newT ob'.length x y=false) (hb:(belowP ob.length y && (belowO ob.length ob && Nat.ble n0 ob.length))=true) (hw:weakO ob'.length ob ob'):EndU n0 o t x ob':=by
 subst h
 refine ⟨rfl,?_⟩
 unfold Weak
 have hb':(belowE ob.length [(0,y)] && (belowO ob.length ob && Nat.ble n0 ob.length))=true:=by
  simp only [Bool.and_eq_true] at hb ⊢
  refine ⟨?_,hb.2⟩
  unfold belowE
  rw [hb.1]; rfl
 dsimp only
 rw [hb']
 refine ⟨hw,?_⟩
 show (match newT ob'.length x y with | true=>emptyT y∧True | false=>SubB x y∧True)
 rw [hn]
 exact ⟨hx,trivial⟩
def sNamesF:Spec2
 | [.f (.dt .str l),.f (.dt .tm ts)],[]=>some (.ret (.bp 3 0) [.cells [.f (.dt .str l)],.cells [.f (.dt .tm ts)],.cells [iV (min (l.length:Int) ts.length)],.cells [iV 0,.fn 86 [] [.bp 2 0,.bp 0 0,.bp 1 0]]])
 | _,_=>none
theorem cNamesF {E:Env} (hU:Up E):Contract2 Tryd.prog E 63 sNamesF:=by
 refine contract2 [] [] Tryd.ntmps63 Tryd.func63 (by kernel_rfl) (by kernel_rfl) hU trivial trivial ?_
 intro xs ob o hs hok
 unfold sNamesF at hs
 split at hs
 · rename_i l ts
   cases hs
   refine ⟨[.f (.dt .str l),.f (.dt .tm ts)],[],.cons (.refl _) (.cons (.refl _) .nil),rfl,fun _ hsh=>?_⟩
   have h0:=hsh
   refine cast_rfl (p:=EndU 0 (Out.ret (PV.bp 3 0) [PO.cells [PV.f (Lf.dt Sh.str l)],PO.cells [PV.f (Lf.dt Sh.tm ts)],PO.cells [iV (min (↑l.length:Int) (↑ts.length:Int))],PO.cells [iV (0:Int),PV.fn 86 [] [PV.bp 2 0,PV.bp 0 0,PV.bp 1 0]]]).fin true (PV.bp 3 0) [PO.cells [PV.f (Lf.dt Sh.str l)],PO.cells [PV.f (Lf.dt Sh.tm ts)],PO.cells [iV (min (↑l.length:Int) (↑ts.length:Int))],PO.cells [iV 0,PV.fn 86 [] [PV.bp 2 0,PV.bp 0 0,PV.bp 1 0]]]) ?kr ?_
   case kr=>kernel_rfl
   refine ?m0
   case m0 =>
    generalize min (l.length:Int) ts.length=n
    exact endU rfl (.refl _) rfl rfl rfl
 · cases hs
def sOfU:Spec2
 | [.bp 0 0,x],[.cells [.f (.v (.int .i64 m)),.fn 86 [] [.bp 1 0,.bp 2 0,.bp 3 0]],.cells [.f (.v (.int .i64 n))],.cells [.f (.dt .str l)],.cells [.f (.dt .tm ts)]]=>match tmOf x with
  | some t=>some (.need ((t.fitT∧∀ u∈ts,u.fitT)∧(l.length≤100000000∧ts.length≤100000000)∧n=(min l.length ts.length:Nat)∧0≤m∧m≤20000) (.br (decide (m+(substT l ts t).size≤20000)) (.ret (tmP (substT l ts t)) [.cells [iV (m+(substT l ts t).size),.fn 86 [] [.bp 1 0,.bp 2 0,.bp 3 0]],.cells [iV n],.cells [.f (.dt .str l)],.cells [.f (.dt .tm ts)]]) (.pan (eP 34) [.cells [iV 20001,.fn 86 [] [.bp 1 0,.bp 2 0,.bp 3 0]],.cells [iV n],.cells [.f (.dt .str l)],.cells [.f (.dt .tm ts)]])))
  | none=>none
 | _,_=>none
theorem cOfU {E:Env} (hU:Up E):Contract2 Tryd.prog E 65 sOfU:=by
 intro xs ob o hs hok
 unfold sOfU at hs
 split at hs
 · rename_i x m n l ts
   split at hs
   · rename_i t ht
     cases hs
     refine cOfUN hU (t.size+1) [.bp 0 0,x] _ (.need (t.size<t.size+1∧(t.fitT∧∀ u∈ts,u.fitT)∧(l.length≤100000000∧ts.length≤100000000)∧n=(min l.length ts.length:Nat)∧0≤m∧m≤20000) (.br (decide (m+(substT l ts t).size≤20000)) (.ret (tmP (substT l ts t)) [.cells [iV (m+(substT l ts t).size),.fn 86 [] [.bp 1 0,.bp 2 0,.bp 3 0]],.cells [iV n],.cells [.f (.dt .str l)],.cells [.f (.dt .tm ts)]]) (.pan (eP 34) [.cells [iV 20001,.fn 86 [] [.bp 1 0,.bp 2 0,.bp 3 0]],.cells [iV n],.cells [.f (.dt .str l)],.cells [.f (.dt .tm ts)]]))) (by simp only [sOfUN,ht]) ⟨⟨Nat.lt_succ_self _,hok.1⟩,hok.2⟩
   · cases hs
 · cases hs
def sSubst1:Spec2
 | [.bp 0 0,.bp 1 0],[.cells [.bp 2 0],.cells [.f (.v (.int .u8 k)),.f (.v (.string nm)),.f (.v (.bool b)),.f (.lr d dl),.f (.dt .tm kids)],.cells [.f (.v (.int .i64 0)),.fn 86 [] [.bp 3 0,.bp 4 0,.bp 5 0]],.cells [.f (.v (.int .i64 n))],.cells [.f (.dt .str l)],.cells [.f (.dt .tm ts)]]=>some (.need (((Tw.mk k nm b d kids).fitT∧∀ u∈ts,u.fitT)∧(l.length≤100000000∧ts.length≤100000000)∧n=(min l.length ts.length:Nat)) (.br (decide (0+((substT l ts (Tw.mk k nm b d kids)).size:Int)≤20000)) (.ret (tmP (substT l ts (Tw.mk k nm b d kids))) [.gone,.gone,.gone,.gone,.gone,.gone]) (.pan (eP 34) [.gone,.gone,.gone,.gone,.gone,.gone])))
 | _,_=>none
theorem cSubst1 {E:Env} (hU:Up E):Contract2 Tryd.prog E 64 sSubst1:=by
 refine contract2 [] [(65,sOfU)] Tryd.ntmps64 Tryd.func64 (by kernel_rfl) (by kernel_rfl) hU trivial ⟨cOfU hU,trivial⟩ ?_
 intro xs ob o hs hok
 unfold sSubst1 at hs
 split at hs
 · rename_i k nm b d dl kids n l ts
   cases hs
   obtain ⟨⟨⟨hft,hts⟩,⟨hl,htl⟩,hn⟩,-⟩:=hok
   refine ⟨[.bp 0 0,.bp 1 0],[],.cons (.refl _) (.cons (.refl _) .nil),rfl,fun _ hsh=>?_⟩
   have h0:=hft
   refine cast_rfl (p:=(((Tw.mk k nm b d kids).fitT∧∀ (u:Sh.tm.T),u∈ts→Tw.fitT u)∧(l.length≤100000000∧ts.length≤100000000)∧n=(↑(min l.length ts.length):Int)∧(0:Int)≤(0:Int)∧(0:Int)≤(20000:Int))∧ifB (decide ((0:Int)+(↑(substT l ts (Tw.mk k nm b d kids)).size:Int)≤(20000:Int))) (EndU 6 (Out.need (((Tw.mk k nm b d kids).fitT∧∀ (u:Sh.tm.T),u∈ts→Tw.fitT u)∧(l.length≤100000000∧ts.length≤100000000)∧n=(↑(min l.length ts.length):Int)) (Out.br (decide ((0:Int)+(↑(substT l ts (Tw.mk k nm b d kids)).size:Int)≤(20000:Int))) (Out.ret (tmP (substT l ts (Tw.mk k nm b d kids))) [PO.gone,PO.gone,PO.gone,PO.gone,PO.gone,PO.gone]) (Out.pan (eP (34:Int)) [PO.gone,PO.gone,PO.gone,PO.gone,PO.gone,PO.gone]))).fin true (PV.agg (wrapF (tmC (substT l ts (Tw.mk k nm b d kids))))) [PO.cells [PV.bp 2 0],PO.cells [PV.f (Lf.v (Value.int IntKind.u8 k)),sV nm,bV b,PV.f (Lf.lr d dl),PV.f (Lf.dt Sh.tm kids)],PO.cells [iV ((0:Int)+(↑(substT l ts (Tw.mk k nm b d kids)).size:Int)),PV.fn 86 [] [PV.bp 3 0,PV.bp 4 0,PV.bp 5 0]],PO.cells [iV n],PO.cells [PV.f (Lf.dt Sh.str l)],PO.cells [PV.f (Lf.dt Sh.tm ts)],PO.cells (wrapF (tmC (substT l ts (Tw.mk k nm b d kids))))]) (EndU 6 (Out.need (((Tw.mk k nm b d kids).fitT∧∀ (u:Sh.tm.T),u∈ts→Tw.fitT u)∧(l.length≤100000000∧ts.length≤100000000)∧n=(↑(min l.length ts.length):Int)) (Out.br (decide ((0:Int)+(↑(substT l ts (Tw.mk k nm b d kids)).size:Int)≤(20000:Int))) (Out.ret (tmP (substT l ts (Tw.mk k nm b d kids))) [PO.gone,PO.gone,PO.gone,PO.gone,PO.gone,PO.gone]) (Out.pan (eP (34:Int)) [PO.gone,PO.gone,PO.gone,PO.gone,PO.gone,PO.gone]))).fin false (PV.ifc 35 (iV 34)) [PO.cells [PV.bp 2 0],PO.cells [PV.f (Lf.v (Value.int IntKind.u8 k)),sV nm,bV b,PV.f (Lf.lr d dl),PV.f (Lf.dt Sh.tm kids)],PO.cells [iV 20001,PV.fn 86 [] [PV.bp 3 0,PV.bp 4 0,PV.bp 5 0]],PO.cells [iV n],PO.cells [PV.f (Lf.dt Sh.str l)],PO.cells [PV.f (Lf.dt Sh.tm ts)],PO.cells [PV.f (Lf.v (Value.int IntKind.u8 0)),sV (ByteArray.mk #[]),bV false,PV.f (Lf.v (Value.slice none 0 0)),PV.f (Lf.v (Value.slice none 0 0))]])) ?kr ?_
   case kr=>kernel_rfl
   refine ⟨?s0,ifB_iff.2 ⟨fun hb0=>?m0,fun hb0=>?m1⟩⟩
   case s0=>exact ⟨⟨hft,hts⟩,⟨hl,htl⟩,hn,Int.le_refl _,by decide⟩
   case m0=>exact endBr_t hb0 (endW rfl (.refl _) rfl rfl trivial)
   case m1=>exact endBr_f hb0 (endW rfl (.refl _) rfl rfl trivial)
 · cases hs
def sTriedU:Spec2
 | [.fn 64 [] [.bp 0 0,.bp 1 0]],[.cells [.bp 2 0],.cells [.f (.v (.int .u8 k)),.f (.v (.string nm)),.f (.v (.bool b)),.f (.lr d dl),.f (.dt .tm kids)],.cells [.f (.v (.int .i64 0)),.fn 86 [] [.bp 3 0,.bp 4 0,.bp 5 0]],.cells [.f (.v (.int .i64 n))],.cells [.f (.dt .str l)],.cells [.f (.dt .tm ts)]]=>some (.need (((Tw.mk k nm b d kids).fitT∧∀ u∈ts,u.fitT)∧(l.length≤100000000∧ts.length≤100000000)∧n=(min l.length ts.length:Nat)) (.nm (Except Int Tw) (substE l ts (Tw.mk k nm b d kids)) fun z=>.ret (.tup [tmP (valE Sh.tm.nil z),iV (errE z)]) [.gone,.gone,.gone,.gone,.gone,.gone]))
 | _,_=>none
theorem cTriedU {E:Env} (hU:Up E):Contract2 Tryd.prog E 41 sTriedU:=by
 refine contract2_tried (cf:=66) [] [(64,sSubst1)] Tryd.ntmps41 Tryd.func41 rfl (by kernel_rfl) hU trivial ⟨cSubst1 hU,trivial⟩ rfl rfl rfl rfl rfl rfl Tryd.ntmps66 Tryd.func66 rfl rfl rfl rfl rfl rfl rfl (by kernel_rfl) (by kernel_rfl) (by kernel_rfl) ?_
 intro xs ob o hs hok
 unfold sTriedU at hs
 split at hs
 · rename_i k nm b d dl kids n l ts
   cases hs
   obtain ⟨⟨⟨hft,hts⟩,⟨hl,htl⟩,hn⟩,-⟩:=hok
   refine ⟨[.fn 64 [] [.bp 0 0,.bp 1 0]],.cons (.refl _) .nil,rfl,?_⟩
   have h0:=hft
   refine cast_rfl (p:=(((Tw.mk k nm b d kids).fitT∧∀ (u:Sh.tm.T),u∈ts→Tw.fitT u)∧(l.length≤100000000∧ts.length≤100000000)∧n=(↑(min l.length ts.length):Int))∧ifB (decide ((0:Int)+(↑(substT l ts (Tw.mk k nm b d kids)).size:Int)≤(20000:Int))) (EndU 6 (Out.need (((Tw.mk k nm b d kids).fitT∧∀ (u:Sh.tm.T),u∈ts→Tw.fitT u)∧(l.length≤100000000∧ts.length≤100000000)∧n=(↑(min l.length ts.length):Int)) (Out.nm (Except Int Tw) (substE l ts (Tw.mk k nm b d kids)) fun (z:Except Int Tw)=>Out.ret (PV.tup [tmP (valE Sh.tm.nil z),iV (errE z)]) [PO.gone,PO.gone,PO.gone,PO.gone,PO.gone,PO.gone])).fin true (PV.tup [PV.agg (wrapF (tmC (substT l ts (Tw.mk k nm b d kids)))),iV 0]) [PO.gone,PO.gone,PO.gone,PO.gone,PO.gone,PO.gone,PO.cells (wrapF (tmC (substT l ts (Tw.mk k nm b d kids)))),PO.cells [iV 0]]) (EndU 6 (Out.need (((Tw.mk k nm b d kids).fitT∧∀ (u:Sh.tm.T),u∈ts→Tw.fitT u)∧(l.length≤100000000∧ts.length≤100000000)∧n=(↑(min l.length ts.length):Int)) (Out.nm (Except Int Tw) (substE l ts (Tw.mk k nm b d kids)) fun (z:Except Int Tw)=>Out.ret (PV.tup [tmP (valE Sh.tm.nil z),iV (errE z)]) [PO.gone,PO.gone,PO.gone,PO.gone,PO.gone,PO.gone])).fin true (PV.tup [PV.agg [PV.f (Lf.v (Value.int IntKind.u8 0)),sV (ByteArray.mk #[]),bV false,PV.f (Lf.v (Value.slice none 0 0)),PV.f (Lf.v (Value.slice none 0 0))],iV 34]) [PO.gone,PO.gone,PO.gone,PO.gone,PO.gone,PO.gone,PO.cells [PV.f (Lf.v (Value.int IntKind.u8 0)),sV (ByteArray.mk #[]),bV false,PV.f (Lf.v (Value.slice none 0 0)),PV.f (Lf.v (Value.slice none 0 0))],PO.cells [iV 34],PO.cells [PV.f (Lf.v (Value.int IntKind.u8 0)),sV (ByteArray.mk #[]),bV false,PV.f (Lf.v (Value.slice none 0 0)),PV.f (Lf.v (Value.slice none 0 0))]])) ?kr ?_
   case kr=>kernel_rfl
   refine ⟨?s0,ifB_iff.2 ⟨fun hb0=>?m0,fun hb0=>?m1⟩⟩
   case s0=>exact ⟨⟨hft,hts⟩,⟨hl,htl⟩,hn⟩
   case m0 =>
    have e:substE l ts (Tw.mk k nm b d kids)=.ok (substT l ts (Tw.mk k nm b d kids)):=if_pos (by have:=of_decide_eq_true hb0; omega)
    rw [e]
    exact endU_need (endW rfl (.refl (.tup [tmP (substT l ts (Tw.mk k nm b d kids)),iV 0])) rfl rfl trivial)
   case m1 =>
    have e:substE l ts (Tw.mk k nm b d kids)=.error 34:=if_neg (by have:=of_decide_eq_false hb0; omega)
    rw [e]
    exact endU_need (endW rfl (tupBs (.cons (tm_sub (t:=Sh.tm.nil) rfl) (.cons (.refl _) .nil))) rfl rfl trivial)
 · cases hs
def sSubst:Spec
 | [x,.f y,.f z]=>match tmOf x,dtOf .str y,dtOf .tm z with
  | some t,some l,some ts=>some (some ((t.fitT∧∀ u∈ts,u.fitT)∧(l.length≤100000000∧ts.length≤100000000)),.nm (Except Int Tw) (substE l ts t) fun z=>.tup [tmP (valE Sh.tm.nil z),iV (errE z)])
  | _,_,_=>none
 | _=>none
theorem cSubst {E:Env} (hU:Up E):Contract Tryd.prog E 35 sSubst:=by
 refine contract_D [] [(63,sNamesF),(41,sTriedU)] Tryd.ntmps35 Tryd.func35 (by kernel_rfl) (by kernel_rfl) hU trivial ⟨cNamesF hU,cTriedU hU,trivial⟩ ?_
 intro xs p r hs hp
 unfold sSubst at hs
 split at hs
 · rename_i x y z
   split at hs
   · rename_i t l ts h1 h2 h3
     cases hs
     obtain ⟨⟨hft,hts⟩,hl,htl⟩:=hp _ rfl
     refine ⟨[tmP t,.f (.dt .str l),.f (.dt .tm ts)],[],.cons (tm_sub h1).sub (.cons (dt_sub h2).sub (.cons (dt_sub h3).sub .nil)),rfl,fun _ hsh=>?_⟩
     have h0:=hft
     refine cast_rfl (p:=(((Tw.mk t.kind t.name t.neg t.digits t.kids).fitT∧∀ (u:Sh.tm.T),u∈ts→Tw.fitT u)∧(l.length≤100000000∧ts.length≤100000000)∧min (↑l.length:Int) (↑ts.length:Int)=(↑(min l.length ts.length):Int))∧∀ (z1:Except Int Tw),z1=substE l ts (Tw.mk t.kind t.name t.neg t.digits t.kids)→true=true∧Sub (PV.tup [PV.agg (wrapF (tmC (valE Sh.tm.nil z1))),iV (errE z1)]) (PV.tup [PV.agg (wrapF (tmC (valE Sh.tm.nil (substE l ts t)))),iV (errE (substE l ts t))])) ?kr ?_
     case kr=>kernel_rfl
     refine ⟨?s0,fun z1=>fun hz1=>⟨rfl,?m0⟩⟩
     all_goals try simp only [Tw.eta] at *
     case s0=>exact ⟨⟨hft,hts⟩,⟨hl,htl⟩,by omega⟩
     case m0=>subst hz1; exact .refl _
   · cases hs
 · cases hs
end Go.Proofs.YtdeacbdpmdfgdaaDoor
