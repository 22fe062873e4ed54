/- Terms put for names: the contract of Subst. -/
import Derived.Test.YtijfaigpilfpaaaGreatDoorUc
import Derived.Test.YtijfaigpilfpaaaGreatDoorCc
set_option linter.unusedSimpArgs false
namespace Go.Proofs.YtijfaigpilfpaaaGreatDoor
open Go.RowKit
set_option linter.unusedVariables false
set_option maxRecDepth 100000
theorem endW {n0:Nat} {o:Bool × PV × List PO} {t:Bool} {x y:PV} {ob ob':List PO} (h:o=(t,y,ob)) (hx:SubB x y) (hn:newT ob'.length x y=false) (hb:(Qba ob.length y && (Qbz ob.length ob && Nat.ble n0 ob.length))=true) (hw:QbZ ob'.length ob ob') (ht:QbA 0 ob ⟨[(0,x)],ob'⟩=⟨[(0,x)],ob'⟩:=by rfl):EndU n0 o t x ob':=by
 subst h
 refine ⟨rfl,?_⟩
 show Weak0 n0 ⟨[(0,y)],ob⟩ (QbA 0 ob ⟨[(0,x)],ob'⟩)
 rw [ht]
 unfold Weak0
 have hb':(QcD ob.length [(0,y)] && (Qbz ob.length ob && Nat.ble n0 ob.length))=true:=by
  simp only [Bool.and_eq_true] at hb ⊢
  refine ⟨?_,hb.2⟩
  unfold QcD
  rw [hb.1]; rfl
 dsimp only
 rw [hb']
 refine ⟨hw,?_⟩
 show (match newT ob'.length x y with | true=>Qbg y∧True | false=>SubB x y∧True)
 rw [hn]
 exact ⟨hx,trivial⟩
def Qhb:Spec2
 | [.f (.dt .str l),.f (.dt .tm ts)],[]=>some (.ret (.bp 3 0) [.cells [.f (.dt .str l)],.cells [.f (.dt .tm ts)],.cells [iV (min (l.length:Int) ts.length)],.cells [iV 0,.fn 208 [] [.bp 2 0,.bp 0 0,.bp 1 0]]])
 | _,_=>none
theorem Qpt {E:Env} (hU:Up E):Contract2 Tryz.prog E 156 Qhb:=by
 refine contract2 [] [] Tryz.ntmps156 Tryz.func156 (by kernel_rfl) (by kernel_rfl) hU trivial trivial ?_
 intro xs ob o hs hok
 unfold Qhb at hs
 split at hs
 · rename_i l ts
   cases hs
   refine ⟨[.f (.dt .str l),.f (.dt .tm ts)],[],.cons (.refl _) (.cons (.refl _) .nil),rfl,fun _ hsh=>?_⟩
   have h0:=hsh
   refine Qab (p:=EndU 0 (Out.ret (PV.bp 3 0) [PO.cells [dP Sh.str l],PO.cells [dP Sh.tm ts],PO.cells [iV (min (↑l.length:Int) (↑ts.length:Int))],PO.cells [iV (0:Int),PV.fn 208 [] [PV.bp 2 0,PV.bp 0 0,PV.bp 1 0]]]).fin true (PV.bp 3 0) [PO.cells [dP Sh.str l],PO.cells [dP Sh.tm ts],PO.cells [iV (min (↑l.length:Int) (↑ts.length:Int))],PO.cells [iV 0,PV.fn 208 [] [PV.bp 2 0,PV.bp 0 0,PV.bp 1 0]]]) ?kr ?_
   case kr=>kernel_rfl
   refine ?m0
   case m0 =>
    generalize min (l.length:Int) ts.length=n
    exact endU rfl (.refl _) rfl rfl rfl
 · cases hs
def sOfU:Spec2
 | [.bp 0 0,x],[.cells [.f (.v (.int .i64 m)),.fn 208 [] [.bp 1 0,.bp 2 0,.bp 3 0]],.cells [.f (.v (.int .i64 n))],.cells [.f (.dt .str l)],.cells [.f (.dt .tm ts)]]=>match tmOf x with
  | some t=>some (.need ((t.fitT∧∀ u∈ts,u.fitT)∧(l.length≤100000000∧ts.length≤100000000)∧n=(min l.length ts.length:Nat)∧0≤m∧m≤20000) (.br (decide (m+(Qam l ts t).size≤20000)) (.ret (tmP (Qam l ts t)) [.cells [iV (m+(Qam l ts t).size),.fn 208 [] [.bp 1 0,.bp 2 0,.bp 3 0]],.cells [iV n],.cells [.f (.dt .str l)],.cells [.f (.dt .tm ts)]]) (.pan (eP 34) [.cells [iV 20001,.fn 208 [] [.bp 1 0,.bp 2 0,.bp 3 0]],.cells [iV n],.cells [.f (.dt .str l)],.cells [.f (.dt .tm ts)]])))
  | none=>none
 | _,_=>none
theorem cOfU {E:Env} (hU:Up E):Contract2 Tryz.prog E 159 sOfU:=by
 intro xs ob o hs hok
 unfold sOfU at hs
 split at hs
 · rename_i x m n l ts
   split at hs
   · rename_i t ht
     cases hs
     refine cOfUN hU (t.size+1) [.bp 0 0,x] _ (.need (t.size<t.size+1∧(t.fitT∧∀ u∈ts,u.fitT)∧(l.length≤100000000∧ts.length≤100000000)∧n=(min l.length ts.length:Nat)∧0≤m∧m≤20000) (.br (decide (m+(Qam l ts t).size≤20000)) (.ret (tmP (Qam l ts t)) [.cells [iV (m+(Qam l ts t).size),.fn 208 [] [.bp 1 0,.bp 2 0,.bp 3 0]],.cells [iV n],.cells [.f (.dt .str l)],.cells [.f (.dt .tm ts)]]) (.pan (eP 34) [.cells [iV 20001,.fn 208 [] [.bp 1 0,.bp 2 0,.bp 3 0]],.cells [iV n],.cells [.f (.dt .str l)],.cells [.f (.dt .tm ts)]]))) (by simp only [QnW,ht]) ⟨⟨Nat.lt_succ_self _,hok.1⟩,hok.2⟩
   · cases hs
 · cases hs
def QjD:Spec2
 | [.bp 0 0,.bp 1 0],[.cells [.bp 2 0],.cells [.f (.v (.int .u8 k)),.f (.v (.string nm)),.f (.v (.bool b)),.f (.lr d dl),.f (.dt .tm kids)],.cells [.f (.v (.int .i64 0)),.fn 208 [] [.bp 3 0,.bp 4 0,.bp 5 0]],.cells [.f (.v (.int .i64 n))],.cells [.f (.dt .str l)],.cells [.f (.dt .tm ts)]]=>some (.need (((Tw.mk k nm b d kids).fitT∧∀ u∈ts,u.fitT)∧(l.length≤100000000∧ts.length≤100000000)∧n=(min l.length ts.length:Nat)) (.br (decide (0+((Qam l ts (Tw.mk k nm b d kids)).size:Int)≤20000)) (.ret (tmP (Qam l ts (Tw.mk k nm b d kids))) [.gone,.gone,.gone,.gone,.gone,.gone]) (.pan (eP 34) [.gone,.gone,.gone,.gone,.gone,.gone])))
 | _,_=>none
theorem QtJ {E:Env} (hU:Up E):Contract2 Tryz.prog E 158 QjD:=by
 refine contract2 [] [(159,sOfU)] Tryz.ntmps158 Tryz.func158 (by kernel_rfl) (by kernel_rfl) hU trivial ⟨cOfU hU,trivial⟩ ?_
 intro xs ob o hs hok
 unfold QjD at hs
 split at hs
 · rename_i k nm b d dl kids n l ts
   cases hs
   obtain ⟨⟨⟨hft,hts⟩,⟨hl,htl⟩,hn⟩,-⟩:=hok
   refine ⟨[.bp 0 0,.bp 1 0],[],.cons (.refl _) (.cons (.refl _) .nil),rfl,fun _ hsh=>?_⟩
   have h0:=hft
   refine Qab (p:=(((Tw.mk k nm b d kids).fitT∧∀ (u:Sh.tm.T),u∈ts→Tw.fitT u)∧(l.length≤100000000∧ts.length≤100000000)∧n=(↑(min l.length ts.length):Int)∧(0:Int)≤(0:Int)∧(0:Int)≤(20000:Int))∧ifB (decide ((0:Int)+(↑(Qam l ts (Tw.mk k nm b d kids)).size:Int)≤(20000:Int))) (EndU 6 (Out.need (((Tw.mk k nm b d kids).fitT∧∀ (u:Sh.tm.T),u∈ts→Tw.fitT u)∧(l.length≤100000000∧ts.length≤100000000)∧n=(↑(min l.length ts.length):Int)) (Out.br (decide ((0:Int)+(↑(Qam l ts (Tw.mk k nm b d kids)).size:Int)≤(20000:Int))) (Out.ret (tmP (Qam l ts (Tw.mk k nm b d kids))) [PO.gone,PO.gone,PO.gone,PO.gone,PO.gone,PO.gone]) (Out.pan (eP (34:Int)) [PO.gone,PO.gone,PO.gone,PO.gone,PO.gone,PO.gone]))).fin true (PV.agg (Qae (tmC (Qam l ts (Tw.mk k nm b d kids))))) [PO.cells [PV.bp 2 0],PO.cells [uV k,sV nm,bV b,PV.f (Lf.lr d dl),dP Sh.tm kids],PO.cells [iV ((0:Int)+(↑(Qam l ts (Tw.mk k nm b d kids)).size:Int)),PV.fn 208 [] [PV.bp 3 0,PV.bp 4 0,PV.bp 5 0]],PO.cells [iV n],PO.cells [dP Sh.str l],PO.cells [dP Sh.tm ts],PO.cells (Qae (tmC (Qam l ts (Tw.mk k nm b d kids))))]) (EndU 6 (Out.need (((Tw.mk k nm b d kids).fitT∧∀ (u:Sh.tm.T),u∈ts→Tw.fitT u)∧(l.length≤100000000∧ts.length≤100000000)∧n=(↑(min l.length ts.length):Int)) (Out.br (decide ((0:Int)+(↑(Qam l ts (Tw.mk k nm b d kids)).size:Int)≤(20000:Int))) (Out.ret (tmP (Qam l ts (Tw.mk k nm b d kids))) [PO.gone,PO.gone,PO.gone,PO.gone,PO.gone,PO.gone]) (Out.pan (eP (34:Int)) [PO.gone,PO.gone,PO.gone,PO.gone,PO.gone,PO.gone]))).fin false (PV.ifc 36 (iV 34)) [PO.cells [PV.bp 2 0],PO.cells [uV k,sV nm,bV b,PV.f (Lf.lr d dl),dP Sh.tm kids],PO.cells [iV 20001,PV.fn 208 [] [PV.bp 3 0,PV.bp 4 0,PV.bp 5 0]],PO.cells [iV n],PO.cells [dP Sh.str l],PO.cells [dP Sh.tm ts],PO.cells zTP])) ?kr ?_
   case kr=>kernel_rfl
   refine ⟨?s0,Qaa.2 ⟨fun hb0=>?m0,fun hb0=>?m1⟩⟩
   case s0=>exact ⟨⟨hft,hts⟩,⟨hl,htl⟩,hn,Int.le_refl _,by decide⟩
   case m0=>exact QfP hb0 (endW rfl (.refl _) rfl rfl trivial)
   case m1=>exact Qeo hb0 (endW rfl (.refl _) rfl rfl trivial)
 · cases hs
def QjB:Spec2
 | [.fn 158 [] [.bp 0 0,.bp 1 0]],[.cells [.bp 2 0],.cells [.f (.v (.int .u8 k)),.f (.v (.string nm)),.f (.v (.bool b)),.f (.lr d dl),.f (.dt .tm kids)],.cells [.f (.v (.int .i64 0)),.fn 208 [] [.bp 3 0,.bp 4 0,.bp 5 0]],.cells [.f (.v (.int .i64 n))],.cells [.f (.dt .str l)],.cells [.f (.dt .tm ts)]]=>some (.need (((Tw.mk k nm b d kids).fitT∧∀ u∈ts,u.fitT)∧(l.length≤100000000∧ts.length≤100000000)∧n=(min l.length ts.length:Nat)) (.nm (Except Int Tw) (QaC l ts (Tw.mk k nm b d kids)) fun z=>.ret (.tup [tmP (valE Sh.tm.nil z),iV (errE z)]) [.gone,.gone,.gone,.gone,.gone,.gone]))
 | _,_=>none
theorem QtG {E:Env} (hU:Up E):Contract2 Tryz.prog E 157 QjB:=by
 refine QbY (cf:=210) [] [(158,QjD)] Tryz.ntmps157 Tryz.func157 rfl (by kernel_rfl) hU trivial ⟨QtJ hU,trivial⟩ rfl rfl rfl rfl rfl rfl Tryz.ntmps210 Tryz.func210 rfl rfl rfl rfl rfl rfl rfl (by kernel_rfl) (by kernel_rfl) (by kernel_rfl) ?_
 intro xs ob o hs hok
 unfold QjB at hs
 split at hs
 · rename_i k nm b d dl kids n l ts
   cases hs
   obtain ⟨⟨⟨hft,hts⟩,⟨hl,htl⟩,hn⟩,-⟩:=hok
   refine ⟨[.fn 158 [] [.bp 0 0,.bp 1 0]],.cons (.refl _) .nil,rfl,?_⟩
   have h0:=hft
   refine Qab (p:=(((Tw.mk k nm b d kids).fitT∧∀ (u:Sh.tm.T),u∈ts→Tw.fitT u)∧(l.length≤100000000∧ts.length≤100000000)∧n=(↑(min l.length ts.length):Int))∧ifB (decide ((0:Int)+(↑(Qam l ts (Tw.mk k nm b d kids)).size:Int)≤(20000:Int))) (EndU 6 (Out.need (((Tw.mk k nm b d kids).fitT∧∀ (u:Sh.tm.T),u∈ts→Tw.fitT u)∧(l.length≤100000000∧ts.length≤100000000)∧n=(↑(min l.length ts.length):Int)) (Out.nm (Except Int Tw) (QaC l ts (Tw.mk k nm b d kids)) fun (z:Except Int Tw)=>Out.ret (PV.tup [tmP (valE Sh.tm.nil z),iV (errE z)]) [PO.gone,PO.gone,PO.gone,PO.gone,PO.gone,PO.gone])).fin true (PV.tup [PV.agg (Qae (tmC (Qam l ts (Tw.mk k nm b d kids)))),iV 0]) [PO.gone,PO.gone,PO.gone,PO.gone,PO.gone,PO.gone,PO.cells (Qae (tmC (Qam l ts (Tw.mk k nm b d kids)))),PO.cells [iV 0]]) (EndU 6 (Out.need (((Tw.mk k nm b d kids).fitT∧∀ (u:Sh.tm.T),u∈ts→Tw.fitT u)∧(l.length≤100000000∧ts.length≤100000000)∧n=(↑(min l.length ts.length):Int)) (Out.nm (Except Int Tw) (QaC l ts (Tw.mk k nm b d kids)) fun (z:Except Int Tw)=>Out.ret (PV.tup [tmP (valE Sh.tm.nil z),iV (errE z)]) [PO.gone,PO.gone,PO.gone,PO.gone,PO.gone,PO.gone])).fin true (PV.tup [PV.agg zTP,iV 34]) [PO.gone,PO.gone,PO.gone,PO.gone,PO.gone,PO.gone,PO.cells zTP,PO.cells [iV 34],PO.cells zTP])) ?kr ?_
   case kr=>kernel_rfl
   refine ⟨?s0,Qaa.2 ⟨fun hb0=>?m0,fun hb0=>?m1⟩⟩
   case s0=>exact ⟨⟨hft,hts⟩,⟨hl,htl⟩,hn⟩
   case m0 =>
    have e:QaC l ts (Tw.mk k nm b d kids)=.ok (Qam l ts (Tw.mk k nm b d kids)):=if_pos (by have:=of_decide_eq_true hb0; omega)
    rw [e]
    exact Qaq (endW rfl (.refl (.tup [tmP (Qam l ts (Tw.mk k nm b d kids)),iV 0])) rfl rfl trivial)
   case m1 =>
    have e:QaC l ts (Tw.mk k nm b d kids)=.error 34:=if_neg (by have:=of_decide_eq_false hb0; omega)
    rw [e]
    exact Qaq (endW rfl (Qsi (.cons (QaG (t:=Sh.tm.nil) rfl) (.cons (.refl _) .nil))) rfl rfl trivial)
 · cases hs
def QnS:Spec
 | [x,.f y,.f z]=>match tmOf x,dtOf .str y,dtOf .tm z with
  | some t,some l,some ts=>some (some ((t.fitT∧∀ u∈ts,u.fitT)∧(l.length≤100000000∧ts.length≤100000000)),.nm (Except Int Tw) (QaC l ts t) fun z=>.tup [tmP (valE Sh.tm.nil z),iV (errE z)])
  | _,_,_=>none
 | _=>none
theorem cSubst {E:Env} (hU:Up E):Contract Tryz.prog E 98 QnS:=by
 refine Qac [] [(156,Qhb),(157,QjB)] Tryz.ntmps98 Tryz.func98 (by kernel_rfl) (by kernel_rfl) hU trivial ⟨Qpt hU,QtG hU,trivial⟩ ?_
 intro xs p r hs hp
 unfold QnS at hs
 split at hs
 · rename_i x y z
   split at hs
   · rename_i t l ts h1 h2 h3
     cases hs
     obtain ⟨⟨hft,hts⟩,hl,htl⟩:=hp _ rfl
     refine ⟨[tmP t,.f (.dt .str l),.f (.dt .tm ts)],[],.cons (QaG h1).sub (.cons (Qa9 h2).sub (.cons (Qa9 h3).sub .nil)),rfl,fun _ hsh=>?_⟩
     have h0:=hft
     refine Qab (p:=(((etaT t).fitT∧∀ (u:Sh.tm.T),u∈ts→Tw.fitT u)∧(l.length≤100000000∧ts.length≤100000000)∧min (↑l.length:Int) (↑ts.length:Int)=(↑(min l.length ts.length):Int))∧∀ (z1:Except Int Tw),z1=QaC l ts (etaT t)→true=true∧Sub (PV.tup [PV.agg (Qae (tmC (valE Sh.tm.nil z1))),iV (errE z1)]) (PV.tup [PV.agg (Qae (tmC (valE Sh.tm.nil (QaC l ts t)))),iV (errE (QaC l ts t))])) ?kr ?_
     case kr=>kernel_rfl
     refine ⟨?s0,fun z1=>fun hz1=>⟨rfl,?m0⟩⟩
     all_goals try simp only [etaT] at *
     all_goals try simp only [Tw.eta] at *
     case s0=>exact ⟨⟨hft,hts⟩,⟨hl,htl⟩,by omega⟩
     case m0=>subst hz1; exact .refl _
   · cases hs
 · cases hs
end Go.Proofs.YtijfaigpilfpaaaGreatDoor
