/- Terms put for names: the contract of Subst. -/
import Derived.Test.YtemhncjjiomppaaDoorUc
import Derived.Test.YtemhncjjiomppaaDoorCc
namespace Go.Proofs.YtemhncjjiomppaaDoor
open Go.RowKit
set_option linter.unusedVariables false
set_option maxRecDepth 100000
theorem endW {n0:Nat} {o:Bool × PV × List PO} {t:Bool} {x y:PV} {ob ob':List PO} (h:o=(t,y,ob)) (hx:SubB x y) (hn:newT ob'.length x y=false) (hb:(QaR ob.length y && (Qa7 ob.length ob && Nat.ble n0 ob.length))=true) (hw:Qbv ob'.length ob ob'):EndU n0 o t x ob':=by
 subst h
 refine ⟨rfl,?_⟩
 unfold Weak
 have hb':(Qb1 ob.length [(0,y)] && (Qa7 ob.length ob && Nat.ble n0 ob.length))=true:=by
  simp only [Bool.and_eq_true] at hb ⊢
  refine ⟨?_,hb.2⟩
  unfold Qb1
  rw [hb.1]; rfl
 dsimp only
 rw [hb']
 refine ⟨hw,?_⟩
 show (match newT ob'.length x y with | true=>Qch y∧True | false=>SubB x y∧True)
 rw [hn]
 exact ⟨hx,trivial⟩
def QhT:Spec2
 | [.f (.dt .str l),.f (.dt .tm ts)],[]=>some (.ret (.bp 3 0) [.cells [.f (.dt .str l)],.cells [.f (.dt .tm ts)],.cells [iV (min (l.length:Int) ts.length)],.cells [iV 0,.fn 62 [] [.bp 2 0,.bp 0 0,.bp 1 0]]])
 | _,_=>none
theorem Qpj {E:Env} (hU:Up E):Contract2 Tryd.prog E 29 QhT:=by
 refine contract2 [] [] Tryd.ntmps29 Tryd.func29 (by kernel_rfl) (by kernel_rfl) hU trivial trivial ?_
 intro xs ob o hs hok
 unfold QhT at hs
 split at hs
 · rename_i l ts
   cases hs
   refine ⟨[.f (.dt .str l),.f (.dt .tm ts)],[],.cons (.refl _) (.cons (.refl _) .nil),rfl,fun _ hsh=>?_⟩
   have h0:=hsh
   refine Qag (p:=EndU 0 (Out.ret (PV.bp 3 0) [PO.cells [PV.f (Lf.dt Sh.str l)],PO.cells [PV.f (Lf.dt Sh.tm ts)],PO.cells [iV (min (↑l.length:Int) (↑ts.length:Int))],PO.cells [iV (0:Int),PV.fn 62 [] [PV.bp 2 0,PV.bp 0 0,PV.bp 1 0]]]).fin true (PV.bp 3 0) [PO.cells [PV.f (Lf.dt Sh.str l)],PO.cells [PV.f (Lf.dt Sh.tm ts)],PO.cells [iV (min (↑l.length:Int) (↑ts.length:Int))],PO.cells [iV 0,PV.fn 62 [] [PV.bp 2 0,PV.bp 0 0,PV.bp 1 0]]]) ?kr ?_
   case kr=>kernel_rfl
   refine ?m0
   case m0 =>
    generalize min (l.length:Int) ts.length=n
    exact endU rfl (.refl _) rfl rfl rfl
 · cases hs
def sOfU:Spec2
 | [.bp 0 0,x],[.cells [.f (.v (.int .i64 m)),.fn 62 [] [.bp 1 0,.bp 2 0,.bp 3 0]],.cells [.f (.v (.int .i64 n))],.cells [.f (.dt .str l)],.cells [.f (.dt .tm ts)]]=>match tmOf x with
  | some t=>some (.need ((t.fitT∧∀ u∈ts,u.fitT)∧(l.length≤100000000∧ts.length≤100000000)∧n=(min l.length ts.length:Nat)∧0≤m∧m≤20000) (.br (decide (m+(Qac l ts t).size≤20000)) (.ret (tmP (Qac l ts t)) [.cells [iV (m+(Qac l ts t).size),.fn 62 [] [.bp 1 0,.bp 2 0,.bp 3 0]],.cells [iV n],.cells [.f (.dt .str l)],.cells [.f (.dt .tm ts)]]) (.pan (eP 34) [.cells [iV 20001,.fn 62 [] [.bp 1 0,.bp 2 0,.bp 3 0]],.cells [iV n],.cells [.f (.dt .str l)],.cells [.f (.dt .tm ts)]])))
  | none=>none
 | _,_=>none
theorem cOfU {E:Env} (hU:Up E):Contract2 Tryd.prog E 32 sOfU:=by
 intro xs ob o hs hok
 unfold sOfU at hs
 split at hs
 · rename_i x m n l ts
   split at hs
   · rename_i t ht
     cases hs
     refine cOfUN hU (t.size+1) [.bp 0 0,x] _ (.need (t.size<t.size+1∧(t.fitT∧∀ u∈ts,u.fitT)∧(l.length≤100000000∧ts.length≤100000000)∧n=(min l.length ts.length:Nat)∧0≤m∧m≤20000) (.br (decide (m+(Qac l ts t).size≤20000)) (.ret (tmP (Qac l ts t)) [.cells [iV (m+(Qac l ts t).size),.fn 62 [] [.bp 1 0,.bp 2 0,.bp 3 0]],.cells [iV n],.cells [.f (.dt .str l)],.cells [.f (.dt .tm ts)]]) (.pan (eP 34) [.cells [iV 20001,.fn 62 [] [.bp 1 0,.bp 2 0,.bp 3 0]],.cells [iV n],.cells [.f (.dt .str l)],.cells [.f (.dt .tm ts)]]))) (by simp only [Qk0,ht]) ⟨⟨Nat.lt_succ_self _,hok.1⟩,hok.2⟩
   · cases hs
 · cases hs
def QhQ:Spec2
 | [.bp 0 0,.bp 1 0],[.cells [.bp 2 0],.cells [.f (.v (.int .u8 k)),.f (.v (.string nm)),.f (.v (.bool b)),.f (.lr d dl),.f (.dt .tm kids)],.cells [.f (.v (.int .i64 0)),.fn 62 [] [.bp 3 0,.bp 4 0,.bp 5 0]],.cells [.f (.v (.int .i64 n))],.cells [.f (.dt .str l)],.cells [.f (.dt .tm ts)]]=>some (.need (((Tw.mk k nm b d kids).fitT∧∀ u∈ts,u.fitT)∧(l.length≤100000000∧ts.length≤100000000)∧n=(min l.length ts.length:Nat)) (.br (decide (0+((Qac l ts (Tw.mk k nm b d kids)).size:Int)≤20000)) (.ret (tmP (Qac l ts (Tw.mk k nm b d kids))) [.gone,.gone,.gone,.gone,.gone,.gone]) (.pan (eP 34) [.gone,.gone,.gone,.gone,.gone,.gone])))
 | _,_=>none
theorem Qpf {E:Env} (hU:Up E):Contract2 Tryd.prog E 31 QhQ:=by
 refine contract2 [] [(32,sOfU)] Tryd.ntmps31 Tryd.func31 (by kernel_rfl) (by kernel_rfl) hU trivial ⟨cOfU hU,trivial⟩ ?_
 intro xs ob o hs hok
 unfold QhQ at hs
 split at hs
 · rename_i k nm b d dl kids n l ts
   cases hs
   obtain ⟨⟨⟨hft,hts⟩,⟨hl,htl⟩,hn⟩,-⟩:=hok
   refine ⟨[.bp 0 0,.bp 1 0],[],.cons (.refl _) (.cons (.refl _) .nil),rfl,fun _ hsh=>?_⟩
   have h0:=hft
   refine Qag (p:=(((Tw.mk k nm b d kids).fitT∧∀ (u:Sh.tm.T),u∈ts→Tw.fitT u)∧(l.length≤100000000∧ts.length≤100000000)∧n=(↑(min l.length ts.length):Int)∧(0:Int)≤(0:Int)∧(0:Int)≤(20000:Int))∧ifB (decide ((0:Int)+(↑(Qac l ts (Tw.mk k nm b d kids)).size:Int)≤(20000:Int))) (EndU 6 (Out.need (((Tw.mk k nm b d kids).fitT∧∀ (u:Sh.tm.T),u∈ts→Tw.fitT u)∧(l.length≤100000000∧ts.length≤100000000)∧n=(↑(min l.length ts.length):Int)) (Out.br (decide ((0:Int)+(↑(Qac l ts (Tw.mk k nm b d kids)).size:Int)≤(20000:Int))) (Out.ret (tmP (Qac l ts (Tw.mk k nm b d kids))) [PO.gone,PO.gone,PO.gone,PO.gone,PO.gone,PO.gone]) (Out.pan (eP (34:Int)) [PO.gone,PO.gone,PO.gone,PO.gone,PO.gone,PO.gone]))).fin true (PV.agg (Qad (tmC (Qac l ts (Tw.mk k nm b d kids))))) [PO.cells [PV.bp 2 0],PO.cells [PV.f (Lf.v (Value.int IntKind.u8 k)),sV nm,bV b,PV.f (Lf.lr d dl),PV.f (Lf.dt Sh.tm kids)],PO.cells [iV ((0:Int)+(↑(Qac l ts (Tw.mk k nm b d kids)).size:Int)),PV.fn 62 [] [PV.bp 3 0,PV.bp 4 0,PV.bp 5 0]],PO.cells [iV n],PO.cells [PV.f (Lf.dt Sh.str l)],PO.cells [PV.f (Lf.dt Sh.tm ts)],PO.cells (Qad (tmC (Qac l ts (Tw.mk k nm b d kids))))]) (EndU 6 (Out.need (((Tw.mk k nm b d kids).fitT∧∀ (u:Sh.tm.T),u∈ts→Tw.fitT u)∧(l.length≤100000000∧ts.length≤100000000)∧n=(↑(min l.length ts.length):Int)) (Out.br (decide ((0:Int)+(↑(Qac l ts (Tw.mk k nm b d kids)).size:Int)≤(20000:Int))) (Out.ret (tmP (Qac l ts (Tw.mk k nm b d kids))) [PO.gone,PO.gone,PO.gone,PO.gone,PO.gone,PO.gone]) (Out.pan (eP (34:Int)) [PO.gone,PO.gone,PO.gone,PO.gone,PO.gone,PO.gone]))).fin false (PV.ifc 34 (iV 34)) [PO.cells [PV.bp 2 0],PO.cells [PV.f (Lf.v (Value.int IntKind.u8 k)),sV nm,bV b,PV.f (Lf.lr d dl),PV.f (Lf.dt Sh.tm kids)],PO.cells [iV 20001,PV.fn 62 [] [PV.bp 3 0,PV.bp 4 0,PV.bp 5 0]],PO.cells [iV n],PO.cells [PV.f (Lf.dt Sh.str l)],PO.cells [PV.f (Lf.dt Sh.tm ts)],PO.cells [PV.f (Lf.v (Value.int IntKind.u8 0)),sV (ByteArray.mk #[]),bV false,PV.f (Lf.v (Value.slice none 0 0)),PV.f (Lf.v (Value.slice none 0 0))]])) ?kr ?_
   case kr=>kernel_rfl
   refine ⟨?s0,Qaa.2 ⟨fun hb0=>?m0,fun hb0=>?m1⟩⟩
   case s0=>exact ⟨⟨hft,hts⟩,⟨hl,htl⟩,hn,Int.le_refl _,by decide⟩
   case m0=>exact QeR hb0 (endW rfl (.refl _) rfl rfl trivial)
   case m1=>exact QdA hb0 (endW rfl (.refl _) rfl rfl trivial)
 · cases hs
def QhO:Spec2
 | [.fn 31 [] [.bp 0 0,.bp 1 0]],[.cells [.bp 2 0],.cells [.f (.v (.int .u8 k)),.f (.v (.string nm)),.f (.v (.bool b)),.f (.lr d dl),.f (.dt .tm kids)],.cells [.f (.v (.int .i64 0)),.fn 62 [] [.bp 3 0,.bp 4 0,.bp 5 0]],.cells [.f (.v (.int .i64 n))],.cells [.f (.dt .str l)],.cells [.f (.dt .tm ts)]]=>some (.need (((Tw.mk k nm b d kids).fitT∧∀ u∈ts,u.fitT)∧(l.length≤100000000∧ts.length≤100000000)∧n=(min l.length ts.length:Nat)) (.nm (Except Int Tw) (Qaz l ts (Tw.mk k nm b d kids)) fun z=>.ret (.tup [tmP (valE Sh.tm.nil z),iV (errE z)]) [.gone,.gone,.gone,.gone,.gone,.gone]))
 | _,_=>none
theorem Qpd {E:Env} (hU:Up E):Contract2 Tryd.prog E 30 QhO:=by
 refine Qcl (cf:=64) [] [(31,QhQ)] Tryd.ntmps30 Tryd.func30 rfl (by kernel_rfl) hU trivial ⟨Qpf hU,trivial⟩ rfl rfl rfl rfl rfl rfl Tryd.ntmps64 Tryd.func64 rfl rfl rfl rfl rfl rfl rfl (by kernel_rfl) (by kernel_rfl) (by kernel_rfl) ?_
 intro xs ob o hs hok
 unfold QhO at hs
 split at hs
 · rename_i k nm b d dl kids n l ts
   cases hs
   obtain ⟨⟨⟨hft,hts⟩,⟨hl,htl⟩,hn⟩,-⟩:=hok
   refine ⟨[.fn 31 [] [.bp 0 0,.bp 1 0]],.cons (.refl _) .nil,rfl,?_⟩
   have h0:=hft
   refine Qag (p:=(((Tw.mk k nm b d kids).fitT∧∀ (u:Sh.tm.T),u∈ts→Tw.fitT u)∧(l.length≤100000000∧ts.length≤100000000)∧n=(↑(min l.length ts.length):Int))∧ifB (decide ((0:Int)+(↑(Qac l ts (Tw.mk k nm b d kids)).size:Int)≤(20000:Int))) (EndU 6 (Out.need (((Tw.mk k nm b d kids).fitT∧∀ (u:Sh.tm.T),u∈ts→Tw.fitT u)∧(l.length≤100000000∧ts.length≤100000000)∧n=(↑(min l.length ts.length):Int)) (Out.nm (Except Int Tw) (Qaz l ts (Tw.mk k nm b d kids)) fun (z:Except Int Tw)=>Out.ret (PV.tup [tmP (valE Sh.tm.nil z),iV (errE z)]) [PO.gone,PO.gone,PO.gone,PO.gone,PO.gone,PO.gone])).fin true (PV.tup [PV.agg (Qad (tmC (Qac l ts (Tw.mk k nm b d kids)))),iV 0]) [PO.gone,PO.gone,PO.gone,PO.gone,PO.gone,PO.gone,PO.cells (Qad (tmC (Qac l ts (Tw.mk k nm b d kids)))),PO.cells [iV 0]]) (EndU 6 (Out.need (((Tw.mk k nm b d kids).fitT∧∀ (u:Sh.tm.T),u∈ts→Tw.fitT u)∧(l.length≤100000000∧ts.length≤100000000)∧n=(↑(min l.length ts.length):Int)) (Out.nm (Except Int Tw) (Qaz l ts (Tw.mk k nm b d kids)) fun (z:Except Int Tw)=>Out.ret (PV.tup [tmP (valE Sh.tm.nil z),iV (errE z)]) [PO.gone,PO.gone,PO.gone,PO.gone,PO.gone,PO.gone])).fin true (PV.tup [PV.agg [PV.f (Lf.v (Value.int IntKind.u8 0)),sV (ByteArray.mk #[]),bV false,PV.f (Lf.v (Value.slice none 0 0)),PV.f (Lf.v (Value.slice none 0 0))],iV 34]) [PO.gone,PO.gone,PO.gone,PO.gone,PO.gone,PO.gone,PO.cells [PV.f (Lf.v (Value.int IntKind.u8 0)),sV (ByteArray.mk #[]),bV false,PV.f (Lf.v (Value.slice none 0 0)),PV.f (Lf.v (Value.slice none 0 0))],PO.cells [iV 34],PO.cells [PV.f (Lf.v (Value.int IntKind.u8 0)),sV (ByteArray.mk #[]),bV false,PV.f (Lf.v (Value.slice none 0 0)),PV.f (Lf.v (Value.slice none 0 0))]])) ?kr ?_
   case kr=>kernel_rfl
   refine ⟨?s0,Qaa.2 ⟨fun hb0=>?m0,fun hb0=>?m1⟩⟩
   case s0=>exact ⟨⟨hft,hts⟩,⟨hl,htl⟩,hn⟩
   case m0 =>
    have e:Qaz l ts (Tw.mk k nm b d kids)=.ok (Qac l ts (Tw.mk k nm b d kids)):=if_pos (by have:=of_decide_eq_true hb0; omega)
    rw [e]
    exact Qaw (endW rfl (.refl (.tup [tmP (Qac l ts (Tw.mk k nm b d kids)),iV 0])) rfl rfl trivial)
   case m1 =>
    have e:Qaz l ts (Tw.mk k nm b d kids)=.error 34:=if_neg (by have:=of_decide_eq_false hb0; omega)
    rw [e]
    exact Qaw (endW rfl (tupBs (.cons (QaK (t:=Sh.tm.nil) rfl) (.cons (.refl _) .nil))) rfl rfl trivial)
 · cases hs
def QiK:Spec
 | [x,.f y,.f z]=>match tmOf x,dtOf .str y,dtOf .tm z with
  | some t,some l,some ts=>some (some ((t.fitT∧∀ u∈ts,u.fitT)∧(l.length≤100000000∧ts.length≤100000000)),.nm (Except Int Tw) (Qaz l ts t) fun z=>.tup [tmP (valE Sh.tm.nil z),iV (errE z)])
  | _,_,_=>none
 | _=>none
theorem Qn4 {E:Env} (hU:Up E):Contract Tryd.prog E 8 QiK:=by
 refine Qaq [] [(29,QhT),(30,QhO)] Tryd.ntmps8 Tryd.func8 (by kernel_rfl) (by kernel_rfl) hU trivial ⟨Qpj hU,Qpd hU,trivial⟩ ?_
 intro xs p r hs hp
 unfold QiK at hs
 split at hs
 · rename_i x y z
   split at hs
   · rename_i t l ts h1 h2 h3
     cases hs
     obtain ⟨⟨hft,hts⟩,hl,htl⟩:=hp _ rfl
     refine ⟨[tmP t,.f (.dt .str l),.f (.dt .tm ts)],[],.cons (QaK h1).sub (.cons (Qbt h2).sub (.cons (Qbt h3).sub .nil)),rfl,fun _ hsh=>?_⟩
     have h0:=hft
     refine Qag (p:=(((Tw.mk t.kind t.name t.neg t.digits t.kids).fitT∧∀ (u:Sh.tm.T),u∈ts→Tw.fitT u)∧(l.length≤100000000∧ts.length≤100000000)∧min (↑l.length:Int) (↑ts.length:Int)=(↑(min l.length ts.length):Int))∧∀ (z1:Except Int Tw),z1=Qaz l ts (Tw.mk t.kind t.name t.neg t.digits t.kids)→true=true∧Sub (PV.tup [PV.agg (Qad (tmC (valE Sh.tm.nil z1))),iV (errE z1)]) (PV.tup [PV.agg (Qad (tmC (valE Sh.tm.nil (Qaz l ts t)))),iV (errE (Qaz l ts t))])) ?kr ?_
     case kr=>kernel_rfl
     refine ⟨?s0,fun z1=>fun hz1=>⟨rfl,?m0⟩⟩
     all_goals try simp only [Tw.eta] at *
     case s0=>exact ⟨⟨hft,hts⟩,⟨hl,htl⟩,by omega⟩
     case m0=>subst hz1; exact .refl _
   · cases hs
 · cases hs
end Go.Proofs.YtemhncjjiomppaaDoor
