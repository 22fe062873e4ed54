/- The layer term: Sort, told or the error. -/
import Derived.Test.YtijfaigpilfpaaaGreatDoorTp
import Derived.Test.YtijfaigpilfpaaaGreatDoorVc
set_option linter.unusedSimpArgs false
namespace Go.Proofs.YtijfaigpilfpaaaGreatDoor
open Go.RowKit
set_option linter.unusedVariables false
set_option maxRecDepth 100000
def iV (n:Int):PV:=.f (.v (.int .i64 n))
def bV (b:Bool):PV:=.f (.v (.bool b))
def sV (s:ByteArray):PV:=.f (.v (.string s))
def eP (e:Int):PV:=.ifc 36 (.f (.v (.int .i64 e)))
def outE {α:Type} (d:α) (pv:α→PV) (e:Except Int α) (ob:List PO):Out:=.nm (Except Int α) e fun y=>.br (okE y) (.ret (pv (valE d y)) ob) (.pan (eP (errE y)) ob)
theorem Qfs {α:Type} {d:α} {pv:α→PV} {e:Except Int α} {ob:List PO} {x:α} (h:e=.ok x):(outE d pv e ob).fin=(true,pv x,ob):=by subst h; rfl
theorem QbF {α:Type} {d:α} {pv:α→PV} {e:Except Int α} {ob:List PO} {x:Int} (h:e=.error x):(outE d pv e ob).fin=(false,eP x,ob):=by subst h; rfl
theorem not_t {b:Bool} (h:(!b)=true):b=false:=by simpa using h
theorem not_f {b:Bool} (h:(!b)=false):b=true:=by simpa using h
def Qhc:Spec2
 | [.f (.v (.bool b)),.f (.v (.int .i64 e))],[]=>some (.br b (.ret (.tup []) []) (.pan (eP e) []))
 | _,_=>none
theorem Qku {E:Env} (hU:Up E):Contract2 Tryz.prog E 175 Qhc:=by
 refine contract2 [] [] Tryz.ntmps175 Tryz.func175 (by kernel_rfl) (by kernel_rfl) hU trivial trivial ?_
 intro xs ob o hs hok
 unfold Qhc at hs
 split at hs
 · rename_i b e
   cases hs
   refine ⟨[.f (.v (.bool b)),.f (.v (.int .i64 e))],[],.cons (.refl _) (.cons (.refl _) .nil),rfl,fun _ _=>?_⟩
   refine Qab (p:=ifB (!b) (EndU 0 (Out.br b (Out.ret (PV.tup []) []) (Out.pan (eP e) [])).fin false (PV.ifc 36 (PV.f (Lf.v (Value.int IntKind.i64 e)))) []) (EndU 0 (Out.br b (Out.ret (PV.tup []) []) (Out.pan (eP e) [])).fin true (PV.tup []) [])) (by kernel_rfl) ?_
   refine Qaa.2 ⟨fun hb0=>?m0,fun hb0=>?m1⟩
   case m0=>rw [not_t hb0]; exact endU rfl (.refl _) rfl rfl (r:=[]) rfl
   case m1=>rw [not_f hb0]; exact endU rfl (.refl _) rfl rfl (r:=[]) rfl
 · cases hs
def QsJ:Spec2
 | [.f (.v (.int .u8 k))],[]=>some (.nm Int (Qay k) fun n=>.br (decide (n≠-2)) (.ret (iV n) []) (.pan (eP 23) []))
 | _,_=>none
theorem Qe2 {k n:Int} {x:PV} (hx:x=iV n) (h:Qay k=n) (hn:n≠-2):EndU 0 (Out.nm Int (Qay k) fun n=>.br (decide (n≠-2)) (.ret (iV n) []) (.pan (eP 23) [])).fin true x []:=by
 subst hx
 refine endU (y:=iV n) (ob:=[]) ?_ (.refl _) rfl rfl (r:=[]) rfl
 rw [h]
 show (match decide (n≠-2) with | true=>_ | false=>_)=_
 rw [decide_eq_true hn]; rfl
theorem Qs9 {k:Int} {x:PV} (hx:x=eP 23) (h:Qay k=-2):EndU 0 (Out.nm Int (Qay k) fun n=>.br (decide (n≠-2)) (.ret (iV n) []) (.pan (eP 23) [])).fin false x []:=by
 subst hx
 refine endU (y:=eP 23) (ob:=[]) ?_ (.refl _) rfl rfl (r:=[]) rfl
 rw [h]
 rfl
theorem cKids {E:Env} (hU:Up E):Contract2 Tryz.prog E 295 QsJ:=by
 refine contract2 [] [] Tryz.ntmps295 Tryz.func295 (by kernel_rfl) (by kernel_rfl) hU trivial trivial ?_
 intro xs ob o hs hok
 unfold QsJ at hs
 split at hs
 · rename_i k
   cases hs
   refine ⟨[.f (.v (.int .u8 k))],[],.cons (.refl _) .nil,rfl,fun _ _=>?_⟩
   refine Qab (p:=ifB (k==(1:Int)) (EndU 0 (Out.nm Int (Qay k) fun (n:Int)=>Out.br (decide (n≠(-2:Int))) (Out.ret (iV n) []) (Out.pan (eP (23:Int)) [])).fin true (PV.f (Lf.v (Value.int IntKind.i64 (0:Int)))) []) (ifB (k==(2:Int)) (EndU 0 (Out.nm Int (Qay k) fun (n:Int)=>Out.br (decide (n≠(-2:Int))) (Out.ret (iV n) []) (Out.pan (eP (23:Int)) [])).fin true (PV.f (Lf.v (Value.int IntKind.i64 (0:Int)))) []) (ifB (k==(3:Int)) (EndU 0 (Out.nm Int (Qay k) fun (n:Int)=>Out.br (decide (n≠(-2:Int))) (Out.ret (iV n) []) (Out.pan (eP (23:Int)) [])).fin true (PV.f (Lf.v (Value.int IntKind.i64 (0:Int)))) []) (ifB (k==(4:Int)) (EndU 0 (Out.nm Int (Qay k) fun (n:Int)=>Out.br (decide (n≠(-2:Int))) (Out.ret (iV n) []) (Out.pan (eP (23:Int)) [])).fin true (PV.f (Lf.v (Value.int IntKind.i64 (0:Int)))) []) (ifB (k==(6:Int)) (EndU 0 (Out.nm Int (Qay k) fun (n:Int)=>Out.br (decide (n≠(-2:Int))) (Out.ret (iV n) []) (Out.pan (eP (23:Int)) [])).fin true (PV.f (Lf.v (Value.int IntKind.i64 (1:Int)))) []) (ifB (k==(7:Int)) (EndU 0 (Out.nm Int (Qay k) fun (n:Int)=>Out.br (decide (n≠(-2:Int))) (Out.ret (iV n) []) (Out.pan (eP (23:Int)) [])).fin true (PV.f (Lf.v (Value.int IntKind.i64 (1:Int)))) []) (ifB (k==(10:Int)) (EndU 0 (Out.nm Int (Qay k) fun (n:Int)=>Out.br (decide (n≠(-2:Int))) (Out.ret (iV n) []) (Out.pan (eP (23:Int)) [])).fin true (PV.f (Lf.v (Value.int IntKind.i64 (1:Int)))) []) (ifB (k==(8:Int)) (EndU 0 (Out.nm Int (Qay k) fun (n:Int)=>Out.br (decide (n≠(-2:Int))) (Out.ret (iV n) []) (Out.pan (eP (23:Int)) [])).fin true (PV.f (Lf.v (Value.int IntKind.i64 (2:Int)))) []) (ifB (k==(9:Int)) (EndU 0 (Out.nm Int (Qay k) fun (n:Int)=>Out.br (decide (n≠(-2:Int))) (Out.ret (iV n) []) (Out.pan (eP (23:Int)) [])).fin true (PV.f (Lf.v (Value.int IntKind.i64 (2:Int)))) []) (ifB (k==(13:Int)) (EndU 0 (Out.nm Int (Qay k) fun (n:Int)=>Out.br (decide (n≠(-2:Int))) (Out.ret (iV n) []) (Out.pan (eP (23:Int)) [])).fin true (PV.f (Lf.v (Value.int IntKind.i64 (2:Int)))) []) (ifB (k==(5:Int)) (EndU 0 (Out.nm Int (Qay k) fun (n:Int)=>Out.br (decide (n≠(-2:Int))) (Out.ret (iV n) []) (Out.pan (eP (23:Int)) [])).fin true (PV.f (Lf.v (Value.int IntKind.i64 (-1:Int)))) []) (ifB (k==(11:Int)) (EndU 0 (Out.nm Int (Qay k) fun (n:Int)=>Out.br (decide (n≠(-2:Int))) (Out.ret (iV n) []) (Out.pan (eP (23:Int)) [])).fin true (PV.f (Lf.v (Value.int IntKind.i64 (-1:Int)))) []) (ifB (k==(12:Int)) (EndU 0 (Out.nm Int (Qay k) fun (n:Int)=>Out.br (decide (n≠(-2:Int))) (Out.ret (iV n) []) (Out.pan (eP (23:Int)) [])).fin true (PV.f (Lf.v (Value.int IntKind.i64 (-1:Int)))) []) (EndU 0 (Out.nm Int (Qay k) fun (n:Int)=>Out.br (decide (n≠(-2:Int))) (Out.ret (iV n) []) (Out.pan (eP (23:Int)) [])).fin false (PV.ifc 36 (PV.f (Lf.v (Value.int IntKind.i64 (23:Int))))) [])))))))))))))) (by kernel_rfl) ?_
   refine Qaa.2 ⟨fun hb0=>?m0,fun hb0=>Qaa.2 ⟨fun hb1=>?m1,fun hb1=>Qaa.2 ⟨fun hb2=>?m2,fun hb2=>Qaa.2 ⟨fun hb3=>?m3,fun hb3=>Qaa.2 ⟨fun hb4=>?m4,fun hb4=>Qaa.2 ⟨fun hb5=>?m5,fun hb5=>Qaa.2 ⟨fun hb6=>?m6,fun hb6=>Qaa.2 ⟨fun hb7=>?m7,fun hb7=>Qaa.2 ⟨fun hb8=>?m8,fun hb8=>Qaa.2 ⟨fun hb9=>?m9,fun hb9=>Qaa.2 ⟨fun hb10=>?m10,fun hb10=>Qaa.2 ⟨fun hb11=>?m11,fun hb11=>Qaa.2 ⟨fun hb12=>?m12,fun hb12=>?m13⟩⟩⟩⟩⟩⟩⟩⟩⟩⟩⟩⟩⟩
   all_goals simp only [beq_iff_eq,beq_eq_false_iff_ne] at *
   all_goals first
    | exact Qe2 (n:=0) rfl (by unfold Qay; grind) (by decide)
    | exact Qe2 (n:=1) rfl (by unfold Qay; grind) (by decide)
    | exact Qe2 (n:=2) rfl (by unfold Qay; grind) (by decide)
    | exact Qe2 (n:=-1) rfl (by unfold Qay; grind) (by decide)
    | exact Qs9 rfl (by unfold Qay; grind)
 · cases hs
theorem Qah {n m:Bool} (h:n=m):SubB (bV n) (bV m):=by subst h; exact .refl _
theorem Qad {n m:Int} (h:n=m):SubB (iV n) (iV m):=by subst h; exact .refl _
theorem Qap {s:Sh} {l:List s.T} (h:Qim (.f (.dt s l))):l.length≤9223372036854775807:=by
 have h':l.length≤maxLen:=h.1
 unfold maxLen at h'
 omega
theorem Qmw {s:Sh} {l:List s.T} (h:Qim (.f (.dt s l))) {i j:Nat} {s':Sh} {m:List s'.T} (hi:i<l.length) (hj:(s.cells (l.getD i s.nil))[j]?=some (.dt s' m)):m.length≤9223372036854775807:=by
 have h':m.length≤maxLen:=h.2 i hi j _ hj
 unfold maxLen at h'
 omega
theorem br_t {b:Bool} {x y:Out} (h:b=true):(Out.br b x y).fin=x.fin:=by subst h; rfl
theorem br_f {b:Bool} {x y:Out} (h:b=false):(Out.br b x y).fin=y.fin:=by subst h; rfl
def sAll:Spec2
 | [.f (.v (.string s)),.f (.dt .str l)],[]=>some (.br (Qcz l s) (.ret (.tup []) []) (.pan (eP 23) []))
 | _,_=>none
theorem cAll {E:Env} (hU:Up E):Contract2 Tryz.prog E 297 sAll:=by
 refine contract2 [] [(175,Qhc)] Tryz.ntmps297 Tryz.func297 (by kernel_rfl) (by kernel_rfl) hU trivial ⟨Qku hU,trivial⟩ ?_
 intro xs ob o hs hok
 unfold sAll at hs
 split at hs
 · rename_i s l
   cases hs
   refine ⟨[.f (.v (.string s)),.f (.dt .str l)],[(1,.s ⟨Nat,fun i=>⟨[(0,sV s),(6,.f (.dt .str l)),(7,iV l.length),(8,iV i)],[]⟩,fun i=>i≤l.length∧Qcz (l.take i) s=true,fun i=>l.length - i⟩)],.cons (.refl _) (.cons (.refl _) .nil),rfl,fun _ hsh=>?_⟩
   have hl:=Qap hsh.2.1
   refine Qab (p:=∃ (x1:Nat),(True∧rfB (PV.f (Lf.v (Value.string s)))∧rfB (dP Sh.str l)∧rfB (PV.f (Lf.v (Value.int IntKind.i64 (↑l.length:Int))))∧SubB (PV.f (Lf.v (Value.int IntKind.i64 (0:Int)))) (PV.f (Lf.v (Value.int IntKind.i64 (↑x1:Int))))∧True)∧(x1≤l.length∧Qcz (List.take x1 l) s=true)∧True∧∀ (z2:Nat),z2≤l.length∧Qcz (List.take z2 l) s=true→True→ifB (decide ((↑z2:Int)<(↑l.length:Int))) (((0:Int)≤(↑z2:Int)∧(↑z2:Int)<(↑l.length:Int))∧ifB (ByteArray.toList (l.getD (↑z2:Int).toNat Sh.str.nil)==s.toList) (∃ (x3:Nat),(True∧rfB (PV.f (Lf.v (Value.string s)))∧rfB (dP Sh.str l)∧rfB (PV.f (Lf.v (Value.int IntKind.i64 (↑l.length:Int))))∧SubB (PV.f (Lf.v (Value.int IntKind.i64 (IntKind.i64.wrap ((↑z2:Int)+(1:Int)))))) (PV.f (Lf.v (Value.int IntKind.i64 (↑x3:Int))))∧True)∧(x3≤l.length∧Qcz (List.take x3 l) s=true)∧True∧(l.length - x3).succ.le (l.length - z2)) (EndU 0 (Out.br (Qcz l s) (Out.ret (PV.tup []) []) (Out.pan (eP (23:Int)) [])).fin false (PV.ifc 36 (PV.f (Lf.v (Value.int IntKind.i64 (23:Int))))) [])) (EndU 0 (Out.br (Qcz l s) (Out.ret (PV.tup []) []) (Out.pan (eP (23:Int)) [])).fin true (PV.tup []) [])) (by kernel_rfl) ?_
   refine ⟨?x0,⟨⟨trivial,⟨.refl _,⟨.refl _,⟨.refl _,⟨?m0,trivial⟩⟩⟩⟩⟩,⟨?s0,⟨trivial,fun z2=>fun hq0=>fun _=>Qaa.2 ⟨fun hb1=>⟨?s1,Qaa.2 ⟨fun hb2=>⟨?x1,⟨⟨trivial,⟨.refl _,⟨.refl _,⟨.refl _,⟨?m1,trivial⟩⟩⟩⟩⟩,⟨?s2,⟨trivial,?m2⟩⟩⟩⟩,fun hb2=>?m3⟩⟩,fun hb1=>?m4⟩⟩⟩⟩⟩
   case x0=>exact 0
   case x1=>exact z2+1
   all_goals try simp only [bs_l,decide_eq_true_eq,decide_eq_false_iff_not] at *
   case m0=>exact .refl _
   case s0=>exact ⟨Nat.zero_le _,rfl⟩
   case s1=>omega
   case m1=>exact Qad (by rw [wJ _ (by omega) (by omega)]; omega)
   case s2=>exact ⟨by omega,by rw [Qne l s Sh.str.nil (by omega),hq0.2]; simpa using hb2⟩
   case m2 => have : l.length - (z2 + 1) < l.length - z2 := by omega
              exact this
   case m3 =>
    rw [br_f (QpH (l:=l) (i:=z2) (by omega) hb2)]
    exact endU rfl (.refl _) rfl rfl (r:=[]) rfl
   case m4 =>
    have e:l.take z2=l:=List.take_of_length_le (by omega)
    rw [br_t (by rw [← e]; exact hq0.2)]
    exact endU rfl (.refl _) rfl rfl (r:=[]) rfl
 · cases hs
def QnX:Spec2
 | [.agg [.f (.v (.string n)),.f (.dt .con l)],.bp 0 0],[.cells [.f (.v (.string s))]]=>some (.ret (bV (decide (n=s))) [.cells [sV s]])
 | _,_=>none
theorem cDataF {E:Env} (hU:Up E):Contract2 Tryz.prog E 327 QnX:=by
 refine contract2 [] [] Tryz.ntmps327 Tryz.func327 (by kernel_rfl) (by kernel_rfl) hU trivial trivial ?_
 intro xs ob o hs hok
 unfold QnX at hs
 split at hs
 · rename_i n l s
   cases hs
   refine ⟨[.agg [.f (.v (.string n)),.f (.dt .con l)],.bp 0 0],[],.cons (.refl _) (.cons (.refl _) .nil),rfl,fun _ hsh=>?_⟩
   refine Qab (p:=EndU 1 (Out.ret (bV (decide (n=s))) [PO.cells [sV s]]).fin true (PV.f (Lf.v (Value.bool (n.toList==s.toList)))) [PO.cells [PV.f (Lf.v (Value.string s))],PO.cells [PV.f (Lf.v (Value.string n)),dP Sh.con l]]) (by kernel_rfl) ?_
   refine ?m0
   case m0=>exact endU rfl (Qah (bs_l n s)) rfl rfl (r:=[.cells [sV n,.f (.dt .con l)]]) rfl
 · cases hs
def anyD (D:List Dat) (s:ByteArray):Int:=anyB D fun d=>decide (d.name=s)
def QjI:Spec2
 | [.f (.dt .dat D),.fn f [] [.bp 0 0]],[.cells [.f (.v (.string s))]]=>match Nat.beq f 327 with
  | true=>some (.ret (iV (anyD D s)) [.cells [sV s]])
  | false=>none
 | _,_=>none
theorem QtP {E:Env} (hU:Up E):Contract2 Tryz.prog E 293 QjI:=by
 refine contract2 [] [(327,QnX)] Tryz.ntmps293 Tryz.func293 (by kernel_rfl) (by kernel_rfl) hU trivial ⟨cDataF hU,trivial⟩ ?_
 intro xs ob o hs hok
 unfold QjI at hs
 split at hs
 · rename_i D f s
   split at hs
   · rename_i hf
     cases hs
     have hf:=Nat.eq_of_beq_eq_true hf
     subst hf
     refine ⟨[.f (.dt .dat D),.fn 327 [] [.bp 0 0]],[(2,.s ⟨Nat,fun i=>⟨[(0,.f (.dt .dat D)),(1,.fn 327 [] [.bp 0 0]),(7,iV D.length),(8,iV i)],[.cells [sV s]]⟩,fun i=>i≤D.length∧∀ k,k<i→¬ (Dat.name (D.getD k Sh.dat.nil)=s),fun i=>D.length - i⟩)],.cons (.refl _) (.cons (.refl _) .nil),rfl,fun _ hsh=>?_⟩
     have hl:=Qap hsh.1
     refine Qab (p:=∃ (x1:Nat),(((rfB (PV.f (Lf.v (Value.string s)))∧True)∧True)∧rfB (dP Sh.dat D)∧rfB (PV.fn 327 [] [PV.bp 0 0])∧rfB (PV.f (Lf.v (Value.int IntKind.i64 (↑D.length:Int))))∧SubB (PV.f (Lf.v (Value.int IntKind.i64 (0:Int)))) (PV.f (Lf.v (Value.int IntKind.i64 (↑x1:Int))))∧True)∧(x1≤D.length∧∀ (k:Nat),k<x1→¬(D.getD k Sh.dat.nil).name=s)∧True∧∀ (z2:Nat),(z2≤D.length∧∀ (k:Nat),k<z2→¬(D.getD k Sh.dat.nil).name=s)→True→ifB (decide ((↑z2:Int)<(↑D.length:Int))) (((0:Int)≤(↑z2:Int)∧(↑z2:Int)<(↑D.length:Int))∧ifB (decide ((D.getD (↑z2:Int).toNat Sh.dat.nil).name=s)) (EndU 1 (Out.ret (iV (anyD D s)) [PO.cells [sV s]]).fin true (PV.f (Lf.v (Value.int IntKind.i64 (↑z2:Int)))) [PO.cells [PV.f (Lf.v (Value.string s))]]) (∃ (x3:Nat),(((rfB (PV.f (Lf.v (Value.string s)))∧True)∧True)∧rfB (dP Sh.dat D)∧rfB (PV.fn 327 [] [PV.bp 0 0])∧rfB (PV.f (Lf.v (Value.int IntKind.i64 (↑D.length:Int))))∧SubB (PV.f (Lf.v (Value.int IntKind.i64 (IntKind.i64.wrap ((↑z2:Int)+(1:Int)))))) (PV.f (Lf.v (Value.int IntKind.i64 (↑x3:Int))))∧True)∧(x3≤D.length∧∀ (k:Nat),k<x3→¬(D.getD k Sh.dat.nil).name=s)∧True∧(D.length - x3).succ.le (D.length - z2))) (EndU 1 (Out.ret (iV (anyD D s)) [PO.cells [sV s]]).fin true (PV.f (Lf.v (Value.int IntKind.i64 (-1:Int)))) [PO.cells [PV.f (Lf.v (Value.string s))]])) (by kernel_rfl) ?_
     refine ⟨?x0,⟨⟨⟨⟨.refl _,trivial⟩,trivial⟩,⟨.refl _,⟨.refl _,⟨.refl _,⟨?m0,trivial⟩⟩⟩⟩⟩,⟨?s0,⟨trivial,fun z2=>fun hq0=>fun _=>Qaa.2 ⟨fun hb1=>⟨?s1,Qaa.2 ⟨fun hb2=>?m1,fun hb2=>⟨?x1,⟨⟨⟨⟨.refl _,trivial⟩,trivial⟩,⟨.refl _,⟨.refl _,⟨.refl _,⟨?m2,trivial⟩⟩⟩⟩⟩,⟨?s2,⟨trivial,?m3⟩⟩⟩⟩⟩⟩,fun hb1=>?m4⟩⟩⟩⟩⟩
     case x0=>exact 0
     case x1=>exact z2+1
     all_goals try simp only [decide_eq_true_eq,decide_eq_false_iff_not] at *
     case m0=>exact .refl _
     case s0=>exact ⟨Nat.zero_le _,fun k hk=>by omega⟩
     case s1=>omega
     case m1=>exact endU rfl (Qad (Qe8 Sh.dat.nil (by omega) (by simpa using hb2) (fun k hk=>by simpa using hq0.2 k hk)).symm) rfl rfl (r:=[]) rfl
     case m2=>exact Qad (by rw [wJ _ (by omega) (by omega)]; omega)
     case s2 =>
      refine ⟨by omega,fun k hk=>?_⟩
      by_cases hkz:k=z2
      · subst hkz; exact hb2
      · exact hq0.2 k (by omega)
     case m3 => have : D.length - (z2 + 1) < D.length - z2 := by omega
                exact this
     case m4=>exact endU rfl (Qad (Qd5 Sh.dat.nil fun k hk=>by simpa using hq0.2 k (by omega)).symm) rfl rfl (r:=[]) rfl
   · cases hs
 · cases hs
def QnZ:Spec2
 | [.f (.dt .dat D),.fn f [] [.bp 0 0]],[.cells [.f (.v (.string s))]]=>match Nat.beq f 327 with
  | true=>some (.ret (bV (decide (0≤anyD D s))) [.cells [sV s]])
  | false=>none
 | _,_=>none
theorem cContD {E:Env} (hU:Up E):Contract2 Tryz.prog E 250 QnZ:=by
 refine contract2 [] [(293,QjI)] Tryz.ntmps250 Tryz.func250 (by kernel_rfl) (by kernel_rfl) hU trivial ⟨QtP hU,trivial⟩ ?_
 intro xs ob o hs hok
 unfold QnZ at hs
 split at hs
 · rename_i D f s
   split at hs
   · rename_i hf
     cases hs
     have hf:=Nat.eq_of_beq_eq_true hf
     subst hf
     refine ⟨[.f (.dt .dat D),.fn 327 [] [.bp 0 0]],[],.cons (.refl _) (.cons (.refl _) .nil),rfl,fun _ hsh=>?_⟩
     refine Qab (p:=EndU 1 (Out.ret (bV (decide ((0:Int)≤anyD D s))) [PO.cells [sV s]]).fin true (PV.f (Lf.v (Value.bool (decide (anyD D s ≥ (0:Int)))))) [PO.cells [PV.f (Lf.v (Value.string s))]]) (by kernel_rfl) ?_
     refine ?m0
     case m0=>exact endU rfl (.refl _) rfl rfl (r:=[]) rfl
   · cases hs
 · cases hs
def soO (D:List Dat) (S:List Srt):List PO:=[.cells [.f (.dt .dat D),.f (.dt .srt S)]]
def Qp9:Spec2
 | [.bp 0 0,.f (.v (.string s))],[.cells [.f (.dt .dat D),.f (.dt .srt S)]]=>some (.ret (bV (QfU D s)) (soO D S))
 | _,_=>none
theorem cData {E:Env} (hU:Up E):Contract2 Tryz.prog E 321 Qp9:=by
 refine contract2 [] [(250,QnZ)] Tryz.ntmps321 Tryz.func321 (by kernel_rfl) (by kernel_rfl) hU trivial ⟨cContD hU,trivial⟩ ?_
 intro xs ob o hs hok
 unfold Qp9 at hs
 split at hs
 · rename_i s D S
   cases hs
   refine ⟨[.bp 0 0,.f (.v (.string s))],[],.cons (.refl _) (.cons (.refl _) .nil),rfl,fun _ hsh=>?_⟩
   refine Qab (p:=ifB (!s.toList==(ByteArray.mk #[(105:UInt8),(110:UInt8),(116:UInt8)]).toList) (ifB (!s.toList==(ByteArray.mk #[(98:UInt8),(111:UInt8),(111:UInt8),(108:UInt8)]).toList) (EndU 1 (Out.ret (bV (QfU D s)) (soO D S)).fin true (PV.f (Lf.v (Value.bool (decide ((0:Int)≤anyD D s))))) [PO.cells [dP Sh.dat D,dP Sh.srt S],PO.cells [PV.f (Lf.v (Value.string s))]]) (EndU 1 (Out.ret (bV (QfU D s)) (soO D S)).fin true (PV.f (Lf.v (Value.bool false))) [PO.cells [dP Sh.dat D,dP Sh.srt S],PO.cells [PV.f (Lf.v (Value.string s))]])) (EndU 1 (Out.ret (bV (QfU D s)) (soO D S)).fin true (PV.f (Lf.v (Value.bool false))) [PO.cells [dP Sh.dat D,dP Sh.srt S],PO.cells [PV.f (Lf.v (Value.string s))]])) (by kernel_rfl) ?_
   refine Qaa.2 ⟨fun hb0=>Qaa.2 ⟨fun hb1=>?m0,fun hb1=>?m1⟩,fun hb0=>?m2⟩
   all_goals refine endU rfl (Qah ?_) rfl rfl (r:=_) rfl
   all_goals simp only [bs_l,QfU,anyD] at *
   all_goals simp_all [bInt,Qd4]
   all_goals rfl
 · cases hs
def Qqa:Spec2
 | [.bp 0 0,.f (.v (.string s))],[.cells [.f (.dt .dat D),.f (.dt .srt S)]]=>some (.ret (bV (Qd3 D s)) (soO D S))
 | _,_=>none
theorem cBase {E:Env} (hU:Up E):Contract2 Tryz.prog E 319 Qqa:=by
 refine contract2 [] [(321,Qp9)] Tryz.ntmps319 Tryz.func319 (by kernel_rfl) (by kernel_rfl) hU trivial ⟨cData hU,trivial⟩ ?_
 intro xs ob o hs hok
 unfold Qqa at hs
 split at hs
 · rename_i s D S
   cases hs
   refine ⟨[.bp 0 0,.f (.v (.string s))],[],.cons (.refl _) (.cons (.refl _) .nil),rfl,fun _ hsh=>?_⟩
   refine Qab (p:=ifB (s.toList==(ByteArray.mk #[(105:UInt8),(110:UInt8),(116:UInt8)]).toList) (EndU 1 (Out.ret (bV (Qd3 D s)) (soO D S)).fin true (PV.f (Lf.v (Value.bool true))) [PO.cells [dP Sh.dat D,dP Sh.srt S]]) (ifB (s.toList==(ByteArray.mk #[(98:UInt8),(111:UInt8),(111:UInt8),(108:UInt8)]).toList) (EndU 1 (Out.ret (bV (Qd3 D s)) (soO D S)).fin true (PV.f (Lf.v (Value.bool true))) [PO.cells [dP Sh.dat D,dP Sh.srt S]]) (EndU 1 (Out.ret (bV (Qd3 D s)) (soO D S)).fin true (PV.f (Lf.v (Value.bool (QfU D s)))) [PO.cells [dP Sh.dat D,dP Sh.srt S]]))) (by kernel_rfl) ?_
   refine Qaa.2 ⟨fun hb0=>?m0,fun hb0=>Qaa.2 ⟨fun hb1=>?m1,fun hb1=>?m2⟩⟩
   all_goals refine endU rfl (Qah ?_) rfl rfl (r:=[]) rfl
   all_goals simp only [bs_l,Qd3] at *
   all_goals simp_all [bInt,Qd4]
 · cases hs
end Go.Proofs.YtijfaigpilfpaaaGreatDoor
namespace Go.Proofs.YtijfaigpilfpaaaGreatDoor
open Go.RowKit
set_option linter.unusedVariables false
set_option maxRecDepth 100000
def Qn2:Spec2
 | [.f (.dt .srt l)],[]=>some (.ret (.fn 326 [] [.bp 0 0]) [.cells [.f (.dt .srt l)]])
 | _,_=>none
theorem cBackS {E:Env} (hU:Up E):Contract2 Tryz.prog E 318 Qn2:=by
 refine contract2 [] [] Tryz.ntmps318 Tryz.func318 (by kernel_rfl) (by kernel_rfl) hU trivial trivial ?_
 intro xs ob o hs hok
 unfold Qn2 at hs
 split at hs
 · rename_i l
   cases hs
   refine ⟨[.f (.dt .srt l)],[],.cons (.refl _) .nil,rfl,fun _ _=>?_⟩
   refine Qab (p:=EndU 0 (Out.ret (PV.fn 326 [] [PV.bp 0 0]) [PO.cells [dP Sh.srt l]]).fin true (PV.fn 326 [] [PV.bp 0 0]) [PO.cells [dP Sh.srt l]]) (by kernel_rfl) ?_
   refine ?m0
   case m0=>exact endU rfl (.refl _) rfl rfl (r:=[]) rfl
 · cases hs
def bkS:Backs:=bkL [(326,55,54)]
theorem bkS_ok:Qjo Tryz.prog bkS :=
 QtX (tI:=3) (tB:=4) (ts:=#[3,54]) Tryz.func326 (by kernel_rfl) (by kernel_rfl) Tryz.ntmps326 (by kernel_rfl) (by kernel_rfl) (by kernel_rfl) (by kernel_rfl) (by kernel_rfl) (by kernel_rfl) (by kernel_rfl)
def sVar:Spec2
 | [.bp 0 0,.f (.v (.string s))],[.cells [.f (.dt .dat D),.f (.dt .srt S)]]=>some (outE ⟨#[]⟩ sV (varS D S s) (soO D S))
 | _,_=>none
theorem cVar {E:Env} (hU:Up E):Contract2 Tryz.prog E 296 sVar:=by
 refine Qki (bk:=bkS) bkS_ok [] [(318,Qn2),(319,Qqa),(175,Qhc)] Tryz.ntmps296 Tryz.func296 (by kernel_rfl) (by kernel_rfl) hU trivial ⟨cBackS hU,cBase hU,Qku hU,trivial⟩ ?_
 intro xs ob o hs hok
 unfold sVar at hs
 split at hs
 · rename_i s D S
   cases hs
   refine ⟨[.bp 0 0,.f (.v (.string s))],[],rgL [(3,⟨Unit,[(2,.bp 1 0),(3,.bp 2 0),(4,.bp 3 0)],fun _=>[.cells [.f (.dt .dat D),.f (.dt .srt S)],.cells [.bp 0 0],.cells [sV s],.cells [sV ⟨#[]⟩],.cells [.f (.dt .srt S)]],5,fun i _=>varS D (S.take i) s=varS D S s⟩)],.cons (.refl _) (.cons (.refl _) .nil),rfl,fun _ _ hsh=>?_⟩
   have hl:=Qap hsh.1.2.1
   refine Qab (p:=S.length≤9223372036854775807∧(∀ (z1:Unit),[PO.cells [dP Sh.dat D,dP Sh.srt S],PO.cells [PV.bp 0 0],PO.cells [sV s],PO.cells [sV (ByteArray.mk #[])],PO.cells [dP Sh.srt S]].length=5∧some (PO.cells [dP Sh.srt S])=some (PO.cells [dP Sh.srt S]))∧(∃ (x1:Unit),(((rfB (dP Sh.dat D)∧rfB (dP Sh.srt S)∧True)∧(rfB (PV.bp 0 0)∧True)∧(rfB (sV s)∧True)∧(rfB (sV (ByteArray.mk #[]))∧True)∧(rfB (dP Sh.srt S)∧True)∧True)∧rfB (PV.fn 326 [] [PV.bp 4 0])∧rfB (PV.bp 1 0)∧rfB (PV.bp 2 0)∧rfB (PV.bp 3 0)∧True)∧varS D (List.take S.length S) s=varS D S s)∧(∀ (z1:Nat),z1<S.length→∀ (z2:Unit),varS D (List.take (z1+1) S) s=varS D S s→ifB ((S.getD z1 Sh.srt.nil).name.toList==s.toList) (ifB (Qd3 D (S.getD z1 Sh.srt.nil).sort) (EndU 1 (outE (ByteArray.mk #[]) sV (varS D S s) (soO D S)).fin true (sV ((S.getD z1 Sh.srt.nil).sort)) [PO.cells [dP Sh.dat D,dP Sh.srt S],PO.cells [PV.bp 0 0],PO.cells [sV s],PO.cells [sV ((S.getD z1 Sh.srt.nil).sort)],PO.cells [dP Sh.srt S],PO.cells [sV ((S.getD z1 Sh.srt.nil).name),sV ((S.getD z1 Sh.srt.nil).sort)]]) (EndU 1 (outE (ByteArray.mk #[]) sV (varS D S s) (soO D S)).fin false (PV.ifc 36 (iV 23)) [PO.cells [dP Sh.dat D,dP Sh.srt S],PO.cells [PV.bp 0 0],PO.cells [sV s],PO.cells [sV (ByteArray.mk #[])],PO.cells [dP Sh.srt S],PO.cells [sV ((S.getD z1 Sh.srt.nil).name),sV ((S.getD z1 Sh.srt.nil).sort)]])) (∃ (x3:Unit),(((rfB (dP Sh.dat D)∧rfB (dP Sh.srt S)∧True)∧(rfB (PV.bp 0 0)∧True)∧(rfB (sV s)∧True)∧(rfB (sV (ByteArray.mk #[]))∧True)∧(rfB (dP Sh.srt S)∧True)∧True)∧True)∧varS D (List.take z1 S) s=varS D S s))∧∀ (z1:Unit),varS D (List.take 0 S) s=varS D S s→EndU 1 (outE (ByteArray.mk #[]) sV (varS D S s) (soO D S)).fin false (PV.ifc 36 (iV 21)) [PO.cells [dP Sh.dat D,dP Sh.srt S],PO.cells [PV.bp 0 0],PO.cells [sV s],PO.cells [sV (ByteArray.mk #[])],PO.cells [dP Sh.srt S]]) (by kernel_rfl) ?_
   refine ⟨?s0,⟨fun z1=>⟨?s1,rfl⟩,⟨⟨?x0,⟨⟨⟨⟨.refl _,⟨.refl _,trivial⟩⟩,⟨⟨.refl _,trivial⟩,⟨⟨.refl _,trivial⟩,⟨⟨.refl _,trivial⟩,⟨⟨.refl _,trivial⟩,trivial⟩⟩⟩⟩⟩,⟨.refl _,⟨.refl _,⟨.refl _,⟨.refl _,trivial⟩⟩⟩⟩⟩,?m0⟩⟩,⟨fun z1=>fun hq0=>fun z2=>fun hq1=>Qaa.2 ⟨fun hb2=>Qaa.2 ⟨fun hb3=>?m1,fun hb3=>?m2⟩,fun hb2=>⟨?x1,⟨⟨⟨⟨.refl _,⟨.refl _,trivial⟩⟩,⟨⟨.refl _,trivial⟩,⟨⟨.refl _,trivial⟩,⟨⟨.refl _,trivial⟩,⟨⟨.refl _,trivial⟩,trivial⟩⟩⟩⟩⟩,trivial⟩,?m3⟩⟩⟩,fun z1=>fun hq4=>?m4⟩⟩⟩⟩
   case s0=>exact hl
   case s1=>rfl
   case x0=>exact ()
   case x1=>exact ()
   all_goals try simp only [bs_l,decide_eq_true_eq,decide_eq_false_iff_not] at *
   case m0=>rw [List.take_length]
   case m1 =>
    rw [Qfc D Sh.srt.nil hq0,if_pos hb2,if_pos hb3] at hq1
    exact endU (Qfs hq1.symm) (.refl _) rfl rfl rfl
   case m2 =>
    rw [Qfc D Sh.srt.nil hq0,if_pos hb2,if_neg (by rw [hb3]; simp)] at hq1
    exact endU (QbF hq1.symm) (.refl _) rfl rfl rfl
   case m3 =>
    rw [Qfc D Sh.srt.nil hq0,if_neg hb2] at hq1
    exact hq1
   case m4=>exact endU (QbF (by rw [← hq4]; rfl)) (.refl _) rfl rfl rfl
 · cases hs
end Go.Proofs.YtijfaigpilfpaaaGreatDoor
namespace Go.Proofs.YtijfaigpilfpaaaGreatDoor
open Go.RowKit
set_option linter.unusedVariables false
set_option maxRecDepth 100000
def frR:Option (ByteArray × ByteArray)→ByteArray
 | some (a,_)=>a
 | none=>⟨#[]⟩
def toR:Option (ByteArray × ByteArray)→ByteArray
 | some (_,b)=>b
 | none=>⟨#[]⟩
def funP (r:Option (ByteArray × ByteArray)):PV:=.tup [sV (frR r),sV (toR r),bV r.isSome]
def sFun:Spec
 | [.f (.dt .dat D),.f (.v (.string s))]=>some (some (s.size≤4611686018427387904),.nm (Option (ByteArray × ByteArray)) (funD D s) funP)
 | _=>none
theorem w8 (n:Int) (h1:0≤n) (h2:n≤255):IntKind.u8.wrap n=n:=by
 have:IntKind.u8.wrap n=n % 256:=by simp [IntKind.wrap,IntKind.bits,IntKind.signed]
 rw [this]; omega
theorem QfG {D:List Dat} {s:ByteArray} (h0:¬ s=bTag) (h1:2≤s.size) (h2:¬ (byN s (s.size - 2)≠46∨byN s (s.size - 1)<48∨57<byN s (s.size - 1))):funD D s=match conD D (s.extract 0 (s.size - 2)) with
  | some (d,c)=>if byN s (s.size - 1) - 48<c.fields.length then some (d,c.fields.getD (byN s (s.size - 1) - 48) ⟨#[]⟩) else none
  | none=>none:=by
 unfold funD
 rw [if_neg h0,if_neg (by omega),if_neg h2]
 generalize conD D (s.extract 0 (s.size - 2))=x
 cases x <;> rfl
theorem cFun {E:Env} (hU:Up E):Contract Tryz.prog E 320 sFun:=by
 refine Qac [] [] Tryz.ntmps320 Tryz.func320 (by kernel_rfl) (by kernel_rfl) hU trivial trivial ?_
 intro xs p r hs hp
 unfold sFun at hs
 split at hs
 · rename_i D s
   cases hs
   refine ⟨[.f (.dt .dat D),.f (.v (.string s))],[(7,.s ⟨Nat,fun i=>⟨[(1,sV s),(7,iV (s.size - 2)),(40,.f (.dt .dat D)),(41,iV D.length),(42,iV i)],[]⟩,fun i=>i≤D.length∧conD (D.drop i) (s.extract 0 (s.size - 2))=conD D (s.extract 0 (s.size - 2)),fun i=>D.length - i⟩),
    (10,⟨Nat × Nat,fun x=>⟨[(1,sV s),(7,iV (s.size - 2)),(40,.f (.dt .dat D)),(41,iV D.length),(42,iV x.1),(9,.bp 0 0),(47,.f (.dt .con (Dat.cons (D.getD x.1 Sh.dat.nil)))),(48,iV (Dat.cons (D.getD x.1 Sh.dat.nil)).length),(49,iV x.2)],[.cells [sV (Dat.name (D.getD x.1 Sh.dat.nil)),.f (.dt .con (Dat.cons (D.getD x.1 Sh.dat.nil)))]]⟩,
     fun x=>x.1<D.length∧x.2≤(Dat.cons (D.getD x.1 Sh.dat.nil)).length∧conD (⟨Dat.name (D.getD x.1 Sh.dat.nil),(Dat.cons (D.getD x.1 Sh.dat.nil)).drop x.2⟩::D.drop (x.1+1)) (s.extract 0 (s.size - 2))=conD D (s.extract 0 (s.size - 2)),fun x=>(Dat.cons (D.getD x.1 Sh.dat.nil)).length - x.2,fun x y=>x.1=y.1⟩)],
    .cons (.refl _) (.cons (.refl _) .nil),rfl,fun _ hsh=>?_⟩
   have hl:=Qap hsh.1
   have hsz:=hp _ rfl
   have e1:IntKind.i64.wrap ((s.size:Int) - 2)=(s.size:Int) - 2:=wJ _ (by omega) (by omega)
   have e2:IntKind.i64.wrap ((s.size:Int) - 2+1)=(s.size:Int) - 1:=by rw [wJ _ (by omega) (by omega)]; omega
   have e3:((s.size:Int) - 2).toNat=s.size - 2:=by omega
   have e4:((s.size:Int) - 1).toNat=s.size - 1:=by omega
   have eb:∀ i,(s.data.toList.getD i 0).toNat=byN s i:=fun i=>rfl
   have fno:funD D s=none→∀ x,x=PV.tup [sV ⟨#[]⟩,sV ⟨#[]⟩,bV false]→Sub x (funP (funD D s)):=fun h x hx=>by rw [h,hx]; exact .refl _
   refine Qab (p:=ifB (s.toList==(ByteArray.mk #[(116:UInt8),(97:UInt8),(103:UInt8)]).toList) (true=true∧Sub (PV.tup [sV (ByteArray.mk #[]),sV (ByteArray.mk #[(105:UInt8),(110:UInt8),(116:UInt8)]),bV true]) (PV.tup [sV (frR (funD D s)),sV (toR (funD D s)),bV ((funD D s).isSome)])) (ifB (decide (IntKind.i64.wrap ((↑s.size:Int) - (2:Int))<(0:Int))) (true=true∧Sub (PV.tup [sV (ByteArray.mk #[]),sV (ByteArray.mk #[]),bV false]) (PV.tup [sV (frR (funD D s)),sV (toR (funD D s)),bV ((funD D s).isSome)])) (((0:Int)≤IntKind.i64.wrap ((↑s.size:Int) - (2:Int))∧IntKind.i64.wrap ((↑s.size:Int) - (2:Int))<(↑s.size:Int))∧ifB ((↑(s.data.toList.getD (IntKind.i64.wrap ((↑s.size:Int) - (2:Int))).toNat (0:UInt8)).toNat:Int) != (46:Int)) (true=true∧Sub (PV.tup [sV (ByteArray.mk #[]),sV (ByteArray.mk #[]),bV false]) (PV.tup [sV (frR (funD D s)),sV (toR (funD D s)),bV ((funD D s).isSome)])) (((0:Int)≤IntKind.i64.wrap (IntKind.i64.wrap ((↑s.size:Int) - (2:Int))+(1:Int))∧IntKind.i64.wrap (IntKind.i64.wrap ((↑s.size:Int) - (2:Int))+(1:Int))<(↑s.size:Int))∧ifB (decide ((↑(s.data.toList.getD (IntKind.i64.wrap (IntKind.i64.wrap ((↑s.size:Int) - (2:Int))+(1:Int))).toNat (0:UInt8)).toNat:Int)<(48:Int))) (true=true∧Sub (PV.tup [sV (ByteArray.mk #[]),sV (ByteArray.mk #[]),bV false]) (PV.tup [sV (frR (funD D s)),sV (toR (funD D s)),bV ((funD D s).isSome)])) (((0:Int)≤IntKind.i64.wrap (IntKind.i64.wrap ((↑s.size:Int) - (2:Int))+(1:Int))∧IntKind.i64.wrap (IntKind.i64.wrap ((↑s.size:Int) - (2:Int))+(1:Int))<(↑s.size:Int))∧ifB (decide ((↑(s.data.toList.getD (IntKind.i64.wrap (IntKind.i64.wrap ((↑s.size:Int) - (2:Int))+(1:Int))).toNat (0:UInt8)).toNat:Int) > (57:Int))) (true=true∧Sub (PV.tup [sV (ByteArray.mk #[]),sV (ByteArray.mk #[]),bV false]) (PV.tup [sV (frR (funD D s)),sV (toR (funD D s)),bV ((funD D s).isSome)])) (∃ (x1:Nat),(True∧rfB (sV s)∧SubB (iV (IntKind.i64.wrap ((↑s.size:Int) - (2:Int)))) (iV ((↑s.size:Int) - (2:Int)))∧rfB (dP Sh.dat D)∧rfB (iV (↑D.length:Int))∧SubB (iV 0) (iV (↑x1:Int))∧True)∧(x1≤D.length∧conD (List.drop x1 D) (s.extract 0 (s.size - 2))=conD D (s.extract 0 (s.size - 2)))∧True∧∀ (z2:Nat),z2≤D.length∧conD (List.drop z2 D) (s.extract 0 (s.size - 2))=conD D (s.extract 0 (s.size - 2))→True→ifB (decide ((↑z2:Int)<(↑D.length:Int))) (((0:Int)≤(↑z2:Int)∧(↑z2:Int)<(↑D.length:Int))∧∃ (x3:Nat × Nat),(((SubB (sV ((D.getD (↑z2:Int).toNat Sh.dat.nil).name)) (sV ((D.getD x3.fst Sh.dat.nil).name))∧SubB (dP Sh.con (D.getD (↑z2:Int).toNat Sh.dat.nil).cons) (dP Sh.con (D.getD x3.fst Sh.dat.nil).cons)∧True)∧True)∧rfB (sV s)∧rfB (iV ((↑s.size:Int) - (2:Int)))∧rfB (dP Sh.dat D)∧rfB (iV (↑D.length:Int))∧SubB (iV (↑z2:Int)) (iV (↑x3.fst:Int))∧rfB (PV.bp 0 0)∧SubB (dP Sh.con (D.getD (↑z2:Int).toNat Sh.dat.nil).cons) (dP Sh.con (D.getD x3.fst Sh.dat.nil).cons)∧SubB (iV (↑(D.getD (↑z2:Int).toNat Sh.dat.nil).cons.length:Int)) (iV (↑(D.getD x3.fst Sh.dat.nil).cons.length:Int))∧SubB (iV 0) (iV (↑x3.snd:Int))∧True)∧(x3.fst<D.length∧x3.snd≤(D.getD x3.fst Sh.dat.nil).cons.length∧conD (Dat.mk (D.getD x3.fst Sh.dat.nil).name (List.drop x3.snd (D.getD x3.fst Sh.dat.nil).cons)::List.drop (x3.fst+1) D) (s.extract 0 (s.size - 2))=conD D (s.extract 0 (s.size - 2)))∧x3.fst=x3.fst∧∀ (z4:Nat × Nat),z4.fst<D.length∧z4.snd≤(D.getD z4.fst Sh.dat.nil).cons.length∧conD (Dat.mk (D.getD z4.fst Sh.dat.nil).name (List.drop z4.snd (D.getD z4.fst Sh.dat.nil).cons)::List.drop (z4.fst+1) D) (s.extract 0 (s.size - 2))=conD D (s.extract 0 (s.size - 2))→x3.fst=z4.fst→ifB (decide ((↑z4.snd:Int)<(↑(D.getD z4.fst Sh.dat.nil).cons.length:Int))) (((0:Int)≤(↑z4.snd:Int)∧(↑z4.snd:Int)<(↑(D.getD z4.fst Sh.dat.nil).cons.length:Int))∧((0:Int)≤(0:Int)∧(0:Int)≤(↑s.size:Int) - (2:Int)∧(↑s.size:Int) - (2:Int)≤(↑s.size:Int))∧ifB (!((D.getD z4.fst Sh.dat.nil).cons.getD (↑z4.snd:Int).toNat Sh.con.nil).name.toList==(s.extract (Int.toNat (0:Int)) ((↑s.size:Int) - (2:Int)).toNat).toList) (∃ (x5:Nat × Nat),(((SubB (sV ((D.getD z4.fst Sh.dat.nil).name)) (sV ((D.getD x5.fst Sh.dat.nil).name))∧SubB (dP Sh.con (D.getD z4.fst Sh.dat.nil).cons) (dP Sh.con (D.getD x5.fst Sh.dat.nil).cons)∧True)∧True)∧rfB (sV s)∧rfB (iV ((↑s.size:Int) - (2:Int)))∧rfB (dP Sh.dat D)∧rfB (iV (↑D.length:Int))∧SubB (iV (↑z4.fst:Int)) (iV (↑x5.fst:Int))∧rfB (PV.bp 0 0)∧SubB (dP Sh.con (D.getD z4.fst Sh.dat.nil).cons) (dP Sh.con (D.getD x5.fst Sh.dat.nil).cons)∧SubB (iV (↑(D.getD z4.fst Sh.dat.nil).cons.length:Int)) (iV (↑(D.getD x5.fst Sh.dat.nil).cons.length:Int))∧SubB (iV (IntKind.i64.wrap ((↑z4.snd:Int)+(1:Int)))) (iV (↑x5.snd:Int))∧True)∧(x5.fst<D.length∧x5.snd≤(D.getD x5.fst Sh.dat.nil).cons.length∧conD (Dat.mk (D.getD x5.fst Sh.dat.nil).name (List.drop x5.snd (D.getD x5.fst Sh.dat.nil).cons)::List.drop (x5.fst+1) D) (s.extract 0 (s.size - 2))=conD D (s.extract 0 (s.size - 2)))∧x3.fst=x5.fst∧((D.getD x5.fst Sh.dat.nil).cons.length - x5.snd).succ.le ((D.getD z4.fst Sh.dat.nil).cons.length - z4.snd)) (((0:Int)≤IntKind.i64.wrap ((↑s.size:Int) - (2:Int)+(1:Int))∧IntKind.i64.wrap ((↑s.size:Int) - (2:Int)+(1:Int))<(↑s.size:Int))∧ifB (decide (IntKind.i64.wrap (IntKind.u8.wrap ((↑(s.data.toList.getD (IntKind.i64.wrap ((↑s.size:Int) - (2:Int)+(1:Int))).toNat (0:UInt8)).toNat:Int) - (48:Int)))<(↑((D.getD z4.fst Sh.dat.nil).cons.getD (↑z4.snd:Int).toNat Sh.con.nil).fields.length:Int))) (((0:Int)≤IntKind.i64.wrap (IntKind.u8.wrap ((↑(s.data.toList.getD (IntKind.i64.wrap ((↑s.size:Int) - (2:Int)+(1:Int))).toNat (0:UInt8)).toNat:Int) - (48:Int)))∧IntKind.i64.wrap (IntKind.u8.wrap ((↑(s.data.toList.getD (IntKind.i64.wrap ((↑s.size:Int) - (2:Int)+(1:Int))).toNat (0:UInt8)).toNat:Int) - (48:Int)))<(↑((D.getD z4.fst Sh.dat.nil).cons.getD (↑z4.snd:Int).toNat Sh.con.nil).fields.length:Int))∧true=true∧Sub (PV.tup [sV ((D.getD z4.fst Sh.dat.nil).name),sV (((D.getD z4.fst Sh.dat.nil).cons.getD (↑z4.snd:Int).toNat Sh.con.nil).fields.getD (IntKind.i64.wrap (IntKind.u8.wrap ((↑(s.data.toList.getD (IntKind.i64.wrap ((↑s.size:Int) - (2:Int)+(1:Int))).toNat (0:UInt8)).toNat:Int) - (48:Int)))).toNat Sh.str.nil),bV true]) (PV.tup [sV (frR (funD D s)),sV (toR (funD D s)),bV ((funD D s).isSome)])) (true=true∧Sub (PV.tup [sV (ByteArray.mk #[]),sV (ByteArray.mk #[]),bV false]) (PV.tup [sV (frR (funD D s)),sV (toR (funD D s)),bV ((funD D s).isSome)])))) (∃ (x5:Nat),(True∧rfB (sV s)∧rfB (iV ((↑s.size:Int) - (2:Int)))∧rfB (dP Sh.dat D)∧rfB (iV (↑D.length:Int))∧SubB (iV (IntKind.i64.wrap ((↑z4.fst:Int)+(1:Int)))) (iV (↑x5:Int))∧True)∧(x5≤D.length∧conD (List.drop x5 D) (s.extract 0 (s.size - 2))=conD D (s.extract 0 (s.size - 2)))∧True∧(D.length - x5).succ.le (D.length - z2))) (true=true∧Sub (PV.tup [sV (ByteArray.mk #[]),sV (ByteArray.mk #[]),bV false]) (PV.tup [sV (frR (funD D s)),sV (toR (funD D s)),bV ((funD D s).isSome)])))))))) (by kernel_rfl) ?_
   refine Qaa.2 ⟨fun hb0=>⟨rfl,?m0⟩,fun hb0=>Qaa.2 ⟨fun hb1=>⟨rfl,?m1⟩,fun hb1=>⟨?s0,Qaa.2 ⟨fun hb2=>⟨rfl,?m2⟩,fun hb2=>⟨?s1,Qaa.2 ⟨fun hb3=>⟨rfl,?m3⟩,fun hb3=>⟨?s2,Qaa.2 ⟨fun hb4=>⟨rfl,?m4⟩,fun hb4=>⟨?x0,⟨⟨trivial,⟨.refl _,⟨?m5,⟨.refl _,⟨.refl _,⟨?m6,trivial⟩⟩⟩⟩⟩⟩,⟨?s3,⟨trivial,fun z2=>fun hq5=>fun _=>Qaa.2 ⟨fun hb6=>⟨?s4,⟨?x1,⟨⟨⟨⟨?m7,⟨?m8,trivial⟩⟩,trivial⟩,⟨.refl _,⟨.refl _,⟨.refl _,⟨.refl _,⟨?m9,⟨.refl _,⟨?m10,⟨?m11,⟨?m12,trivial⟩⟩⟩⟩⟩⟩⟩⟩⟩⟩,⟨?s5,⟨rfl,fun z4=>fun hq7=>fun hq8=>Qaa.2 ⟨fun hb9=>⟨?s6,⟨?s7,Qaa.2 ⟨fun hb10=>⟨?x2,⟨⟨⟨⟨?m13,⟨?m14,trivial⟩⟩,trivial⟩,⟨.refl _,⟨.refl _,⟨.refl _,⟨.refl _,⟨?m15,⟨.refl _,⟨?m16,⟨?m17,⟨?m18,trivial⟩⟩⟩⟩⟩⟩⟩⟩⟩⟩,⟨?s8,⟨?s9,?m19⟩⟩⟩⟩,fun hb10=>⟨?s10,Qaa.2 ⟨fun hb11=>⟨?s11,⟨rfl,?m20⟩⟩,fun hb11=>⟨rfl,?m21⟩⟩⟩⟩⟩⟩,fun hb9=>⟨?x3,⟨⟨trivial,⟨.refl _,⟨.refl _,⟨.refl _,⟨.refl _,⟨?m22,trivial⟩⟩⟩⟩⟩⟩,⟨?s12,⟨trivial,?m23⟩⟩⟩⟩⟩⟩⟩⟩⟩⟩,fun hb6=>⟨rfl,?m24⟩⟩⟩⟩⟩⟩⟩⟩⟩⟩⟩⟩⟩⟩
   case x0=>exact 0
   case x1=>exact (z2,0)
   case x2=>exact (z4.1,z4.2+1)
   case x3=>exact z2+1
   all_goals try simp only [bs_l,Bool.not_eq_true',Bool.not_eq_false',decide_eq_true_eq,decide_eq_false_iff_not] at *
   all_goals try simp only [e1] at *
   all_goals try simp only [e2] at *
   all_goals try simp only [e3,e4,eb,Int.toNat_natCast,bne_iff_ne,ne_eq,bne_eq_false_iff_eq,Int.toNat_zero] at *
   case m0 =>
    have hf:funD D s=some (⟨#[]⟩,bInt):=by unfold funD; exact if_pos hb0
    show Sub _ (funP (funD D s))
    rw [hf]; exact .refl _
   case m1=>exact fno (by unfold funD; rw [if_neg (show ¬ s=bTag from hb0),if_pos (by omega)]) _ rfl
   case s0=>omega
   case m2=>exact fno (by unfold funD; rw [if_neg (show ¬ s=bTag from hb0),if_neg (by omega),if_pos (by omega)]) _ rfl
   case s1=>omega
   case m3=>exact fno (by unfold funD; rw [if_neg (show ¬ s=bTag from hb0),if_neg (by omega),if_pos (by omega)]) _ rfl
   case s2=>omega
   case m4=>exact fno (by unfold funD; rw [if_neg (show ¬ s=bTag from hb0),if_neg (by omega),if_pos (by omega)]) _ rfl
   case s3=>exact ⟨Nat.zero_le _,rfl⟩
   case s4=>omega
   case s5 =>
    have hz:z2<D.length:=by omega
    refine ⟨hz,Nat.zero_le _,?_⟩
    rw [List.drop_zero,← hq5.2,QhF D Sh.dat.nil hz]
   case s6=>omega
   case s7=>omega
   case m18 =>
    have hc:=Qmw (j:=1) (s':=.con) hsh.1 hq7.1 rfl
    exact Qad (by rw [wJ _ (by omega) (by omega)]; omega)
   case s8 =>
    have hk:z4.2<(Dat.cons (D.getD z4.1 Sh.dat.nil)).length:=by omega
    refine ⟨hq7.1,hk,?_⟩
    rw [← hq7.2.2,QhF (Dat.cons (D.getD z4.1 Sh.dat.nil)) Sh.con.nil hk,QfY,if_neg hb10]
   case s9=>exact hq8
   case m19 =>
    have:(Dat.cons (D.getD z4.1 Sh.dat.nil)).length - (z4.2+1)<(Dat.cons (D.getD z4.1 Sh.dat.nil)).length - z4.2:=by omega
    exact this
   case s10=>omega
   case s11=>exact ⟨by rw [w8 _ (by omega) (by omega),wJ _ (by omega) (by omega)]; omega,hb11⟩
   case m20 =>
    have hk:z4.2<(Dat.cons (D.getD z4.1 Sh.dat.nil)).length:=by omega
    have hc:=hq7.2.2
    rw [QhF _ Sh.con.nil hk,QfY,if_pos hb10] at hc
    have ed:IntKind.i64.wrap (IntKind.u8.wrap ((byN s (s.size - 1):Int) - 48))=((byN s (s.size - 1) - 48:Nat):Int):=by rw [w8 _ (by omega) (by omega),wJ _ (by omega) (by omega)]; omega
    rw [ed] at hb11 ⊢
    have hf:=QfG (D:=D) (show ¬ s=bTag from hb0) (by omega) (by omega)
    rw [← hc] at hf
    dsimp only at hf
    rw [if_pos (by omega)] at hf
    show Sub _ (funP (funD D s))
    rw [hf,Int.toNat_natCast]; exact .refl _
   case m21 =>
    have hk:z4.2<(Dat.cons (D.getD z4.1 Sh.dat.nil)).length:=by omega
    have hc:=hq7.2.2
    rw [QhF _ Sh.con.nil hk,QfY,if_pos hb10] at hc
    have ed:IntKind.i64.wrap (IntKind.u8.wrap ((byN s (s.size - 1):Int) - 48))=((byN s (s.size - 1) - 48:Nat):Int):=by rw [w8 _ (by omega) (by omega),wJ _ (by omega) (by omega)]; omega
    rw [ed] at hb11
    have hf:=QfG (D:=D) (show ¬ s=bTag from hb0) (by omega) (by omega)
    rw [← hc] at hf
    dsimp only at hf
    rw [if_neg (by omega)] at hf
    exact fno hf _ rfl
   case m22=>exact Qad (by rw [wJ _ (by omega) (by omega)]; omega)
   case s12 =>
    have hz:z2<D.length:=by omega
    refine ⟨hz,?_⟩
    have hc:=hq7.2.2
    have he:z4.2=(Dat.cons (D.getD z4.1 Sh.dat.nil)).length:=by omega
    rw [he,List.drop_length,Qpb,← hq8] at hc
    exact hc
   case m23 =>
    have:D.length - (z2+1)<D.length - z2:=by omega
    exact this
   case m24 =>
    have hc:=hq5.2
    rw [List.drop_eq_nil_of_le (by omega),Qq1] at hc
    have hf:=QfG (D:=D) (show ¬ s=bTag from hb0) (by omega) (by omega)
    rw [← hc] at hf
    exact fno hf _ rfl
   all_goals exact .refl _
 · cases hs
theorem Qaq {n0:Nat} {p:Prop} {o:Out} {t:Bool} {x:PV} {ob:List PO} (h:EndU n0 o.fin t x ob):EndU n0 (Out.need p o).fin t x ob:=h
theorem QoU {D:List Dat} {n k:ByteArray} {z:Option (ByteArray × ByteArray)} (hz:z=funD D n) (h0:z.isSome=true) (h1:QfU D k=true) (h2:n=bTag∨frR z=k) (h3:Qd3 D (toR z)=true):funS D n k=.ok (toR z):=by
 unfold funS
 rw [← hz]
 obtain _ | ⟨u,v⟩:=z
 · cases h0
 · have h2':(decide (n=bTag) || decide (u=k))=true:=by
    rcases h2 with h | h
    · simp [h]
    · simp [show u=k from h]
   have h3':Qd3 D v=true:=h3
   dsimp only
   rw [h1,h2',h3']
   rfl
theorem QfF {D:List Dat} {n k:ByteArray} {z:Option (ByteArray × ByteArray)} (hz:z=funD D n) (h:¬ (z.isSome=true∧QfU D k=true∧(n=bTag∨frR z=k)∧Qd3 D (toR z)=true)):funS D n k=.error 23:=by
 unfold funS
 rw [← hz]
 obtain _ | ⟨u,v⟩:=z
 · rfl
 · dsimp only
   rw [if_neg]
   intro hc
   simp only [Bool.and_eq_true,Bool.or_eq_true,decide_eq_true_eq] at hc
   exact h ⟨rfl,hc.1,hc.2.1,hc.2.2⟩
def sApp:Spec2
 | [.bp 0 0,.f (.v (.string n)),.f (.v (.string k))],[.cells [.f (.dt .dat D),.f (.dt .srt S)]]=>some (.need (n.size≤4611686018427387904) (outE ⟨#[]⟩ sV (funS D n k) (soO D S)))
 | _,_=>none
theorem cApp {E:Env} (hU:Up E):Contract2 Tryz.prog E 298 sApp:=by
 refine contract2 [(320,sFun)] [(321,Qp9),(319,Qqa),(175,Qhc)] Tryz.ntmps298 Tryz.func298 (by kernel_rfl) (by kernel_rfl) hU ⟨cFun hU,trivial⟩ ⟨cData hU,cBase hU,Qku hU,trivial⟩ ?_
 intro xs ob o hs hok
 unfold sApp at hs
 split at hs
 · rename_i n k D S
   cases hs
   refine ⟨[.bp 0 0,.f (.v (.string n)),.f (.v (.string k))],[],.cons (.refl _) (.cons (.refl _) (.cons (.refl _) .nil)),rfl,fun _ _=>?_⟩
   have hn:=hok.1
   refine Qab (p:=n.size≤4611686018427387904∧∀ (z1:Option (ByteArray × ByteArray)),z1=funD D n→ifB z1.isSome (ifB (QfU D k) (ifB (n.toList==(ByteArray.mk #[(116:UInt8),(97:UInt8),(103:UInt8)]).toList) (ifB (Qd3 D (toR z1)) (EndU 1 (Out.need (n.size≤4611686018427387904) (outE (ByteArray.mk #[]) sV (funS D n k) (soO D S))).fin true (sV (toR z1)) [PO.cells [dP Sh.dat D,dP Sh.srt S]]) (EndU 1 (Out.need (n.size≤4611686018427387904) (outE (ByteArray.mk #[]) sV (funS D n k) (soO D S))).fin false (PV.ifc 36 (iV 23)) [PO.cells [dP Sh.dat D,dP Sh.srt S]])) (ifB ((frR z1).toList==k.toList) (ifB (Qd3 D (toR z1)) (EndU 1 (Out.need (n.size≤4611686018427387904) (outE (ByteArray.mk #[]) sV (funS D n k) (soO D S))).fin true (sV (toR z1)) [PO.cells [dP Sh.dat D,dP Sh.srt S]]) (EndU 1 (Out.need (n.size≤4611686018427387904) (outE (ByteArray.mk #[]) sV (funS D n k) (soO D S))).fin false (PV.ifc 36 (iV 23)) [PO.cells [dP Sh.dat D,dP Sh.srt S]])) (EndU 1 (Out.need (n.size≤4611686018427387904) (outE (ByteArray.mk #[]) sV (funS D n k) (soO D S))).fin false (PV.ifc 36 (iV 23)) [PO.cells [dP Sh.dat D,dP Sh.srt S]]))) (EndU 1 (Out.need (n.size≤4611686018427387904) (outE (ByteArray.mk #[]) sV (funS D n k) (soO D S))).fin false (PV.ifc 36 (iV 23)) [PO.cells [dP Sh.dat D,dP Sh.srt S]])) (EndU 1 (Out.need (n.size≤4611686018427387904) (outE (ByteArray.mk #[]) sV (funS D n k) (soO D S))).fin false (PV.ifc 36 (iV 23)) [PO.cells [dP Sh.dat D,dP Sh.srt S]])) (by kernel_rfl) ?_
   refine ⟨?s0,fun z1=>fun hz1=>Qaa.2 ⟨fun hb0=>Qaa.2 ⟨fun hb1=>Qaa.2 ⟨fun hb2=>Qaa.2 ⟨fun hb3=>?m0,fun hb3=>?m1⟩,fun hb2=>Qaa.2 ⟨fun hb4=>Qaa.2 ⟨fun hb5=>?m2,fun hb5=>?m3⟩,fun hb4=>?m4⟩⟩,fun hb1=>?m5⟩,fun hb0=>?m6⟩⟩
   case s0=>exact hn
   all_goals try simp only [bs_l,decide_eq_true_eq,decide_eq_false_iff_not] at *
   case m0=>exact Qaq (endU (ob:=soO D S) (Qfs (QoU hz1 hb0 hb1 (.inl hb2) hb3)) (.refl _) rfl rfl (r:=[]) rfl)
   case m2=>exact Qaq (endU (ob:=soO D S) (Qfs (QoU hz1 hb0 hb1 (.inr hb4) hb5)) (.refl _) rfl rfl (r:=[]) rfl)
   case m1=>exact Qaq (endU (ob:=soO D S) (QbF (QfF hz1 (fun h=>by have:=h.2.2.2; rw [hb3] at this; cases this))) (.refl _) rfl rfl (r:=[]) rfl)
   case m3=>exact Qaq (endU (ob:=soO D S) (QbF (QfF hz1 (fun h=>by have:=h.2.2.2; rw [hb5] at this; cases this))) (.refl _) rfl rfl (r:=[]) rfl)
   case m4=>exact Qaq (endU (ob:=soO D S) (QbF (QfF hz1 (fun h=>h.2.2.1.elim hb2 hb4))) (.refl _) rfl rfl (r:=[]) rfl)
   case m5=>exact Qaq (endU (ob:=soO D S) (QbF (QfF hz1 (fun h=>by have:=h.2.1; rw [hb1] at this; cases this))) (.refl _) rfl rfl (r:=[]) rfl)
   case m6=>exact Qaq (endU (ob:=soO D S) (QbF (QfF hz1 (fun h=>by have:=h.1; rw [hb0] at this; cases this))) (.refl _) rfl rfl (r:=[]) rfl)
 · cases hs
end Go.Proofs.YtijfaigpilfpaaaGreatDoor
namespace Go.Proofs.YtijfaigpilfpaaaGreatDoor
open Go.RowKit
set_option linter.unusedVariables false
set_option maxRecDepth 100000
def tmP (t:Tw):PV:=.agg (Qae (tmC t))
def tmOf:PV→Option Tw
 | .agg l=>match leafs l with
  | some m=>toTm m
  | none=>none
 | _=>none
theorem QeN:∀ (l:List Lf) (i:Nat),(Qae l)[i]?=(l[i]?).map PV.f
 | [],i=>by simp [Qae]
 | x::l,0=>by simp [Qae]
 | x::l,i+1=>by simp [Qae,QeN l i]
theorem Qdx:∀ (l:List Lf),(Qae l).length=l.length
 | []=>rfl
 | x::l=>by simp [Qae,Qdx l]
theorem QaG {x:PV} {t:Tw} (h:tmOf x=some t):SubB x (tmP t):=by
 unfold tmOf at h
 split at h
 · rename_i l
   split at h
   · rename_i m hm
     have hs:=QeP h
     obtain ⟨h1,h2⟩:=QbG hm
     refine ⟨fun H B v hv=>?_⟩
     obtain ⟨vs,rfl,h3⟩:=PRs.of_agg hv
     refine PRs.agg ⟨by rw [h3.1,← h1,Qdx,hs.len],fun i u y hu hy=>?_⟩
     rw [QeN] at hy
     cases hc:(tmC t)[i]? with
     | none=>rw [hc] at hy; cases hy
     | some z =>
      rw [hc] at hy
      cases hy
      obtain ⟨x,h4,h5⟩:=hs.at hc
      exact .f (h5 _ _ (h3.2 i u _ hu (h2 i x h4)).rd)
   · cases h
 · cases h
mutual
def Tw.fitT:Tw→Prop
 | .mk _ n _ d l=>n.size≤4611686018427387904∧d.length≤40000000∧l.length≤100000000∧QbW l
def QbW:List Tw→Prop
 | []=>True
 | t::l=>t.fitT∧QbW l
end
theorem QaR:∀ {l:List Tw} {i:Nat} (d:Tw),QbW l→i<l.length→(l.getD i d).fitT
 | t::l,0,d,h,_=>h.1
 | t::l,i+1,d,h,hi=>by simpa using QaR (l:=l) d h.2 (by simpa using hi)
theorem Tw.fitT_eq (t:Tw):t.fitT↔t.name.size≤4611686018427387904∧t.digits.length≤40000000∧t.kids.length≤100000000∧QbW t.kids:=by cases t; rfl
theorem Qec (D:List Dat) (S:List Srt):∀ (l:List Tw) (t:Tw),Qbb D S (l++[t])=match Qbb D S l with
  | .ok m=>(match QaK D S t with | .ok s=>.ok (m++[s]) | .error e=>.error e)
  | .error e=>.error e
 | [],t=>by
  simp only [List.nil_append,Qbb]
  cases QaK D S t <;> rfl
 | x::l,t=>by
  simp only [List.cons_append,Qbb,Qec D S l t]
  cases QaK D S x with
  | error e=>rfl
  | ok s =>
   dsimp only
   cases Qbb D S l with
   | error e=>rfl
   | ok m=>cases QaK D S t <;> rfl
theorem Qgn (D:List Dat) (S:List Srt) {e:Int}:∀ (l m:List Tw),Qbb D S l=.error e→Qbb D S (l++m)=.error e
 | [],m,h=>by cases h
 | x::l,m,h=>by
  simp only [Qbb] at h
  simp only [List.cons_append,Qbb]
  cases hx:QaK D S x with
  | error e'=>rw [hx] at h; exact h
  | ok s =>
   rw [hx] at h
   dsimp only at h ⊢
   cases hl:Qbb D S l with
   | error e' =>
    rw [hl] at h
    rw [Qgn D S l m hl]
    exact h
   | ok y=>rw [hl] at h; cases h
theorem Qfh (D:List Dat) (S:List Srt):∀ {l:List Tw} {m:List ByteArray},Qbb D S l=.ok m→m.length=l.length
 | [],m,h=>by cases h; rfl
 | t::l,m,h=>by
  simp only [Qbb] at h
  cases ht:QaK D S t with
  | error e=>rw [ht] at h; cases h
  | ok s =>
   rw [ht] at h
   dsimp only at h
   cases hl:Qbb D S l with
   | error e=>rw [hl] at h; cases h
   | ok k =>
    rw [hl] at h
    cases h
    simp [Qfh D S hl]
theorem QdB (D:List Dat) (S:List Srt) (t:Tw):QaK D S t=if Qay t.kind=-2 then .error 23
  else if ¬ (Qay t.kind<0∨Qay t.kind=t.kids.length) then .error 24
  else if (t.kind=2∨t.kind=6)∧Qbv t.neg t.digits=false then .error 23
  else if t.kind=1 then varS D S t.name
  else match Qbb D S t.kids with
   | .ok l=>Qco D t.kind t.name l
   | .error e=>.error e:=by
 cases t; rw [QaK]; rfl
theorem QeS {D:List Dat} {S:List Srt} {t:Tw} (h:Qay t.kind≠-2∧(Qay t.kind<0∨Qay t.kind=t.kids.length)∧¬ ((t.kind=2∨t.kind=6)∧Qbv t.neg t.digits=false)):QaK D S t=if t.kind=1 then varS D S t.name
  else match Qbb D S t.kids with
   | .ok l=>Qco D t.kind t.name l
   | .error e=>.error e:=by
 rw [QdB,if_neg h.1,if_neg (fun hc=>hc h.2.1),if_neg h.2.2]
theorem QnH {D:List Dat} {S:List Srt} {t:Tw} (h:Qay t.kind≠-2∧(Qay t.kind<0∨Qay t.kind=t.kids.length)∧¬ ((t.kind=2∨t.kind=6)∧Qbv t.neg t.digits=false)) (h1:t.kind≠1) {i:Nat} {l:List ByteArray} (hl:i≤t.kids.length∧Qbb D S (t.kids.take i)=.ok l) (hi:¬ (i:Int)<t.kids.length):QaK D S t=Qco D t.kind t.name l:=by
 have hx:=hl.2
 rw [List.take_of_length_le (by omega)] at hx
 rw [QeS h,if_neg h1,hx]
theorem QnG {D:List Dat} {S:List Srt} {t:Tw} (h:Qay t.kind≠-2∧(Qay t.kind<0∨Qay t.kind=t.kids.length)∧¬ ((t.kind=2∨t.kind=6)∧Qbv t.neg t.digits=false)) (h1:t.kind≠1) {i:Nat} (hi:i<t.kids.length) {d:Tw} {l:List ByteArray} (hl:Qbb D S (t.kids.take i)=.ok l) {e:Int} (he:QaK D S (t.kids.getD i d)=.error e):QaK D S t=.error e:=by
 have hx:Qbb D S (t.kids.take (i+1))=.error e:=by
  rw [List.take_add_one,List.getElem?_eq_getElem hi,Option.toList_some,Qec,hl]
  rw [List.getD_eq_getElem?_getD,List.getElem?_eq_getElem hi,Option.getD_some] at he
  rw [he]
 have hy:=Qgn D S _ (t.kids.drop (i+1)) hx
 rw [List.take_append_drop] at hy
 rw [QeS h,if_neg h1,hy]
theorem QcI {p:Prop} {D:List Dat} {S:List Srt} {t:Tw} {s:ByteArray} {y:PV} {ob r:List PO} (h:QaK D S t=.ok s) (hy:y=sV s) (hob:ob=soO D S++r):EndU 1 (Out.need p (outE ⟨#[]⟩ sV (QaK D S t) (soO D S))).fin true y ob:=by
 subst hy hob
 exact Qaq (endU (ob:=soO D S) (Qfs h) (.refl _) rfl rfl (r:=r) rfl)
theorem QaT {p:Prop} {D:List Dat} {S:List Srt} {t:Tw} {e:Int} {y:PV} {ob r:List PO} (h:QaK D S t=.error e) (hy:y=eP e) (hob:ob=soO D S++r):EndU 1 (Out.need p (outE ⟨#[]⟩ sV (QaK D S t) (soO D S))).fin false y ob:=by
 subst hy hob
 exact Qaq (endU (ob:=soO D S) (QbF h) (.refl _) rfl rfl (r:=r) rfl)
theorem Qck {α:Type} {d:α} {e:Except Int α} (h:okE e=true):e=.ok (valE d e):=by cases e <;> first | rfl | cases h
theorem Qen {α:Type} {e:Except Int α} (h:okE e=false):e=.error (errE e):=by cases e <;> first | rfl | cases h
theorem QdM {α:Type} {l:List α} {i:Nat} (h:i<l.length) (a b:α):l.getD i a=l.getD i b:=by
 rw [List.getD_eq_getElem?_getD,List.getD_eq_getElem?_getD,List.getElem?_eq_getElem h]; rfl
def Qiq (n:Nat):Spec2
 | [.bp 0 0,x],[.cells [.f (.dt .dat D),.f (.dt .srt S)]]=>match tmOf x with
  | some t=>some (.need (t.size<n∧t.fitT) (outE ⟨#[]⟩ sV (QaK D S t) (soO D S)))
  | none=>none
 | _,_=>none
theorem QrX {E:Env} (hU:Up E):∀ n,Contract2 Tryz.prog E 254 (Qiq n)
 | 0=>by
  intro xs ob o hs hok
  unfold Qiq at hs
  split at hs
  · split at hs
    · cases hs
      exact absurd hok.1.1 (Nat.not_lt_zero _)
    · cases hs
  · cases hs
 | n+1=>by
  refine contract2 [(83,Qk4)] [(295,QsJ),(175,Qhc),(296,sVar),(254,Qiq n),(297,sAll),(298,sApp)] Tryz.ntmps254 Tryz.func254 (by kernel_rfl) (by kernel_rfl) hU ⟨cRight hU,trivial⟩ ⟨cKids hU,Qku hU,cVar hU,QrX hU n,cAll hU,cApp hU,trivial⟩ ?_
  intro xs ob o hs hok
  unfold Qiq at hs
  split at hs
  · rename_i x D S
    split at hs
    · rename_i t ht
      cases hs
      obtain ⟨⟨hn,hfit⟩,-⟩:=hok
      refine ⟨[.bp 0 0,tmP t],[(1000003,.s ⟨Unit,fun _=>⟨[(0,.bp 0 0),(3,.bp 1 0)],[.cells [.f (.dt .dat D),.f (.dt .srt S)],.cells (Qae (tmC t))]⟩,fun _=>Qay t.kind≠-2∧(Qay t.kind<0∨Qay t.kind=t.kids.length),fun _=>0⟩),
       (1000004,.s ⟨Unit,fun _=>⟨[(0,.bp 0 0),(3,.bp 1 0)],[.cells [.f (.dt .dat D),.f (.dt .srt S)],.cells (Qae (tmC t))]⟩,fun _=>Qay t.kind≠-2∧(Qay t.kind<0∨Qay t.kind=t.kids.length)∧¬ ((t.kind=2∨t.kind=6)∧Qbv t.neg t.digits=false),fun _=>0⟩),
       (8,.s ⟨Nat × List ByteArray,fun x=>⟨[(0,.bp 0 0),(3,.bp 1 0),(6,.tl 2 (.dt .str x.2)),(44,.f (.dt .tm t.kids)),(45,iV t.kids.length),(46,iV x.1)],[.cells [.f (.dt .dat D),.f (.dt .srt S)],.cells (Qae (tmC t)),.tail 9 1]⟩,
       fun x=>x.1≤t.kids.length∧Qbb D S (t.kids.take x.1)=.ok x.2,fun x=>t.kids.length - x.1⟩)],.cons (.refl _) (.cons (QaG ht) .nil),rfl,fun _ hsh=>?_⟩
      have hlen:=Qap (hsh.2.1.2.2.2.2.1)
      refine Qab (p:=let A0:=Out.need (t.size<n+1∧t.fitT) (outE (ByteArray.mk #[]) sV (QaK D S t) (soO D S)); let A1:=(rfB (dP Sh.dat D)∧rfB (dP Sh.srt S)∧True)∧(rfB (uV t.kind)∧rfB (sV t.name)∧rfB (bV t.neg)∧rfB (PV.f (Lf.lr t.digits t.digits.length))∧rfB (dP Sh.tm t.kids)∧True)∧True; let A8:=ByteArray.mk #[(105:UInt8),(110:UInt8),(116:UInt8)]; let A9:=ByteArray.mk #[(98:UInt8),(111:UInt8),(111:UInt8),(108:UInt8)]; let A11:=Qae (tmC t); let A12:=(↑t.kids.length:Int); let A13:=fun (z5:Nat × List ByteArray)=>(t.kids.getD (↑z5.fst:Int).toNat Sh.tm.nil); let A2:=EndU 1 A0.fin false (PV.ifc 36 (iV 23)) [PO.cells [dP Sh.dat D,dP Sh.srt S],PO.cells A11,PO.tail 9 1]; let A4:=EndU 1 A0.fin true (sV A9) [PO.cells [dP Sh.dat D,dP Sh.srt S],PO.cells A11,PO.tail 9 1]; let A5:=EndU 1 A0.fin true (sV A8) [PO.cells [dP Sh.dat D,dP Sh.srt S],PO.cells A11,PO.tail 9 1]; let A6:=Qay t.kind<(0:Int)∨Qay t.kind=A12; let A7:=EndU 1 A0.fin false (PV.ifc 36 (iV 23)) [PO.cells [dP Sh.dat D,dP Sh.srt S],PO.cells A11]; let A10:=∃ (x2:Unit),(A1∧rfB (PV.bp 0 0)∧rfB (PV.bp 1 0)∧True)∧Qay t.kind≠(-2:Int)∧A6; let A3:=∃ (x3:Unit),(A1∧rfB (PV.bp 0 0)∧rfB (PV.bp 1 0)∧True)∧Qay t.kind≠(-2:Int)∧A6∧((t.kind=(2:Int)∨t.kind=(6:Int))∧Qbv t.neg t.digits=false→False); ∀ (z1:Int),z1=Qay t.kind→ifB (decide (z1≠(-2:Int))) (ifB (decide (z1<(0:Int))) A10 (ifB (z1==A12) A10 (EndU 1 A0.fin false (PV.ifc 36 (iV 24)) [PO.cells [dP Sh.dat D,dP Sh.srt S],PO.cells A11]))∧∀ (z2:Unit),Qay t.kind≠(-2:Int)∧A6→ifB (t.kind != (2:Int)) (ifB (t.kind != (6:Int)) A3 (t.digits.length≤100000000∧ifB (Qbv t.neg t.digits) A3 A7)) (t.digits.length≤100000000∧ifB (Qbv t.neg t.digits) A3 A7)∧∀ (z3:Unit),Qay t.kind≠(-2:Int)∧A6∧¬((t.kind=(2:Int)∨t.kind=(6:Int))∧Qbv t.neg t.digits=false)→ifB (t.kind==(1:Int)) (∀ (z4:Except Int ByteArray),z4=varS D S t.name→ifB (okE z4) (EndU 1 A0.fin true (sV (valE (ByteArray.mk #[]) z4)) [PO.cells [dP Sh.dat D,dP Sh.srt S],PO.cells A11]) (EndU 1 A0.fin false (PV.ifc 36 (iV (errE z4))) [PO.cells [dP Sh.dat D,dP Sh.srt S],PO.cells A11])) (∃ (x4:Nat × List ByteArray),(A1∧rfB (PV.bp 0 0)∧rfB (PV.bp 1 0)∧Qbg (PV.tl 2 (Lf.dt Sh.str x4.snd))∧rfB (dP Sh.tm t.kids)∧rfB (iV A12)∧SubB (iV 0) (iV (↑x4.fst:Int))∧True)∧(x4.fst≤t.kids.length∧Qbb D S (List.take x4.fst t.kids)=Except.ok x4.snd)∧True∧∀ (z5:Nat × List ByteArray),z5.fst≤t.kids.length∧Qbb D S (List.take z5.fst t.kids)=Except.ok z5.snd→True→ifB (decide ((↑z5.fst:Int)<A12)) (((0:Int)≤(↑z5.fst:Int)∧(↑z5.fst:Int)<A12)∧((etaT (A13 z5)).size<n∧(etaT (A13 z5)).fitT)∧∀ (z6:Except Int ByteArray),z6=QaK D S (etaT (A13 z5))→ifB (okE z6) ((z5.snd.length+1≤9223372036854775807∧(z5.snd.length+1) * 16≤140737488355328)∧∃ (x7:Nat × List ByteArray),(A1∧rfB (PV.bp 0 0)∧rfB (PV.bp 1 0)∧SubB (PV.tl 2 (Lf.dt Sh.str (z5.snd++[valE (ByteArray.mk #[]) z6]))) (PV.tl 2 (Lf.dt Sh.str x7.snd))∧rfB (dP Sh.tm t.kids)∧rfB (iV A12)∧SubB (iV (IntKind.i64.wrap ((↑z5.fst:Int)+(1:Int)))) (iV (↑x7.fst:Int))∧True)∧(x7.fst≤t.kids.length∧Qbb D S (List.take x7.fst t.kids)=Except.ok x7.snd)∧True∧(t.kids.length - x7.fst).succ.le (t.kids.length - z5.fst)) (EndU 1 A0.fin false (PV.ifc 36 (iV (errE z6))) [PO.cells [dP Sh.dat D,dP Sh.srt S],PO.cells A11,PO.tail 9 1,PO.cells (Qae (tmC (A13 z5)))])) (ifB (t.kind==(2:Int)) A5 (ifB (t.kind==(5:Int)) (ifB (Qcz z5.snd A8) A5 A2) (ifB (t.kind==(6:Int)) (ifB (Qcz z5.snd A8) A5 A2) (ifB (t.kind==(7:Int)) (((0:Int)≤(0:Int)∧(0:Int)<(↑z5.snd.length:Int))∧t.name.size≤4611686018427387904∧∀ (z6:Except Int ByteArray),z6=funS D t.name (z5.snd.getD (Int.toNat (0:Int)) Sh.str.nil)→ifB (okE z6) (EndU 1 A0.fin true (sV (valE (ByteArray.mk #[]) z6)) [PO.cells [dP Sh.dat D,dP Sh.srt S],PO.cells A11,PO.tail 9 1]) (EndU 1 A0.fin false (PV.ifc 36 (iV (errE z6))) [PO.cells [dP Sh.dat D,dP Sh.srt S],PO.cells A11,PO.tail 9 1])) (ifB (t.kind==(8:Int)) (((0:Int)≤(0:Int)∧(0:Int)<(↑z5.snd.length:Int))∧((0:Int)≤(1:Int)∧(1:Int)<(↑z5.snd.length:Int))∧ifB (ByteArray.toList (z5.snd.getD (Int.toNat (0:Int)) Sh.str.nil)==ByteArray.toList (z5.snd.getD (Int.toNat (1:Int)) Sh.str.nil)) (((0:Int)≤(0:Int)∧(0:Int)<(↑z5.snd.length:Int))∧ifB (!ByteArray.toList (z5.snd.getD (Int.toNat (0:Int)) Sh.str.nil)==A9.toList) A4 A2) A2) (ifB (t.kind==(9:Int)) (ifB (Qcz z5.snd A8) A4 A2) (ifB (Qcz z5.snd A9) A4 A2))))))))) A7) ?kr ?_
      case kr=>kernel_rfl
      conv=>zeta
      refine fun z1=>fun hz1=>Qaa.2 ⟨fun hb0=>⟨Qaa.2 ⟨fun hb1=>⟨?x0,⟨⟨⟨⟨.refl _,⟨.refl _,trivial⟩⟩,⟨⟨.refl _,⟨.refl _,⟨.refl _,⟨.refl _,⟨.refl _,trivial⟩⟩⟩⟩⟩,trivial⟩⟩,⟨.refl _,⟨.refl _,trivial⟩⟩⟩,⟨?s0,?m0⟩⟩⟩,fun hb1=>Qaa.2 ⟨fun hb2=>⟨?x1,⟨⟨⟨⟨.refl _,⟨.refl _,trivial⟩⟩,⟨⟨.refl _,⟨.refl _,⟨.refl _,⟨.refl _,⟨.refl _,trivial⟩⟩⟩⟩⟩,trivial⟩⟩,⟨.refl _,⟨.refl _,trivial⟩⟩⟩,⟨?s1,?m1⟩⟩⟩,fun hb2=>?m2⟩⟩,fun z2=>fun hq3=>⟨Qaa.2 ⟨fun hb4=>Qaa.2 ⟨fun hb5=>⟨?x2,⟨⟨⟨⟨.refl _,⟨.refl _,trivial⟩⟩,⟨⟨.refl _,⟨.refl _,⟨.refl _,⟨.refl _,⟨.refl _,trivial⟩⟩⟩⟩⟩,trivial⟩⟩,⟨.refl _,⟨.refl _,trivial⟩⟩⟩,⟨?s2,⟨?s3,fun hq6=>?m3⟩⟩⟩⟩,fun hb5=>⟨?s4,Qaa.2 ⟨fun hb7=>⟨?x3,⟨⟨⟨⟨.refl _,⟨.refl _,trivial⟩⟩,⟨⟨.refl _,⟨.refl _,⟨.refl _,⟨.refl _,⟨.refl _,trivial⟩⟩⟩⟩⟩,trivial⟩⟩,⟨.refl _,⟨.refl _,trivial⟩⟩⟩,⟨?s5,⟨?s6,fun hq8=>?m4⟩⟩⟩⟩,fun hb7=>?m5⟩⟩⟩,fun hb4=>⟨?s7,Qaa.2 ⟨fun hb9=>⟨?x4,⟨⟨⟨⟨.refl _,⟨.refl _,trivial⟩⟩,⟨⟨.refl _,⟨.refl _,⟨.refl _,⟨.refl _,⟨.refl _,trivial⟩⟩⟩⟩⟩,trivial⟩⟩,⟨.refl _,⟨.refl _,trivial⟩⟩⟩,⟨?s8,⟨?s9,fun hq10=>?m6⟩⟩⟩⟩,fun hb9=>?m7⟩⟩⟩,fun z3=>fun hq11=>Qaa.2 ⟨fun hb12=>fun z4=>fun hz4=>Qaa.2 ⟨fun hb13=>?m8,fun hb13=>?m9⟩,fun hb12=>⟨?x5,⟨?s10,⟨?s11,⟨trivial,fun z5=>fun hq14=>fun _=>Qaa.2 ⟨fun hb15=>⟨?s12,⟨?s13,fun z6=>fun hz6=>Qaa.2 ⟨fun hb16=>⟨?s14,⟨?x6,⟨⟨⟨⟨.refl _,⟨.refl _,trivial⟩⟩,⟨⟨.refl _,⟨.refl _,⟨.refl _,⟨.refl _,⟨.refl _,trivial⟩⟩⟩⟩⟩,trivial⟩⟩,⟨.refl _,⟨.refl _,⟨?m10,⟨.refl _,⟨.refl _,⟨?m11,trivial⟩⟩⟩⟩⟩⟩⟩,⟨?s15,⟨trivial,?m12⟩⟩⟩⟩⟩,fun hb16=>?m13⟩⟩⟩,fun hb15=>Qaa.2 ⟨fun hb17=>?m14,fun hb17=>Qaa.2 ⟨fun hb18=>Qaa.2 ⟨fun hb19=>?m15,fun hb19=>?m16⟩,fun hb18=>Qaa.2 ⟨fun hb20=>Qaa.2 ⟨fun hb21=>?m17,fun hb21=>?m18⟩,fun hb20=>Qaa.2 ⟨fun hb22=>⟨?s16,⟨?s17,fun z6=>fun hz6=>Qaa.2 ⟨fun hb23=>?m19,fun hb23=>?m20⟩⟩⟩,fun hb22=>Qaa.2 ⟨fun hb24=>⟨?s18,⟨?s19,Qaa.2 ⟨fun hb25=>⟨?s20,Qaa.2 ⟨fun hb26=>?m21,fun hb26=>?m22⟩⟩,fun hb25=>?m23⟩⟩⟩,fun hb24=>Qaa.2 ⟨fun hb27=>Qaa.2 ⟨fun hb28=>?m24,fun hb28=>?m25⟩,fun hb27=>Qaa.2 ⟨fun hb29=>?m26,fun hb29=>?m27⟩⟩⟩⟩⟩⟩⟩⟩⟩⟩⟩⟩⟩⟩⟩,fun hb0=>?m28⟩
      all_goals try simp only [etaT] at *
      case x0=>exact ()
      case x1=>exact ()
      case x2=>exact ()
      case x3=>exact ()
      case x4=>exact ()
      case x5=>exact (0,[])
      case x6=>exact (z5.1+1,z5.2++[valE ⟨#[]⟩ z6])
      all_goals try simp only [bs_l,Bool.not_eq_true',Bool.not_eq_false',decide_eq_true_eq,decide_eq_false_iff_not,beq_iff_eq,beq_eq_false_iff_ne,bne_iff_ne,ne_eq,bne_eq_false_iff_eq,Int.toNat_natCast,Int.toNat_zero] at *
      all_goals try subst hz1
      case s0=>exact hb0
      case m0=>exact .inl hb1
      case s1=>exact hb0
      case m1=>exact .inr hb2
      case m2=>exact QaT (by rw [QdB,if_neg hb0,if_pos (fun h=>h.elim hb1 hb2)]) rfl rfl
      case s2=>exact hb0
      case s3=>exact hq3.2
      case m3=>exact hq6.1.elim hb4 hb5
      case s4=>have:=((Tw.fitT_eq t).1 hfit).2.1; omega
      case s5=>exact hb0
      case s6=>exact hq3.2
      case m4=>rw [hb7] at hq8; exact absurd hq8.2 (by decide)
      case m5=>exact QaT (by rw [QdB,if_neg hb0,if_neg (fun h=>h hq3.2),if_pos ⟨.inr hb5,hb7⟩]) rfl rfl
      case s7=>have:=((Tw.fitT_eq t).1 hfit).2.1; omega
      case s8=>exact hb0
      case s9=>exact hq3.2
      case m6=>rw [hb9] at hq10; exact absurd hq10.2 (by decide)
      case m7=>exact QaT (by rw [QdB,if_neg hb0,if_neg (fun h=>h hq3.2),if_pos ⟨.inl hb4,hb9⟩]) rfl rfl
      case m8=>exact QcI (by rw [QeS hq11,if_pos hb12,← hz4]; exact Qck hb13) rfl rfl
      case m9=>exact QaT (by rw [QeS hq11,if_pos hb12,← hz4]; exact Qen hb13) rfl rfl
      case s10=>exact ⟨⟨⟨.refl _,.refl _,trivial⟩,⟨.refl _,.refl _,.refl _,.refl _,.refl _,trivial⟩,trivial⟩,.refl _,.refl _,rfl,.refl _,.refl _,.refl _,trivial⟩
      case s11=>exact ⟨Nat.zero_le _,rfl⟩
      case s12=>omega
      case s13 =>
       have hi:z5.1<t.kids.length:=by omega
       rw [Tw.eta]
       refine ⟨?_,QaR _ ((Tw.fitT_eq t).1 hfit).2.2.2 hi⟩
       rw [QdM hi _ default]
       have:=QqA hi
       omega
      case s14 =>
       have h1:=Qfh D S hq14.2
       have h2:=((Tw.fitT_eq t).1 hfit).2.2.1
       rw [List.length_take] at h1
       omega
      case m10=>exact .refl _
      case m11=>exact Qad (by rw [wJ _ (by omega) (by omega)]; rfl)
      case s15 =>
       have hi:z5.1<t.kids.length:=by omega
       refine ⟨hi,?_⟩
       rw [Tw.eta] at hz6
       have hk:=hz6.symm
       rw [List.getD_eq_getElem?_getD,List.getElem?_eq_getElem hi,Option.getD_some] at hk
       show Qbb D S (t.kids.take (z5.1+1))=.ok (z5.2++[valE ⟨#[]⟩ z6])
       rw [List.take_add_one,List.getElem?_eq_getElem hi,Option.toList_some,Qec,hq14.2,hk]
       obtain _ | s:=z6
       · cases hb16
       · rfl
      case m12 =>
       have:t.kids.length - (z5.1+1)<t.kids.length - z5.1:=by omega
       exact this
      case m13 =>
       rw [Tw.eta] at hz6
       exact QaT (QnG hq11 hb12 (by omega) hq14.2 (hz6.symm.trans (Qen hb16))) rfl rfl
      case m28=>exact QaT (by rw [QdB,if_pos (Decidable.not_not.1 hb0)]) rfl rfl
      all_goals have hp:=QnH hq11 hb12 hq14 hb15
      case m14=>exact QcI (hp.trans (by unfold Qco; exact if_pos hb17)) rfl rfl
      case m15=>exact QcI (hp.trans (by unfold Qco; rw [if_neg hb17,if_pos (.inl hb18)]; exact if_pos hb19)) rfl rfl
      case m16=>exact QaT (hp.trans (by unfold Qco; rw [if_neg hb17,if_pos (.inl hb18)]; exact if_neg (fun h=>Bool.noConfusion (h.symm.trans hb19)))) rfl rfl
      case m17=>exact QcI (hp.trans (by unfold Qco; rw [if_neg hb17,if_pos (.inr hb20)]; exact if_pos hb21)) rfl rfl
      case m18=>exact QaT (hp.trans (by unfold Qco; rw [if_neg hb17,if_pos (.inr hb20)]; exact if_neg (fun h=>Bool.noConfusion (h.symm.trans hb21)))) rfl rfl
      all_goals have hl2:=Qfh D S hq14.2
      all_goals rw [List.length_take] at hl2
      all_goals have hk2:=hq3.2
      case s16=>rw [hb22] at hk2; have:Qay 7=1:=rfl; omega
      case s17=>exact ((Tw.fitT_eq t).1 hfit).1
      case m19=>exact QcI (hp.trans (by unfold Qco; rw [if_neg hb17,if_neg (fun h=>h.elim hb18 hb20),if_pos hb22]; exact hz6.symm.trans (Qck hb23))) rfl rfl
      case m20=>exact QaT (hp.trans (by unfold Qco; rw [if_neg hb17,if_neg (fun h=>h.elim hb18 hb20),if_pos hb22]; exact hz6.symm.trans (Qen hb23))) rfl rfl
      case s18=>rw [hb24] at hk2; have:Qay 8=2:=rfl; omega
      case s19=>rw [hb24] at hk2; have:Qay 8=2:=rfl; omega
      case s20=>rw [hb24] at hk2; have:Qay 8=2:=rfl; omega
      case m21=>exact QcI (hp.trans (by unfold Qco; rw [if_neg hb17,if_neg (fun h=>h.elim hb18 hb20),if_neg hb22,if_pos hb24]; exact if_pos (by rw [Bool.and_eq_true,Bool.not_eq_true']; exact ⟨decide_eq_true hb25,decide_eq_false hb26⟩))) rfl rfl
      case m22=>exact QaT (hp.trans (by unfold Qco; rw [if_neg hb17,if_neg (fun h=>h.elim hb18 hb20),if_neg hb22,if_pos hb24]; exact if_neg (by rw [Bool.and_eq_true,Bool.not_eq_true']; exact fun h=>of_decide_eq_false h.2 hb26))) rfl rfl
      case m23=>exact QaT (hp.trans (by unfold Qco; rw [if_neg hb17,if_neg (fun h=>h.elim hb18 hb20),if_neg hb22,if_pos hb24]; exact if_neg (by rw [Bool.and_eq_true]; exact fun h=>hb25 (of_decide_eq_true h.1)))) rfl rfl
      case m24=>exact QcI (hp.trans (by unfold Qco; rw [if_neg hb17,if_neg (fun h=>h.elim hb18 hb20),if_neg hb22,if_neg hb24,if_pos hb27]; exact if_pos hb28)) rfl rfl
      case m25=>exact QaT (hp.trans (by unfold Qco; rw [if_neg hb17,if_neg (fun h=>h.elim hb18 hb20),if_neg hb22,if_neg hb24,if_pos hb27]; exact if_neg (fun h=>Bool.noConfusion (h.symm.trans hb28)))) rfl rfl
      case m26=>exact QcI (hp.trans (by unfold Qco; rw [if_neg hb17,if_neg (fun h=>h.elim hb18 hb20),if_neg hb22,if_neg hb24,if_neg hb27]; exact if_pos hb29)) rfl rfl
      case m27=>exact QaT (hp.trans (by unfold Qco; rw [if_neg hb17,if_neg (fun h=>h.elim hb18 hb20),if_neg hb22,if_neg hb24,if_neg hb27]; exact if_neg (fun h=>Bool.noConfusion (h.symm.trans hb29)))) rfl rfl
    · cases hs
  · cases hs
end Go.Proofs.YtijfaigpilfpaaaGreatDoor
namespace Go.Proofs.YtijfaigpilfpaaaGreatDoor
open Go.RowKit
set_option linter.unusedVariables false
set_option maxRecDepth 100000
theorem SubB.sub {x y:PV} (h:SubB x y):Sub x y:=⟨fun H v hv=>h.out H _ v hv⟩
theorem QfO {n0:Nat} {p:Prop} {α:Type} {d:α} {pv:α→PV} {e:Except Int α} {y:PV} {ob ob' r:List PO} (h:okE e=true) (hy:y=pv (valE d e)) (hn:newT ob'.length y (pv (valE d e))=false) (hb:(Qba ob.length (pv (valE d e)) && (Qbz ob.length ob && Nat.ble n0 ob.length))=true) (hob:ob'=ob++r):EndU n0 (Out.need p (outE d pv e ob)).fin true y ob' :=
 Qaq (endU (ob:=ob) (r:=r) (Qfs (Qck h)) (hy ▸ .refl _) hn hb hob)
theorem Qcu {n0:Nat} {p:Prop} {α:Type} {d:α} {pv:α→PV} {e:Except Int α} {y:PV} {ob ob' r:List PO} (h:okE e=false) (hy:y=eP (errE e)) (hb:(Qbz ob.length ob && Nat.ble n0 ob.length)=true) (hob:ob'=ob++r):EndU n0 (Out.need p (outE d pv e ob)).fin false y ob' :=
 Qaq (endU (ob:=ob) (r:=r) (QbF (Qen h)) (hy ▸ .refl _) (by subst hy; rfl) hb hob)
theorem endR {n0:Nat} {p:Prop} {α:Type} {e z:Except Int α} {pv:Except Int α→PV} {y:PV} {ob ob' r:List PO} (hz:z=e) (hy:SubB y (pv z)) (hn:newT ob'.length y (pv z)=false) (hb:(Qba ob.length (pv z) && (Qbz ob.length ob && Nat.ble n0 ob.length))=true) (hob:ob'=ob++r):EndU n0 (Out.need p (.nm (Except Int α) e fun z=>.ret (pv z) ob)).fin true y ob':=by
 subst hz
 exact Qaq (endU (ob:=ob) (r:=r) rfl hy hn hb hob)
def QjE:Spec2
 | [.bp 0 0,x],[.cells [.f (.dt .dat D),.f (.dt .srt S)]]=>match tmOf x with
  | some t=>some (.need t.fitT (outE ⟨#[]⟩ sV (QaK D S t) (soO D S)))
  | none=>none
 | _,_=>none
theorem QtK {E:Env} (hU:Up E):Contract2 Tryz.prog E 254 QjE:=by
 intro xs ob o hs hok
 unfold QjE at hs
 split at hs
 · rename_i x D S
   split at hs
   · rename_i t ht
     cases hs
     refine QrX hU (t.size+1) [.bp 0 0,x] [.cells [.f (.dt .dat D),.f (.dt .srt S)]] (.need (t.size<t.size+1∧t.fitT) (outE ⟨#[]⟩ sV (QaK D S t) (soO D S))) ?_ ⟨⟨Nat.lt_succ_self _,hok.1⟩,hok.2⟩
     simp only [Qiq,ht]
   · cases hs
 · cases hs
def QnU:Spec2
 | [.bp 0 0,.bp 1 0],[.cells [.bp 2 0],.cells [.f (.v (.int .u8 k)),.f (.v (.string n)),.f (.v (.bool b)),.f (.lr d m),.f (.dt .tm l)],.cells [.f (.dt .dat D),.f (.dt .srt S)]] =>
  some (.need (Tw.mk k n b d l).fitT (outE ⟨#[]⟩ sV (QaK D S (.mk k n b d l)) [.cells [.bp 2 0],.cells [.f (.v (.int .u8 k)),.f (.v (.string n)),.f (.v (.bool b)),.f (.lr d m),.f (.dt .tm l)],.cells [.f (.dt .dat D),.f (.dt .srt S)]]))
 | _,_=>none
theorem cSort1 {E:Env} (hU:Up E):Contract2 Tryz.prog E 253 QnU:=by
 refine contract2 [] [(254,QjE)] Tryz.ntmps253 Tryz.func253 (by kernel_rfl) (by kernel_rfl) hU trivial ⟨QtK hU,trivial⟩ ?_
 intro xs ob o hs hok
 unfold QnU at hs
 split at hs
 · rename_i k n b d m l D S
   cases hs
   refine ⟨[.bp 0 0,.bp 1 0],[],.cons (.refl _) (.cons (.refl _) .nil),rfl,fun _ hsh=>?_⟩
   have hfit:=hok.1
   refine Qab (p:=(Tw.mk k n b d l).fitT∧∀ (z1:Except Int ByteArray),z1=QaK D S (Tw.mk k n b d l)→ifB (okE z1) (EndU 3 (Out.need (Tw.mk k n b d l).fitT (outE (ByteArray.mk #[]) sV (QaK D S (Tw.mk k n b d l)) [PO.cells [PV.bp 2 0],PO.cells [uV k,sV n,bV b,PV.f (Lf.lr d m),dP Sh.tm l],PO.cells [dP Sh.dat D,dP Sh.srt S]])).fin true (sV (valE (ByteArray.mk #[]) z1)) [PO.cells [PV.bp 2 0],PO.cells [uV k,sV n,bV b,PV.f (Lf.lr d m),dP Sh.tm l],PO.cells [dP Sh.dat D,dP Sh.srt S]]) (EndU 3 (Out.need (Tw.mk k n b d l).fitT (outE (ByteArray.mk #[]) sV (QaK D S (Tw.mk k n b d l)) [PO.cells [PV.bp 2 0],PO.cells [uV k,sV n,bV b,PV.f (Lf.lr d m),dP Sh.tm l],PO.cells [dP Sh.dat D,dP Sh.srt S]])).fin false (PV.ifc 36 (iV (errE z1))) [PO.cells [PV.bp 2 0],PO.cells [uV k,sV n,bV b,PV.f (Lf.lr d m),dP Sh.tm l],PO.cells [dP Sh.dat D,dP Sh.srt S]])) ?kr ?_
   case kr=>kernel_rfl
   refine ⟨?s0,fun z1=>fun hz1=>Qaa.2 ⟨fun hb0=>?m0,fun hb0=>?m1⟩⟩
   case s0=>exact hfit
   all_goals subst hz1
   case m0=>exact QfO hb0 rfl rfl rfl rfl
   case m1=>exact Qcu hb0 rfl rfl rfl
 · cases hs
def QjC:Spec2
 | [.fn 253 [] [.bp 0 0,.bp 1 0]],[.cells [.bp 2 0],.cells [.f (.v (.int .u8 k)),.f (.v (.string n)),.f (.v (.bool b)),.f (.lr d m),.f (.dt .tm l)],.cells [.f (.dt .dat D),.f (.dt .srt S)]] =>
  some (.need (Tw.mk k n b d l).fitT (.nm (Except Int ByteArray) (QaK D S (.mk k n b d l)) fun z=>.ret (.tup [sV (valE ⟨#[]⟩ z),iV (errE z)]) [.cells [.bp 2 0],.cells [.f (.v (.int .u8 k)),.f (.v (.string n)),.f (.v (.bool b)),.f (.lr d m),.f (.dt .tm l)],.cells [.f (.dt .dat D),.f (.dt .srt S)]]))
 | _,_=>none
theorem QtH {E:Env} (hU:Up E):Contract2 Tryz.prog E 252 QjC:=by
 refine QbY (cf:=294) [] [(253,QnU)] Tryz.ntmps252 Tryz.func252 rfl (by kernel_rfl) hU trivial ⟨cSort1 hU,trivial⟩ rfl rfl rfl rfl rfl rfl Tryz.ntmps294 Tryz.func294 rfl rfl rfl rfl rfl rfl rfl (by kernel_rfl) (by kernel_rfl) (by kernel_rfl) ?_
 intro xs ob o hs hok
 unfold QjC at hs
 split at hs
 · rename_i k n b d m l D S
   cases hs
   refine ⟨[.fn 253 [] [.bp 0 0,.bp 1 0]],.cons (.refl _) .nil,rfl,?_⟩
   have hfit:=hok.1
   refine Qab (p:=(Tw.mk k n b d l).fitT∧∀ (z1:Except Int ByteArray),z1=QaK D S (Tw.mk k n b d l)→ifB (okE z1) (EndU 3 (Out.need (Tw.mk k n b d l).fitT (Out.nm (Except Int ByteArray) (QaK D S (Tw.mk k n b d l)) fun (z:Except Int ByteArray)=>Out.ret (PV.tup [sV (valE (ByteArray.mk #[]) z),iV (errE z)]) [PO.cells [PV.bp 2 0],PO.cells [uV k,sV n,bV b,PV.f (Lf.lr d m),dP Sh.tm l],PO.cells [dP Sh.dat D,dP Sh.srt S]])).fin true (PV.tup [sV (valE (ByteArray.mk #[]) z1),iV 0]) [PO.cells [PV.bp 2 0],PO.cells [uV k,sV n,bV b,PV.f (Lf.lr d m),dP Sh.tm l],PO.cells [dP Sh.dat D,dP Sh.srt S],PO.cells [sV (valE (ByteArray.mk #[]) z1)],PO.cells [iV 0]]) (EndU 3 (Out.need (Tw.mk k n b d l).fitT (Out.nm (Except Int ByteArray) (QaK D S (Tw.mk k n b d l)) fun (z:Except Int ByteArray)=>Out.ret (PV.tup [sV (valE (ByteArray.mk #[]) z),iV (errE z)]) [PO.cells [PV.bp 2 0],PO.cells [uV k,sV n,bV b,PV.f (Lf.lr d m),dP Sh.tm l],PO.cells [dP Sh.dat D,dP Sh.srt S]])).fin true (PV.tup [sV (ByteArray.mk #[]),iV (errE z1)]) [PO.cells [PV.bp 2 0],PO.cells [uV k,sV n,bV b,PV.f (Lf.lr d m),dP Sh.tm l],PO.cells [dP Sh.dat D,dP Sh.srt S],PO.cells [sV (ByteArray.mk #[])],PO.cells [iV (errE z1)]])) ?kr ?_
   case kr=>kernel_rfl
   refine ⟨?s0,fun z1=>fun hz1=>Qaa.2 ⟨fun hb0=>?m0,fun hb0=>?m1⟩⟩
   case s0=>exact hfit
   case m0 =>
    obtain _ | s:=z1
    · cases hb0
    · exact endR hz1 (.refl _) rfl rfl rfl
   case m1 =>
    obtain e | _:=z1
    · exact endR hz1 (.refl _) rfl rfl rfl
    · cases hb0
 · cases hs
def QsB:Spec
 | [.f (.dt .dat D),.f (.dt .srt S),x]=>match tmOf x with
  | some t=>some (some t.fitT,.nm (Except Int ByteArray) (QaK D S t) fun z=>.tup [sV (valE ⟨#[]⟩ z),iV (errE z)])
  | none=>none
 | _=>none
theorem cSort {E:Env} (hU:Up E):Contract Tryz.prog E 206 QsB:=by
 refine Qac [] [(252,QjC)] Tryz.ntmps206 Tryz.func206 (by kernel_rfl) (by kernel_rfl) hU trivial ⟨QtH hU,trivial⟩ ?_
 intro xs p r hs hp
 unfold QsB at hs
 split at hs
 · rename_i D S x
   split at hs
   · rename_i t ht
     cases hs
     refine ⟨[.f (.dt .dat D),.f (.dt .srt S),tmP t],[],.cons (.refl _) (.cons (.refl _) (.cons (QaG ht).sub .nil)),rfl,fun _ hsh=>?_⟩
     have hfit:=hp _ rfl
     refine Qab (p:=(etaT t).fitT∧∀ (z1:Except Int ByteArray),z1=QaK D S (etaT t)→true=true∧Sub (PV.tup [sV (valE (ByteArray.mk #[]) z1),iV (errE z1)]) (PV.tup [sV (valE (ByteArray.mk #[]) (QaK D S t)),iV (errE (QaK D S t))])) ?kr ?_
     case kr=>kernel_rfl
     refine ⟨?s0,fun z1=>fun hz1=>⟨rfl,?m0⟩⟩
     all_goals try simp only [etaT] at *
     all_goals try rw [Tw.eta] at *
     case s0=>exact hfit
     case m0=>subst hz1; exact .refl _
   · cases hs
 · cases hs
end Go.Proofs.YtijfaigpilfpaaaGreatDoor
