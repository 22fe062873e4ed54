/- The layer term: Sort, told or the error. -/
import Derived.Test.YtdeacbdpmdfgdaaGreatDoorTp
import Derived.Test.YtdeacbdpmdfgdaaGreatDoorVc
set_option linter.unusedSimpArgs false
namespace Go.Proofs.YtdeacbdpmdfgdaaGreatDoor
open Go.RowKit
set_option linter.unusedVariables false
set_option maxRecDepth 100000
def iV (n:Int):PV:=.f (.v (.int .i64 n))
def bV (b:Bool):PV:=.f (.v (.bool b))
def sV (s:ByteArray):PV:=.f (.v (.string s))
def eP (e:Int):PV:=.ifc 40 (.f (.v (.int .i64 e)))
def outE {α:Type} (d:α) (pv:α→PV) (e:Except Int α) (ob:List PO):Out:=.nm (Except Int α) e fun y=>.br (okE y) (.ret (pv (valE d y)) ob) (.pan (eP (errE y)) ob)
theorem Qe8 {α:Type} {d:α} {pv:α→PV} {e:Except Int α} {ob:List PO} {x:α} (h:e=.ok x):(outE d pv e ob).fin=(true,pv x,ob):=by subst h; rfl
theorem Qbp {α:Type} {d:α} {pv:α→PV} {e:Except Int α} {ob:List PO} {x:Int} (h:e=.error x):(outE d pv e ob).fin=(false,eP x,ob):=by subst h; rfl
theorem not_t {b:Bool} (h:(!b)=true):b=false:=by simpa using h
theorem not_f {b:Bool} (h:(!b)=false):b=true:=by simpa using h
def QgS:Spec2
 | [.f (.v (.bool b)),.f (.v (.int .i64 e))],[]=>some (.br b (.ret (.tup []) []) (.pan (eP e) []))
 | _,_=>none
theorem QjL {E:Env} (hU:Up E):Contract2 Tryz.prog E 71 QgS:=by
 refine contract2 [] [] Tryz.ntmps71 Tryz.func71 (by kernel_rfl) (by kernel_rfl) hU trivial trivial ?_
 intro xs ob o hs hok
 unfold QgS at hs
 split at hs
 · rename_i b e
   cases hs
   refine ⟨[.f (.v (.bool b)),.f (.v (.int .i64 e))],[],.cons (.refl _) (.cons (.refl _) .nil),rfl,fun _ _=>?_⟩
   refine Qab (p:=ifB (!b) (EndU 0 (Out.br b (Out.ret (PV.tup []) []) (Out.pan (eP e) [])).fin false (PV.ifc 40 (PV.f (Lf.v (Value.int IntKind.i64 e)))) []) (EndU 0 (Out.br b (Out.ret (PV.tup []) []) (Out.pan (eP e) [])).fin true (PV.tup []) [])) (by kernel_rfl) ?_
   refine Qaa.2 ⟨fun hb0=>?m0,fun hb0=>?m1⟩
   case m0=>rw [not_t hb0]; exact endU rfl (.refl _) rfl rfl (r:=[]) rfl
   case m1=>rw [not_f hb0]; exact endU rfl (.refl _) rfl rfl (r:=[]) rfl
 · cases hs
def Qq3:Spec2
 | [.f (.v (.int .u8 k))],[]=>some (.nm Int (Qao k) fun n=>.br (decide (n≠-2)) (.ret (iV n) []) (.pan (eP 23) []))
 | _,_=>none
theorem QeG {k n:Int} {x:PV} (hx:x=iV n) (h:Qao k=n) (hn:n≠-2):EndU 0 (Out.nm Int (Qao k) fun n=>.br (decide (n≠-2)) (.ret (iV n) []) (.pan (eP 23) [])).fin true x []:=by
 subst hx
 refine endU (y:=iV n) (ob:=[]) ?_ (.refl _) rfl rfl (r:=[]) rfl
 rw [h]
 show (match decide (n≠-2) with | true=>_ | false=>_)=_
 rw [decide_eq_true hn]; rfl
theorem Qrp {k:Int} {x:PV} (hx:x=eP 23) (h:Qao k=-2):EndU 0 (Out.nm Int (Qao k) fun n=>.br (decide (n≠-2)) (.ret (iV n) []) (.pan (eP 23) [])).fin false x []:=by
 subst hx
 refine endU (y:=eP 23) (ob:=[]) ?_ (.refl _) rfl rfl (r:=[]) rfl
 rw [h]
 rfl
theorem cKids {E:Env} (hU:Up E):Contract2 Tryz.prog E 89 Qq3:=by
 refine contract2 [] [] Tryz.ntmps89 Tryz.func89 (by kernel_rfl) (by kernel_rfl) hU trivial trivial ?_
 intro xs ob o hs hok
 unfold Qq3 at hs
 split at hs
 · rename_i k
   cases hs
   refine ⟨[.f (.v (.int .u8 k))],[],.cons (.refl _) .nil,rfl,fun _ _=>?_⟩
   refine Qab (p:=ifB (k==(1:Int)) (EndU 0 (Out.nm Int (Qao k) fun (n:Int)=>Out.br (decide (n≠(-2:Int))) (Out.ret (iV n) []) (Out.pan (eP (23:Int)) [])).fin true (PV.f (Lf.v (Value.int IntKind.i64 (0:Int)))) []) (ifB (k==(2:Int)) (EndU 0 (Out.nm Int (Qao k) fun (n:Int)=>Out.br (decide (n≠(-2:Int))) (Out.ret (iV n) []) (Out.pan (eP (23:Int)) [])).fin true (PV.f (Lf.v (Value.int IntKind.i64 (0:Int)))) []) (ifB (k==(3:Int)) (EndU 0 (Out.nm Int (Qao k) fun (n:Int)=>Out.br (decide (n≠(-2:Int))) (Out.ret (iV n) []) (Out.pan (eP (23:Int)) [])).fin true (PV.f (Lf.v (Value.int IntKind.i64 (0:Int)))) []) (ifB (k==(4:Int)) (EndU 0 (Out.nm Int (Qao k) fun (n:Int)=>Out.br (decide (n≠(-2:Int))) (Out.ret (iV n) []) (Out.pan (eP (23:Int)) [])).fin true (PV.f (Lf.v (Value.int IntKind.i64 (0:Int)))) []) (ifB (k==(6:Int)) (EndU 0 (Out.nm Int (Qao k) fun (n:Int)=>Out.br (decide (n≠(-2:Int))) (Out.ret (iV n) []) (Out.pan (eP (23:Int)) [])).fin true (PV.f (Lf.v (Value.int IntKind.i64 (1:Int)))) []) (ifB (k==(7:Int)) (EndU 0 (Out.nm Int (Qao k) fun (n:Int)=>Out.br (decide (n≠(-2:Int))) (Out.ret (iV n) []) (Out.pan (eP (23:Int)) [])).fin true (PV.f (Lf.v (Value.int IntKind.i64 (1:Int)))) []) (ifB (k==(10:Int)) (EndU 0 (Out.nm Int (Qao k) fun (n:Int)=>Out.br (decide (n≠(-2:Int))) (Out.ret (iV n) []) (Out.pan (eP (23:Int)) [])).fin true (PV.f (Lf.v (Value.int IntKind.i64 (1:Int)))) []) (ifB (k==(8:Int)) (EndU 0 (Out.nm Int (Qao k) fun (n:Int)=>Out.br (decide (n≠(-2:Int))) (Out.ret (iV n) []) (Out.pan (eP (23:Int)) [])).fin true (PV.f (Lf.v (Value.int IntKind.i64 (2:Int)))) []) (ifB (k==(9:Int)) (EndU 0 (Out.nm Int (Qao k) fun (n:Int)=>Out.br (decide (n≠(-2:Int))) (Out.ret (iV n) []) (Out.pan (eP (23:Int)) [])).fin true (PV.f (Lf.v (Value.int IntKind.i64 (2:Int)))) []) (ifB (k==(13:Int)) (EndU 0 (Out.nm Int (Qao k) fun (n:Int)=>Out.br (decide (n≠(-2:Int))) (Out.ret (iV n) []) (Out.pan (eP (23:Int)) [])).fin true (PV.f (Lf.v (Value.int IntKind.i64 (2:Int)))) []) (ifB (k==(5:Int)) (EndU 0 (Out.nm Int (Qao k) fun (n:Int)=>Out.br (decide (n≠(-2:Int))) (Out.ret (iV n) []) (Out.pan (eP (23:Int)) [])).fin true (PV.f (Lf.v (Value.int IntKind.i64 (-1:Int)))) []) (ifB (k==(11:Int)) (EndU 0 (Out.nm Int (Qao k) fun (n:Int)=>Out.br (decide (n≠(-2:Int))) (Out.ret (iV n) []) (Out.pan (eP (23:Int)) [])).fin true (PV.f (Lf.v (Value.int IntKind.i64 (-1:Int)))) []) (ifB (k==(12:Int)) (EndU 0 (Out.nm Int (Qao k) fun (n:Int)=>Out.br (decide (n≠(-2:Int))) (Out.ret (iV n) []) (Out.pan (eP (23:Int)) [])).fin true (PV.f (Lf.v (Value.int IntKind.i64 (-1:Int)))) []) (EndU 0 (Out.nm Int (Qao k) fun (n:Int)=>Out.br (decide (n≠(-2:Int))) (Out.ret (iV n) []) (Out.pan (eP (23:Int)) [])).fin false (PV.ifc 40 (PV.f (Lf.v (Value.int IntKind.i64 (23:Int))))) [])))))))))))))) (by kernel_rfl) ?_
   refine Qaa.2 ⟨fun hb0=>?m0,fun hb0=>Qaa.2 ⟨fun hb1=>?m1,fun hb1=>Qaa.2 ⟨fun hb2=>?m2,fun hb2=>Qaa.2 ⟨fun hb3=>?m3,fun hb3=>Qaa.2 ⟨fun hb4=>?m4,fun hb4=>Qaa.2 ⟨fun hb5=>?m5,fun hb5=>Qaa.2 ⟨fun hb6=>?m6,fun hb6=>Qaa.2 ⟨fun hb7=>?m7,fun hb7=>Qaa.2 ⟨fun hb8=>?m8,fun hb8=>Qaa.2 ⟨fun hb9=>?m9,fun hb9=>Qaa.2 ⟨fun hb10=>?m10,fun hb10=>Qaa.2 ⟨fun hb11=>?m11,fun hb11=>Qaa.2 ⟨fun hb12=>?m12,fun hb12=>?m13⟩⟩⟩⟩⟩⟩⟩⟩⟩⟩⟩⟩⟩
   all_goals simp only [beq_iff_eq,beq_eq_false_iff_ne] at *
   all_goals first
    | exact QeG (n:=0) rfl (by unfold Qao; grind) (by decide)
    | exact QeG (n:=1) rfl (by unfold Qao; grind) (by decide)
    | exact QeG (n:=2) rfl (by unfold Qao; grind) (by decide)
    | exact QeG (n:=-1) rfl (by unfold Qao; grind) (by decide)
    | exact Qrp rfl (by unfold Qao; grind)
 · cases hs
theorem Qay {n m:Bool} (h:n=m):SubB (bV n) (bV m):=by subst h; exact .refl _
theorem Qae {n m:Int} (h:n=m):SubB (iV n) (iV m):=by subst h; exact .refl _
theorem Qat {s:Sh} {l:List s.T} (h:QhR (.f (.dt s l))):l.length≤9223372036854775807:=by
 have h':l.length≤maxLen:=h.1
 unfold maxLen at h'
 omega
theorem Qly {s:Sh} {l:List s.T} (h:QhR (.f (.dt s l))) {i j:Nat} {s':Sh} {m:List s'.T} (hi:i<l.length) (hj:(s.cells (l.getD i s.nil))[j]?=some (.dt s' m)):m.length≤9223372036854775807:=by
 have h':m.length≤maxLen:=h.2 i hi j _ hj
 unfold maxLen at h'
 omega
theorem br_t {b:Bool} {x y:Out} (h:b=true):(Out.br b x y).fin=x.fin:=by subst h; rfl
theorem br_f {b:Bool} {x y:Out} (h:b=false):(Out.br b x y).fin=y.fin:=by subst h; rfl
def sAll:Spec2
 | [.f (.v (.string s)),.f (.dt .str l)],[]=>some (.br (Qci l s) (.ret (.tup []) []) (.pan (eP 23) []))
 | _,_=>none
theorem cAll {E:Env} (hU:Up E):Contract2 Tryz.prog E 92 sAll:=by
 refine contract2 [] [(71,QgS)] Tryz.ntmps92 Tryz.func92 (by kernel_rfl) (by kernel_rfl) hU trivial ⟨QjL hU,trivial⟩ ?_
 intro xs ob o hs hok
 unfold sAll at hs
 split at hs
 · rename_i s l
   cases hs
   refine ⟨[.f (.v (.string s)),.f (.dt .str l)],[(1,.s ⟨Nat,fun i=>⟨[(0,sV s),(6,.f (.dt .str l)),(7,iV l.length),(8,iV i)],[]⟩,fun i=>i≤l.length∧Qci (l.take i) s=true,fun i=>l.length - i⟩)],.cons (.refl _) (.cons (.refl _) .nil),rfl,fun _ hsh=>?_⟩
   have hl:=Qat hsh.2.1
   refine Qab (p:=∃ (x1:Nat),(True∧SubB (PV.f (Lf.v (Value.string s))) (PV.f (Lf.v (Value.string s)))∧SubB (PV.f (Lf.dt Sh.str l)) (PV.f (Lf.dt Sh.str l))∧SubB (PV.f (Lf.v (Value.int IntKind.i64 (↑l.length:Int)))) (PV.f (Lf.v (Value.int IntKind.i64 (↑l.length:Int))))∧SubB (PV.f (Lf.v (Value.int IntKind.i64 (0:Int)))) (PV.f (Lf.v (Value.int IntKind.i64 (↑x1:Int))))∧True)∧(x1≤l.length∧Qci (List.take x1 l) s=true)∧True∧∀ (z2:Nat),z2≤l.length∧Qci (List.take z2 l) s=true→True→ifB (decide ((↑z2:Int)<(↑l.length:Int))) (((0:Int)≤(↑z2:Int)∧(↑z2:Int)<(↑l.length:Int))∧ifB (ByteArray.toList (l.getD (↑z2:Int).toNat Sh.str.nil)==s.toList) (∃ (x3:Nat),(True∧SubB (PV.f (Lf.v (Value.string s))) (PV.f (Lf.v (Value.string s)))∧SubB (PV.f (Lf.dt Sh.str l)) (PV.f (Lf.dt Sh.str l))∧SubB (PV.f (Lf.v (Value.int IntKind.i64 (↑l.length:Int)))) (PV.f (Lf.v (Value.int IntKind.i64 (↑l.length:Int))))∧SubB (PV.f (Lf.v (Value.int IntKind.i64 (IntKind.i64.wrap ((↑z2:Int)+(1:Int)))))) (PV.f (Lf.v (Value.int IntKind.i64 (↑x3:Int))))∧True)∧(x3≤l.length∧Qci (List.take x3 l) s=true)∧True∧(l.length - x3).succ.le (l.length - z2)) (EndU 0 (Out.br (Qci l s) (Out.ret (PV.tup []) []) (Out.pan (eP (23:Int)) [])).fin false (PV.ifc 40 (PV.f (Lf.v (Value.int IntKind.i64 (23:Int))))) [])) (EndU 0 (Out.br (Qci l s) (Out.ret (PV.tup []) []) (Out.pan (eP (23:Int)) [])).fin true (PV.tup []) [])) (by kernel_rfl) ?_
   refine ⟨?x0,⟨⟨trivial,⟨.refl _,⟨.refl _,⟨.refl _,⟨?m0,trivial⟩⟩⟩⟩⟩,⟨?s0,⟨trivial,fun z2=>fun hq0=>fun _=>Qaa.2 ⟨fun hb1=>⟨?s1,Qaa.2 ⟨fun hb2=>⟨?x1,⟨⟨trivial,⟨.refl _,⟨.refl _,⟨.refl _,⟨?m1,trivial⟩⟩⟩⟩⟩,⟨?s2,⟨trivial,?m2⟩⟩⟩⟩,fun hb2=>?m3⟩⟩,fun hb1=>?m4⟩⟩⟩⟩⟩
   case x0=>exact 0
   case x1=>exact z2+1
   all_goals try simp only [bs_l,decide_eq_true_eq,decide_eq_false_iff_not] at *
   case m0=>exact .refl _
   case s0=>exact ⟨Nat.zero_le _,rfl⟩
   case s1=>omega
   case m1=>exact Qae (by rw [wJ _ (by omega) (by omega)]; omega)
   case s2=>exact ⟨by omega,by rw [Qmd l s Sh.str.nil (by omega),hq0.2]; simpa using hb2⟩
   case m2 => have : l.length - (z2 + 1) < l.length - z2 := by omega
              exact this
   case m3 =>
    rw [br_f (Qou (l:=l) (i:=z2) (by omega) hb2)]
    exact endU rfl (.refl _) rfl rfl (r:=[]) rfl
   case m4 =>
    have e:l.take z2=l:=List.take_of_length_le (by omega)
    rw [br_t (by rw [← e]; exact hq0.2)]
    exact endU rfl (.refl _) rfl rfl (r:=[]) rfl
 · cases hs
def QmQ:Spec2
 | [.agg [.f (.v (.string n)),.f (.dt .con l)],.bp 0 0],[.cells [.f (.v (.string s))]]=>some (.ret (bV (decide (n=s))) [.cells [sV s]])
 | _,_=>none
theorem cDataF {E:Env} (hU:Up E):Contract2 Tryz.prog E 116 QmQ:=by
 refine contract2 [] [] Tryz.ntmps116 Tryz.func116 (by kernel_rfl) (by kernel_rfl) hU trivial trivial ?_
 intro xs ob o hs hok
 unfold QmQ at hs
 split at hs
 · rename_i n l s
   cases hs
   refine ⟨[.agg [.f (.v (.string n)),.f (.dt .con l)],.bp 0 0],[],.cons (.refl _) (.cons (.refl _) .nil),rfl,fun _ hsh=>?_⟩
   refine Qab (p:=EndU 1 (Out.ret (bV (decide (n=s))) [PO.cells [sV s]]).fin true (PV.f (Lf.v (Value.bool (n.toList==s.toList)))) [PO.cells [PV.f (Lf.v (Value.string s))],PO.cells [PV.f (Lf.v (Value.string n)),PV.f (Lf.dt Sh.con l)]]) (by kernel_rfl) ?_
   refine ?m0
   case m0=>exact endU rfl (Qay (bs_l n s)) rfl rfl (r:=[.cells [sV n,.f (.dt .con l)]]) rfl
 · cases hs
def anyD (D:List Dat) (s:ByteArray):Int:=anyB D fun d=>decide (d.name=s)
def Qi3:Spec2
 | [.f (.dt .dat D),.fn f [] [.bp 0 0]],[.cells [.f (.v (.string s))]]=>match Nat.beq f 116 with
  | true=>some (.ret (iV (anyD D s)) [.cells [sV s]])
  | false=>none
 | _,_=>none
theorem Qr4 {E:Env} (hU:Up E):Contract2 Tryz.prog E 86 Qi3:=by
 refine contract2 [] [(116,QmQ)] Tryz.ntmps86 Tryz.func86 (by kernel_rfl) (by kernel_rfl) hU trivial ⟨cDataF hU,trivial⟩ ?_
 intro xs ob o hs hok
 unfold Qi3 at hs
 split at hs
 · rename_i D f s
   split at hs
   · rename_i hf
     cases hs
     have hf:=Nat.eq_of_beq_eq_true hf
     subst hf
     refine ⟨[.f (.dt .dat D),.fn 116 [] [.bp 0 0]],[(2,.s ⟨Nat,fun i=>⟨[(0,.f (.dt .dat D)),(1,.fn 116 [] [.bp 0 0]),(7,iV D.length),(8,iV i)],[.cells [sV s]]⟩,fun i=>i≤D.length∧∀ k,k<i→¬ (Dat.name (D.getD k Sh.dat.nil)=s),fun i=>D.length - i⟩)],.cons (.refl _) (.cons (.refl _) .nil),rfl,fun _ hsh=>?_⟩
     have hl:=Qat hsh.1
     refine Qab (p:=∃ (x1:Nat),(((SubB (PV.f (Lf.v (Value.string s))) (PV.f (Lf.v (Value.string s)))∧True)∧True)∧SubB (PV.f (Lf.dt Sh.dat D)) (PV.f (Lf.dt Sh.dat D))∧SubB (PV.fn 116 [] [PV.bp 0 0]) (PV.fn 116 [] [PV.bp 0 0])∧SubB (PV.f (Lf.v (Value.int IntKind.i64 (↑D.length:Int)))) (PV.f (Lf.v (Value.int IntKind.i64 (↑D.length:Int))))∧SubB (PV.f (Lf.v (Value.int IntKind.i64 (0:Int)))) (PV.f (Lf.v (Value.int IntKind.i64 (↑x1:Int))))∧True)∧(x1≤D.length∧∀ (k:Nat),k<x1→¬(D.getD k Sh.dat.nil).name=s)∧True∧∀ (z2:Nat),(z2≤D.length∧∀ (k:Nat),k<z2→¬(D.getD k Sh.dat.nil).name=s)→True→ifB (decide ((↑z2:Int)<(↑D.length:Int))) (((0:Int)≤(↑z2:Int)∧(↑z2:Int)<(↑D.length:Int))∧ifB (decide ((D.getD (↑z2:Int).toNat Sh.dat.nil).name=s)) (EndU 1 (Out.ret (iV (anyD D s)) [PO.cells [sV s]]).fin true (PV.f (Lf.v (Value.int IntKind.i64 (↑z2:Int)))) [PO.cells [PV.f (Lf.v (Value.string s))]]) (∃ (x3:Nat),(((SubB (PV.f (Lf.v (Value.string s))) (PV.f (Lf.v (Value.string s)))∧True)∧True)∧SubB (PV.f (Lf.dt Sh.dat D)) (PV.f (Lf.dt Sh.dat D))∧SubB (PV.fn 116 [] [PV.bp 0 0]) (PV.fn 116 [] [PV.bp 0 0])∧SubB (PV.f (Lf.v (Value.int IntKind.i64 (↑D.length:Int)))) (PV.f (Lf.v (Value.int IntKind.i64 (↑D.length:Int))))∧SubB (PV.f (Lf.v (Value.int IntKind.i64 (IntKind.i64.wrap ((↑z2:Int)+(1:Int)))))) (PV.f (Lf.v (Value.int IntKind.i64 (↑x3:Int))))∧True)∧(x3≤D.length∧∀ (k:Nat),k<x3→¬(D.getD k Sh.dat.nil).name=s)∧True∧(D.length - x3).succ.le (D.length - z2))) (EndU 1 (Out.ret (iV (anyD D s)) [PO.cells [sV s]]).fin true (PV.f (Lf.v (Value.int IntKind.i64 (-1:Int)))) [PO.cells [PV.f (Lf.v (Value.string s))]])) (by kernel_rfl) ?_
     refine ⟨?x0,⟨⟨⟨⟨.refl _,trivial⟩,trivial⟩,⟨.refl _,⟨.refl _,⟨.refl _,⟨?m0,trivial⟩⟩⟩⟩⟩,⟨?s0,⟨trivial,fun z2=>fun hq0=>fun _=>Qaa.2 ⟨fun hb1=>⟨?s1,Qaa.2 ⟨fun hb2=>?m1,fun hb2=>⟨?x1,⟨⟨⟨⟨.refl _,trivial⟩,trivial⟩,⟨.refl _,⟨.refl _,⟨.refl _,⟨?m2,trivial⟩⟩⟩⟩⟩,⟨?s2,⟨trivial,?m3⟩⟩⟩⟩⟩⟩,fun hb1=>?m4⟩⟩⟩⟩⟩
     case x0=>exact 0
     case x1=>exact z2+1
     all_goals try simp only [decide_eq_true_eq,decide_eq_false_iff_not] at *
     case m0=>exact .refl _
     case s0=>exact ⟨Nat.zero_le _,fun k hk=>by omega⟩
     case s1=>omega
     case m1=>exact endU rfl (Qae (QeN Sh.dat.nil (by omega) (by simpa using hb2) (fun k hk=>by simpa using hq0.2 k hk)).symm) rfl rfl (r:=[]) rfl
     case m2=>exact Qae (by rw [wJ _ (by omega) (by omega)]; omega)
     case s2 =>
      refine ⟨by omega,fun k hk=>?_⟩
      by_cases hkz:k=z2
      · subst hkz; exact hb2
      · exact hq0.2 k (by omega)
     case m3 => have : D.length - (z2 + 1) < D.length - z2 := by omega
                exact this
     case m4=>exact endU rfl (Qae (QdR Sh.dat.nil fun k hk=>by simpa using hq0.2 k (by omega)).symm) rfl rfl (r:=[]) rfl
   · cases hs
 · cases hs
def QmS:Spec2
 | [.f (.dt .dat D),.fn f [] [.bp 0 0]],[.cells [.f (.v (.string s))]]=>match Nat.beq f 116 with
  | true=>some (.ret (bV (decide (0≤anyD D s))) [.cells [sV s]])
  | false=>none
 | _,_=>none
theorem cContD {E:Env} (hU:Up E):Contract2 Tryz.prog E 67 QmS:=by
 refine contract2 [] [(86,Qi3)] Tryz.ntmps67 Tryz.func67 (by kernel_rfl) (by kernel_rfl) hU trivial ⟨Qr4 hU,trivial⟩ ?_
 intro xs ob o hs hok
 unfold QmS at hs
 split at hs
 · rename_i D f s
   split at hs
   · rename_i hf
     cases hs
     have hf:=Nat.eq_of_beq_eq_true hf
     subst hf
     refine ⟨[.f (.dt .dat D),.fn 116 [] [.bp 0 0]],[],.cons (.refl _) (.cons (.refl _) .nil),rfl,fun _ hsh=>?_⟩
     refine Qab (p:=EndU 1 (Out.ret (bV (decide ((0:Int)≤anyD D s))) [PO.cells [sV s]]).fin true (PV.f (Lf.v (Value.bool (decide (anyD D s ≥ (0:Int)))))) [PO.cells [PV.f (Lf.v (Value.string s))]]) (by kernel_rfl) ?_
     refine ?m0
     case m0=>exact endU rfl (.refl _) rfl rfl (r:=[]) rfl
   · cases hs
 · cases hs
def soO (D:List Dat) (S:List Srt):List PO:=[.cells [.f (.dt .dat D),.f (.dt .srt S)]]
def QoT:Spec2
 | [.bp 0 0,.f (.v (.string s))],[.cells [.f (.dt .dat D),.f (.dt .srt S)]]=>some (.ret (bV (QfD D s)) (soO D S))
 | _,_=>none
theorem cData {E:Env} (hU:Up E):Contract2 Tryz.prog E 106 QoT:=by
 refine contract2 [] [(67,QmS)] Tryz.ntmps106 Tryz.func106 (by kernel_rfl) (by kernel_rfl) hU trivial ⟨cContD hU,trivial⟩ ?_
 intro xs ob o hs hok
 unfold QoT at hs
 split at hs
 · rename_i s D S
   cases hs
   refine ⟨[.bp 0 0,.f (.v (.string s))],[],.cons (.refl _) (.cons (.refl _) .nil),rfl,fun _ hsh=>?_⟩
   refine Qab (p:=ifB (!s.toList==(ByteArray.mk #[(105:UInt8),(110:UInt8),(116:UInt8)]).toList) (ifB (!s.toList==(ByteArray.mk #[(98:UInt8),(111:UInt8),(111:UInt8),(108:UInt8)]).toList) (EndU 1 (Out.ret (bV (QfD D s)) (soO D S)).fin true (PV.f (Lf.v (Value.bool (decide ((0:Int)≤anyD D s))))) [PO.cells [PV.f (Lf.dt Sh.dat D),PV.f (Lf.dt Sh.srt S)],PO.cells [PV.f (Lf.v (Value.string s))]]) (EndU 1 (Out.ret (bV (QfD D s)) (soO D S)).fin true (PV.f (Lf.v (Value.bool false))) [PO.cells [PV.f (Lf.dt Sh.dat D),PV.f (Lf.dt Sh.srt S)],PO.cells [PV.f (Lf.v (Value.string s))]])) (EndU 1 (Out.ret (bV (QfD D s)) (soO D S)).fin true (PV.f (Lf.v (Value.bool false))) [PO.cells [PV.f (Lf.dt Sh.dat D),PV.f (Lf.dt Sh.srt S)],PO.cells [PV.f (Lf.v (Value.string s))]])) (by kernel_rfl) ?_
   refine Qaa.2 ⟨fun hb0=>Qaa.2 ⟨fun hb1=>?m0,fun hb1=>?m1⟩,fun hb0=>?m2⟩
   all_goals refine endU rfl (Qay ?_) rfl rfl (r:=_) rfl
   all_goals simp only [bs_l,QfD,anyD] at *
   all_goals simp_all [bInt,QdQ]
   all_goals rfl
 · cases hs
def QoU:Spec2
 | [.bp 0 0,.f (.v (.string s))],[.cells [.f (.dt .dat D),.f (.dt .srt S)]]=>some (.ret (bV (QdP D s)) (soO D S))
 | _,_=>none
theorem cBase {E:Env} (hU:Up E):Contract2 Tryz.prog E 104 QoU:=by
 refine contract2 [] [(106,QoT)] Tryz.ntmps104 Tryz.func104 (by kernel_rfl) (by kernel_rfl) hU trivial ⟨cData hU,trivial⟩ ?_
 intro xs ob o hs hok
 unfold QoU at hs
 split at hs
 · rename_i s D S
   cases hs
   refine ⟨[.bp 0 0,.f (.v (.string s))],[],.cons (.refl _) (.cons (.refl _) .nil),rfl,fun _ hsh=>?_⟩
   refine Qab (p:=ifB (s.toList==(ByteArray.mk #[(105:UInt8),(110:UInt8),(116:UInt8)]).toList) (EndU 1 (Out.ret (bV (QdP D s)) (soO D S)).fin true (PV.f (Lf.v (Value.bool true))) [PO.cells [PV.f (Lf.dt Sh.dat D),PV.f (Lf.dt Sh.srt S)]]) (ifB (s.toList==(ByteArray.mk #[(98:UInt8),(111:UInt8),(111:UInt8),(108:UInt8)]).toList) (EndU 1 (Out.ret (bV (QdP D s)) (soO D S)).fin true (PV.f (Lf.v (Value.bool true))) [PO.cells [PV.f (Lf.dt Sh.dat D),PV.f (Lf.dt Sh.srt S)]]) (EndU 1 (Out.ret (bV (QdP D s)) (soO D S)).fin true (PV.f (Lf.v (Value.bool (QfD D s)))) [PO.cells [PV.f (Lf.dt Sh.dat D),PV.f (Lf.dt Sh.srt S)]]))) (by kernel_rfl) ?_
   refine Qaa.2 ⟨fun hb0=>?m0,fun hb0=>Qaa.2 ⟨fun hb1=>?m1,fun hb1=>?m2⟩⟩
   all_goals refine endU rfl (Qay ?_) rfl rfl (r:=[]) rfl
   all_goals simp only [bs_l,QdP] at *
   all_goals simp_all [bInt,QdQ]
 · cases hs
end Go.Proofs.YtdeacbdpmdfgdaaGreatDoor
namespace Go.Proofs.YtdeacbdpmdfgdaaGreatDoor
open Go.RowKit
set_option linter.unusedVariables false
set_option maxRecDepth 100000
def QmV:Spec2
 | [.f (.dt .srt l)],[]=>some (.ret (.fn 115 [] [.bp 0 0]) [.cells [.f (.dt .srt l)]])
 | _,_=>none
theorem cBackS {E:Env} (hU:Up E):Contract2 Tryz.prog E 103 QmV:=by
 refine contract2 [] [] Tryz.ntmps103 Tryz.func103 (by kernel_rfl) (by kernel_rfl) hU trivial trivial ?_
 intro xs ob o hs hok
 unfold QmV at hs
 split at hs
 · rename_i l
   cases hs
   refine ⟨[.f (.dt .srt l)],[],.cons (.refl _) .nil,rfl,fun _ _=>?_⟩
   refine Qab (p:=EndU 0 (Out.ret (PV.fn 115 [] [PV.bp 0 0]) [PO.cells [PV.f (Lf.dt Sh.srt l)]]).fin true (PV.fn 115 [] [PV.bp 0 0]) [PO.cells [PV.f (Lf.dt Sh.srt l)]]) (by kernel_rfl) ?_
   refine ?m0
   case m0=>exact endU rfl (.refl _) rfl rfl (r:=[]) rfl
 · cases hs
def bkS:Backs:=bkL [(115,24,37)]
theorem bkS_ok:QiJ Tryz.prog bkS :=
 Qsc (tI:=3) (tB:=4) (ts:=#[3,37]) Tryz.func115 (by kernel_rfl) (by kernel_rfl) Tryz.ntmps115 (by kernel_rfl) (by kernel_rfl) (by kernel_rfl) (by kernel_rfl) (by kernel_rfl) (by kernel_rfl) (by kernel_rfl)
def sVar:Spec2
 | [.bp 0 0,.f (.v (.string s))],[.cells [.f (.dt .dat D),.f (.dt .srt S)]]=>some (outE ⟨#[]⟩ sV (varS D S s) (soO D S))
 | _,_=>none
theorem cVar {E:Env} (hU:Up E):Contract2 Tryz.prog E 91 sVar:=by
 refine QjB (bk:=bkS) bkS_ok [] [(103,QmV),(104,QoU),(71,QgS)] Tryz.ntmps91 Tryz.func91 (by kernel_rfl) (by kernel_rfl) hU trivial ⟨cBackS hU,cBase hU,QjL hU,trivial⟩ ?_
 intro xs ob o hs hok
 unfold sVar at hs
 split at hs
 · rename_i s D S
   cases hs
   refine ⟨[.bp 0 0,.f (.v (.string s))],[],rgL [(3,⟨Unit,[(2,.bp 1 0),(3,.bp 2 0),(4,.bp 3 0)],fun _=>[.cells [.f (.dt .dat D),.f (.dt .srt S)],.cells [.bp 0 0],.cells [sV s],.cells [sV ⟨#[]⟩],.cells [.f (.dt .srt S)]],5,fun i _=>varS D (S.take i) s=varS D S s⟩)],.cons (.refl _) (.cons (.refl _) .nil),rfl,fun _ _ hsh=>?_⟩
   have hl:=Qat hsh.1.2.1
   refine Qab (p:=S.length≤9223372036854775807∧(∀ (z1:Unit),[PO.cells [PV.f (Lf.dt Sh.dat D),PV.f (Lf.dt Sh.srt S)],PO.cells [PV.bp 0 0],PO.cells [sV s],PO.cells [sV (ByteArray.mk #[])],PO.cells [PV.f (Lf.dt Sh.srt S)]].length=5∧some (PO.cells [PV.f (Lf.dt Sh.srt S)])=some (PO.cells [PV.f (Lf.dt Sh.srt S)]))∧(∃ (x1:Unit),(((SubB (PV.f (Lf.dt Sh.dat D)) (PV.f (Lf.dt Sh.dat D))∧SubB (PV.f (Lf.dt Sh.srt S)) (PV.f (Lf.dt Sh.srt S))∧True)∧(SubB (PV.bp 0 0) (PV.bp 0 0)∧True)∧(SubB (sV s) (sV s)∧True)∧(SubB (sV (ByteArray.mk #[])) (sV (ByteArray.mk #[]))∧True)∧(SubB (PV.f (Lf.dt Sh.srt S)) (PV.f (Lf.dt Sh.srt S))∧True)∧True)∧SubB (PV.fn 115 [] [PV.bp 4 0]) (PV.fn 115 [] [PV.bp 4 0])∧SubB (PV.bp 1 0) (PV.bp 1 0)∧SubB (PV.bp 2 0) (PV.bp 2 0)∧SubB (PV.bp 3 0) (PV.bp 3 0)∧True)∧varS D (List.take S.length S) s=varS D S s)∧(∀ (z1:Nat),z1<S.length→∀ (z2:Unit),varS D (List.take (z1+1) S) s=varS D S s→ifB ((S.getD z1 Sh.srt.nil).name.toList==s.toList) (ifB (QdP D (S.getD z1 Sh.srt.nil).sort) (EndU 1 (outE (ByteArray.mk #[]) sV (varS D S s) (soO D S)).fin true (sV ((S.getD z1 Sh.srt.nil).sort)) [PO.cells [PV.f (Lf.dt Sh.dat D),PV.f (Lf.dt Sh.srt S)],PO.cells [PV.bp 0 0],PO.cells [sV s],PO.cells [sV ((S.getD z1 Sh.srt.nil).sort)],PO.cells [PV.f (Lf.dt Sh.srt S)],PO.cells [sV ((S.getD z1 Sh.srt.nil).name),sV ((S.getD z1 Sh.srt.nil).sort)]]) (EndU 1 (outE (ByteArray.mk #[]) sV (varS D S s) (soO D S)).fin false (PV.ifc 40 (iV 23)) [PO.cells [PV.f (Lf.dt Sh.dat D),PV.f (Lf.dt Sh.srt S)],PO.cells [PV.bp 0 0],PO.cells [sV s],PO.cells [sV (ByteArray.mk #[])],PO.cells [PV.f (Lf.dt Sh.srt S)],PO.cells [sV ((S.getD z1 Sh.srt.nil).name),sV ((S.getD z1 Sh.srt.nil).sort)]])) (∃ (x3:Unit),(((SubB (PV.f (Lf.dt Sh.dat D)) (PV.f (Lf.dt Sh.dat D))∧SubB (PV.f (Lf.dt Sh.srt S)) (PV.f (Lf.dt Sh.srt S))∧True)∧(SubB (PV.bp 0 0) (PV.bp 0 0)∧True)∧(SubB (sV s) (sV s)∧True)∧(SubB (sV (ByteArray.mk #[])) (sV (ByteArray.mk #[]))∧True)∧(SubB (PV.f (Lf.dt Sh.srt S)) (PV.f (Lf.dt Sh.srt S))∧True)∧True)∧True)∧varS D (List.take z1 S) s=varS D S s))∧∀ (z1:Unit),varS D (List.take 0 S) s=varS D S s→EndU 1 (outE (ByteArray.mk #[]) sV (varS D S s) (soO D S)).fin false (PV.ifc 40 (iV 21)) [PO.cells [PV.f (Lf.dt Sh.dat D),PV.f (Lf.dt Sh.srt S)],PO.cells [PV.bp 0 0],PO.cells [sV s],PO.cells [sV (ByteArray.mk #[])],PO.cells [PV.f (Lf.dt Sh.srt S)]]) (by kernel_rfl) ?_
   refine ⟨?s0,⟨fun z1=>⟨?s1,rfl⟩,⟨⟨?x0,⟨⟨⟨⟨.refl _,⟨.refl _,trivial⟩⟩,⟨⟨.refl _,trivial⟩,⟨⟨.refl _,trivial⟩,⟨⟨.refl _,trivial⟩,⟨⟨.refl _,trivial⟩,trivial⟩⟩⟩⟩⟩,⟨.refl _,⟨.refl _,⟨.refl _,⟨.refl _,trivial⟩⟩⟩⟩⟩,?m0⟩⟩,⟨fun z1=>fun hq0=>fun z2=>fun hq1=>Qaa.2 ⟨fun hb2=>Qaa.2 ⟨fun hb3=>?m1,fun hb3=>?m2⟩,fun hb2=>⟨?x1,⟨⟨⟨⟨.refl _,⟨.refl _,trivial⟩⟩,⟨⟨.refl _,trivial⟩,⟨⟨.refl _,trivial⟩,⟨⟨.refl _,trivial⟩,⟨⟨.refl _,trivial⟩,trivial⟩⟩⟩⟩⟩,trivial⟩,?m3⟩⟩⟩,fun z1=>fun hq4=>?m4⟩⟩⟩⟩
   case s0=>exact hl
   case s1=>rfl
   case x0=>exact ()
   case x1=>exact ()
   all_goals try simp only [bs_l,decide_eq_true_eq,decide_eq_false_iff_not] at *
   case m0=>rw [List.take_length]
   case m1 =>
    rw [QeR D Sh.srt.nil hq0,if_pos hb2,if_pos hb3] at hq1
    exact endU (Qe8 hq1.symm) (.refl _) rfl rfl rfl
   case m2 =>
    rw [QeR D Sh.srt.nil hq0,if_pos hb2,if_neg (by rw [hb3]; simp)] at hq1
    exact endU (Qbp hq1.symm) (.refl _) rfl rfl rfl
   case m3 =>
    rw [QeR D Sh.srt.nil hq0,if_neg hb2] at hq1
    exact hq1
   case m4=>exact endU (Qbp (by rw [← hq4]; rfl)) (.refl _) rfl rfl rfl
 · cases hs
end Go.Proofs.YtdeacbdpmdfgdaaGreatDoor
namespace Go.Proofs.YtdeacbdpmdfgdaaGreatDoor
open Go.RowKit
set_option linter.unusedVariables false
set_option maxRecDepth 100000
def frR:Option (ByteArray × ByteArray)→ByteArray
 | some (a,_)=>a
 | none=>⟨#[]⟩
def toR:Option (ByteArray × ByteArray)→ByteArray
 | some (_,b)=>b
 | none=>⟨#[]⟩
def funP (r:Option (ByteArray × ByteArray)):PV:=.tup [sV (frR r),sV (toR r),bV r.isSome]
def sFun:Spec
 | [.f (.dt .dat D),.f (.v (.string s))]=>some (some (s.size≤4611686018427387904),.nm (Option (ByteArray × ByteArray)) (funD D s) funP)
 | _=>none
theorem w8 (n:Int) (h1:0≤n) (h2:n≤255):IntKind.u8.wrap n=n:=by
 have:IntKind.u8.wrap n=n % 256:=by simp [IntKind.wrap,IntKind.bits,IntKind.signed]
 rw [this]; omega
theorem Qfn {D:List Dat} {s:ByteArray} (h0:¬ s=bTag) (h1:2≤s.size) (h2:¬ (byN s (s.size - 2)≠46∨byN s (s.size - 1)<48∨57<byN s (s.size - 1))):funD D s=match conD D (s.extract 0 (s.size - 2)) with
  | some (d,c)=>if byN s (s.size - 1) - 48<c.fields.length then some (d,c.fields.getD (byN s (s.size - 1) - 48) ⟨#[]⟩) else none
  | none=>none:=by
 unfold funD
 rw [if_neg h0,if_neg (by omega),if_neg h2]
 generalize conD D (s.extract 0 (s.size - 2))=x
 cases x <;> rfl
theorem cFun {E:Env} (hU:Up E):Contract Tryz.prog E 105 sFun:=by
 refine Qad [] [] Tryz.ntmps105 Tryz.func105 (by kernel_rfl) (by kernel_rfl) hU trivial trivial ?_
 intro xs p r hs hp
 unfold sFun at hs
 split at hs
 · rename_i D s
   cases hs
   refine ⟨[.f (.dt .dat D),.f (.v (.string s))],[(7,.s ⟨Nat,fun i=>⟨[(1,sV s),(7,iV (s.size - 2)),(40,.f (.dt .dat D)),(41,iV D.length),(42,iV i)],[]⟩,fun i=>i≤D.length∧conD (D.drop i) (s.extract 0 (s.size - 2))=conD D (s.extract 0 (s.size - 2)),fun i=>D.length - i⟩),
    (10,⟨Nat × Nat,fun x=>⟨[(1,sV s),(7,iV (s.size - 2)),(40,.f (.dt .dat D)),(41,iV D.length),(42,iV x.1),(9,.bp 0 0),(47,.f (.dt .con (Dat.cons (D.getD x.1 Sh.dat.nil)))),(48,iV (Dat.cons (D.getD x.1 Sh.dat.nil)).length),(49,iV x.2)],[.cells [sV (Dat.name (D.getD x.1 Sh.dat.nil)),.f (.dt .con (Dat.cons (D.getD x.1 Sh.dat.nil)))]]⟩,
     fun x=>x.1<D.length∧x.2≤(Dat.cons (D.getD x.1 Sh.dat.nil)).length∧conD (⟨Dat.name (D.getD x.1 Sh.dat.nil),(Dat.cons (D.getD x.1 Sh.dat.nil)).drop x.2⟩::D.drop (x.1+1)) (s.extract 0 (s.size - 2))=conD D (s.extract 0 (s.size - 2)),fun x=>(Dat.cons (D.getD x.1 Sh.dat.nil)).length - x.2,fun x y=>x.1=y.1⟩)],
    .cons (.refl _) (.cons (.refl _) .nil),rfl,fun _ hsh=>?_⟩
   have hl:=Qat hsh.1
   have hsz:=hp _ rfl
   have e1:IntKind.i64.wrap ((s.size:Int) - 2)=(s.size:Int) - 2:=wJ _ (by omega) (by omega)
   have e2:IntKind.i64.wrap ((s.size:Int) - 2+1)=(s.size:Int) - 1:=by rw [wJ _ (by omega) (by omega)]; omega
   have e3:((s.size:Int) - 2).toNat=s.size - 2:=by omega
   have e4:((s.size:Int) - 1).toNat=s.size - 1:=by omega
   have eb:∀ i,(s.data.toList.getD i 0).toNat=byN s i:=fun i=>rfl
   have fno:funD D s=none→∀ x,x=PV.tup [sV ⟨#[]⟩,sV ⟨#[]⟩,bV false]→Sub x (funP (funD D s)):=fun h x hx=>by rw [h,hx]; exact .refl _
   refine Qab (p:=ifB (s.toList==(ByteArray.mk #[(116:UInt8),(97:UInt8),(103:UInt8)]).toList) (true=true∧Sub (PV.tup [sV (ByteArray.mk #[]),sV (ByteArray.mk #[(105:UInt8),(110:UInt8),(116:UInt8)]),bV true]) (PV.tup [sV (frR (funD D s)),sV (toR (funD D s)),bV ((funD D s).isSome)])) (ifB (decide (IntKind.i64.wrap ((↑s.size:Int) - (2:Int))<(0:Int))) (true=true∧Sub (PV.tup [sV (ByteArray.mk #[]),sV (ByteArray.mk #[]),bV false]) (PV.tup [sV (frR (funD D s)),sV (toR (funD D s)),bV ((funD D s).isSome)])) (((0:Int)≤IntKind.i64.wrap ((↑s.size:Int) - (2:Int))∧IntKind.i64.wrap ((↑s.size:Int) - (2:Int))<(↑s.size:Int))∧ifB ((↑(s.data.toList.getD (IntKind.i64.wrap ((↑s.size:Int) - (2:Int))).toNat (0:UInt8)).toNat:Int) != (46:Int)) (true=true∧Sub (PV.tup [sV (ByteArray.mk #[]),sV (ByteArray.mk #[]),bV false]) (PV.tup [sV (frR (funD D s)),sV (toR (funD D s)),bV ((funD D s).isSome)])) (((0:Int)≤IntKind.i64.wrap (IntKind.i64.wrap ((↑s.size:Int) - (2:Int))+(1:Int))∧IntKind.i64.wrap (IntKind.i64.wrap ((↑s.size:Int) - (2:Int))+(1:Int))<(↑s.size:Int))∧ifB (decide ((↑(s.data.toList.getD (IntKind.i64.wrap (IntKind.i64.wrap ((↑s.size:Int) - (2:Int))+(1:Int))).toNat (0:UInt8)).toNat:Int)<(48:Int))) (true=true∧Sub (PV.tup [sV (ByteArray.mk #[]),sV (ByteArray.mk #[]),bV false]) (PV.tup [sV (frR (funD D s)),sV (toR (funD D s)),bV ((funD D s).isSome)])) (((0:Int)≤IntKind.i64.wrap (IntKind.i64.wrap ((↑s.size:Int) - (2:Int))+(1:Int))∧IntKind.i64.wrap (IntKind.i64.wrap ((↑s.size:Int) - (2:Int))+(1:Int))<(↑s.size:Int))∧ifB (decide ((↑(s.data.toList.getD (IntKind.i64.wrap (IntKind.i64.wrap ((↑s.size:Int) - (2:Int))+(1:Int))).toNat (0:UInt8)).toNat:Int) > (57:Int))) (true=true∧Sub (PV.tup [sV (ByteArray.mk #[]),sV (ByteArray.mk #[]),bV false]) (PV.tup [sV (frR (funD D s)),sV (toR (funD D s)),bV ((funD D s).isSome)])) (∃ (x1:Nat),(True∧SubB (sV s) (sV s)∧SubB (iV (IntKind.i64.wrap ((↑s.size:Int) - (2:Int)))) (iV ((↑s.size:Int) - (2:Int)))∧SubB (PV.f (Lf.dt Sh.dat D)) (PV.f (Lf.dt Sh.dat D))∧SubB (iV (↑D.length:Int)) (iV (↑D.length:Int))∧SubB (iV 0) (iV (↑x1:Int))∧True)∧(x1≤D.length∧conD (List.drop x1 D) (s.extract 0 (s.size - 2))=conD D (s.extract 0 (s.size - 2)))∧True∧∀ (z2:Nat),z2≤D.length∧conD (List.drop z2 D) (s.extract 0 (s.size - 2))=conD D (s.extract 0 (s.size - 2))→True→ifB (decide ((↑z2:Int)<(↑D.length:Int))) (((0:Int)≤(↑z2:Int)∧(↑z2:Int)<(↑D.length:Int))∧∃ (x3:Nat × Nat),(((SubB (sV ((D.getD (↑z2:Int).toNat Sh.dat.nil).name)) (sV ((D.getD x3.fst Sh.dat.nil).name))∧SubB (PV.f (Lf.dt Sh.con (D.getD (↑z2:Int).toNat Sh.dat.nil).cons)) (PV.f (Lf.dt Sh.con (D.getD x3.fst Sh.dat.nil).cons))∧True)∧True)∧SubB (sV s) (sV s)∧SubB (iV ((↑s.size:Int) - (2:Int))) (iV ((↑s.size:Int) - (2:Int)))∧SubB (PV.f (Lf.dt Sh.dat D)) (PV.f (Lf.dt Sh.dat D))∧SubB (iV (↑D.length:Int)) (iV (↑D.length:Int))∧SubB (iV (↑z2:Int)) (iV (↑x3.fst:Int))∧SubB (PV.bp 0 0) (PV.bp 0 0)∧SubB (PV.f (Lf.dt Sh.con (D.getD (↑z2:Int).toNat Sh.dat.nil).cons)) (PV.f (Lf.dt Sh.con (D.getD x3.fst Sh.dat.nil).cons))∧SubB (iV (↑(D.getD (↑z2:Int).toNat Sh.dat.nil).cons.length:Int)) (iV (↑(D.getD x3.fst Sh.dat.nil).cons.length:Int))∧SubB (iV 0) (iV (↑x3.snd:Int))∧True)∧(x3.fst<D.length∧x3.snd≤(D.getD x3.fst Sh.dat.nil).cons.length∧conD (Dat.mk (D.getD x3.fst Sh.dat.nil).name (List.drop x3.snd (D.getD x3.fst Sh.dat.nil).cons)::List.drop (x3.fst+1) D) (s.extract 0 (s.size - 2))=conD D (s.extract 0 (s.size - 2)))∧x3.fst=x3.fst∧∀ (z4:Nat × Nat),z4.fst<D.length∧z4.snd≤(D.getD z4.fst Sh.dat.nil).cons.length∧conD (Dat.mk (D.getD z4.fst Sh.dat.nil).name (List.drop z4.snd (D.getD z4.fst Sh.dat.nil).cons)::List.drop (z4.fst+1) D) (s.extract 0 (s.size - 2))=conD D (s.extract 0 (s.size - 2))→x3.fst=z4.fst→ifB (decide ((↑z4.snd:Int)<(↑(D.getD z4.fst Sh.dat.nil).cons.length:Int))) (((0:Int)≤(↑z4.snd:Int)∧(↑z4.snd:Int)<(↑(D.getD z4.fst Sh.dat.nil).cons.length:Int))∧((0:Int)≤(0:Int)∧(0:Int)≤(↑s.size:Int) - (2:Int)∧(↑s.size:Int) - (2:Int)≤(↑s.size:Int))∧ifB (!((D.getD z4.fst Sh.dat.nil).cons.getD (↑z4.snd:Int).toNat Sh.con.nil).name.toList==(s.extract (Int.toNat (0:Int)) ((↑s.size:Int) - (2:Int)).toNat).toList) (∃ (x5:Nat × Nat),(((SubB (sV ((D.getD z4.fst Sh.dat.nil).name)) (sV ((D.getD x5.fst Sh.dat.nil).name))∧SubB (PV.f (Lf.dt Sh.con (D.getD z4.fst Sh.dat.nil).cons)) (PV.f (Lf.dt Sh.con (D.getD x5.fst Sh.dat.nil).cons))∧True)∧True)∧SubB (sV s) (sV s)∧SubB (iV ((↑s.size:Int) - (2:Int))) (iV ((↑s.size:Int) - (2:Int)))∧SubB (PV.f (Lf.dt Sh.dat D)) (PV.f (Lf.dt Sh.dat D))∧SubB (iV (↑D.length:Int)) (iV (↑D.length:Int))∧SubB (iV (↑z4.fst:Int)) (iV (↑x5.fst:Int))∧SubB (PV.bp 0 0) (PV.bp 0 0)∧SubB (PV.f (Lf.dt Sh.con (D.getD z4.fst Sh.dat.nil).cons)) (PV.f (Lf.dt Sh.con (D.getD x5.fst Sh.dat.nil).cons))∧SubB (iV (↑(D.getD z4.fst Sh.dat.nil).cons.length:Int)) (iV (↑(D.getD x5.fst Sh.dat.nil).cons.length:Int))∧SubB (iV (IntKind.i64.wrap ((↑z4.snd:Int)+(1:Int)))) (iV (↑x5.snd:Int))∧True)∧(x5.fst<D.length∧x5.snd≤(D.getD x5.fst Sh.dat.nil).cons.length∧conD (Dat.mk (D.getD x5.fst Sh.dat.nil).name (List.drop x5.snd (D.getD x5.fst Sh.dat.nil).cons)::List.drop (x5.fst+1) D) (s.extract 0 (s.size - 2))=conD D (s.extract 0 (s.size - 2)))∧x3.fst=x5.fst∧((D.getD x5.fst Sh.dat.nil).cons.length - x5.snd).succ.le ((D.getD z4.fst Sh.dat.nil).cons.length - z4.snd)) (((0:Int)≤IntKind.i64.wrap ((↑s.size:Int) - (2:Int)+(1:Int))∧IntKind.i64.wrap ((↑s.size:Int) - (2:Int)+(1:Int))<(↑s.size:Int))∧ifB (decide (IntKind.i64.wrap (IntKind.u8.wrap ((↑(s.data.toList.getD (IntKind.i64.wrap ((↑s.size:Int) - (2:Int)+(1:Int))).toNat (0:UInt8)).toNat:Int) - (48:Int)))<(↑((D.getD z4.fst Sh.dat.nil).cons.getD (↑z4.snd:Int).toNat Sh.con.nil).fields.length:Int))) (((0:Int)≤IntKind.i64.wrap (IntKind.u8.wrap ((↑(s.data.toList.getD (IntKind.i64.wrap ((↑s.size:Int) - (2:Int)+(1:Int))).toNat (0:UInt8)).toNat:Int) - (48:Int)))∧IntKind.i64.wrap (IntKind.u8.wrap ((↑(s.data.toList.getD (IntKind.i64.wrap ((↑s.size:Int) - (2:Int)+(1:Int))).toNat (0:UInt8)).toNat:Int) - (48:Int)))<(↑((D.getD z4.fst Sh.dat.nil).cons.getD (↑z4.snd:Int).toNat Sh.con.nil).fields.length:Int))∧true=true∧Sub (PV.tup [sV ((D.getD z4.fst Sh.dat.nil).name),sV (((D.getD z4.fst Sh.dat.nil).cons.getD (↑z4.snd:Int).toNat Sh.con.nil).fields.getD (IntKind.i64.wrap (IntKind.u8.wrap ((↑(s.data.toList.getD (IntKind.i64.wrap ((↑s.size:Int) - (2:Int)+(1:Int))).toNat (0:UInt8)).toNat:Int) - (48:Int)))).toNat Sh.str.nil),bV true]) (PV.tup [sV (frR (funD D s)),sV (toR (funD D s)),bV ((funD D s).isSome)])) (true=true∧Sub (PV.tup [sV (ByteArray.mk #[]),sV (ByteArray.mk #[]),bV false]) (PV.tup [sV (frR (funD D s)),sV (toR (funD D s)),bV ((funD D s).isSome)])))) (∃ (x5:Nat),(True∧SubB (sV s) (sV s)∧SubB (iV ((↑s.size:Int) - (2:Int))) (iV ((↑s.size:Int) - (2:Int)))∧SubB (PV.f (Lf.dt Sh.dat D)) (PV.f (Lf.dt Sh.dat D))∧SubB (iV (↑D.length:Int)) (iV (↑D.length:Int))∧SubB (iV (IntKind.i64.wrap ((↑z4.fst:Int)+(1:Int)))) (iV (↑x5:Int))∧True)∧(x5≤D.length∧conD (List.drop x5 D) (s.extract 0 (s.size - 2))=conD D (s.extract 0 (s.size - 2)))∧True∧(D.length - x5).succ.le (D.length - z2))) (true=true∧Sub (PV.tup [sV (ByteArray.mk #[]),sV (ByteArray.mk #[]),bV false]) (PV.tup [sV (frR (funD D s)),sV (toR (funD D s)),bV ((funD D s).isSome)])))))))) (by kernel_rfl) ?_
   refine Qaa.2 ⟨fun hb0=>⟨rfl,?m0⟩,fun hb0=>Qaa.2 ⟨fun hb1=>⟨rfl,?m1⟩,fun hb1=>⟨?s0,Qaa.2 ⟨fun hb2=>⟨rfl,?m2⟩,fun hb2=>⟨?s1,Qaa.2 ⟨fun hb3=>⟨rfl,?m3⟩,fun hb3=>⟨?s2,Qaa.2 ⟨fun hb4=>⟨rfl,?m4⟩,fun hb4=>⟨?x0,⟨⟨trivial,⟨.refl _,⟨?m5,⟨.refl _,⟨.refl _,⟨?m6,trivial⟩⟩⟩⟩⟩⟩,⟨?s3,⟨trivial,fun z2=>fun hq5=>fun _=>Qaa.2 ⟨fun hb6=>⟨?s4,⟨?x1,⟨⟨⟨⟨?m7,⟨?m8,trivial⟩⟩,trivial⟩,⟨.refl _,⟨.refl _,⟨.refl _,⟨.refl _,⟨?m9,⟨.refl _,⟨?m10,⟨?m11,⟨?m12,trivial⟩⟩⟩⟩⟩⟩⟩⟩⟩⟩,⟨?s5,⟨rfl,fun z4=>fun hq7=>fun hq8=>Qaa.2 ⟨fun hb9=>⟨?s6,⟨?s7,Qaa.2 ⟨fun hb10=>⟨?x2,⟨⟨⟨⟨?m13,⟨?m14,trivial⟩⟩,trivial⟩,⟨.refl _,⟨.refl _,⟨.refl _,⟨.refl _,⟨?m15,⟨.refl _,⟨?m16,⟨?m17,⟨?m18,trivial⟩⟩⟩⟩⟩⟩⟩⟩⟩⟩,⟨?s8,⟨?s9,?m19⟩⟩⟩⟩,fun hb10=>⟨?s10,Qaa.2 ⟨fun hb11=>⟨?s11,⟨rfl,?m20⟩⟩,fun hb11=>⟨rfl,?m21⟩⟩⟩⟩⟩⟩,fun hb9=>⟨?x3,⟨⟨trivial,⟨.refl _,⟨.refl _,⟨.refl _,⟨.refl _,⟨?m22,trivial⟩⟩⟩⟩⟩⟩,⟨?s12,⟨trivial,?m23⟩⟩⟩⟩⟩⟩⟩⟩⟩⟩,fun hb6=>⟨rfl,?m24⟩⟩⟩⟩⟩⟩⟩⟩⟩⟩⟩⟩⟩⟩
   case x0=>exact 0
   case x1=>exact (z2,0)
   case x2=>exact (z4.1,z4.2+1)
   case x3=>exact z2+1
   all_goals try simp only [bs_l,Bool.not_eq_true',Bool.not_eq_false',decide_eq_true_eq,decide_eq_false_iff_not] at *
   all_goals try simp only [e1] at *
   all_goals try simp only [e2] at *
   all_goals try simp only [e3,e4,eb,Int.toNat_natCast,bne_iff_ne,ne_eq,bne_eq_false_iff_eq,Int.toNat_zero] at *
   case m0 =>
    have hf:funD D s=some (⟨#[]⟩,bInt):=by unfold funD; exact if_pos hb0
    show Sub _ (funP (funD D s))
    rw [hf]; exact .refl _
   case m1=>exact fno (by unfold funD; rw [if_neg (show ¬ s=bTag from hb0),if_pos (by omega)]) _ rfl
   case s0=>omega
   case m2=>exact fno (by unfold funD; rw [if_neg (show ¬ s=bTag from hb0),if_neg (by omega),if_pos (by omega)]) _ rfl
   case s1=>omega
   case m3=>exact fno (by unfold funD; rw [if_neg (show ¬ s=bTag from hb0),if_neg (by omega),if_pos (by omega)]) _ rfl
   case s2=>omega
   case m4=>exact fno (by unfold funD; rw [if_neg (show ¬ s=bTag from hb0),if_neg (by omega),if_pos (by omega)]) _ rfl
   case s3=>exact ⟨Nat.zero_le _,rfl⟩
   case s4=>omega
   case s5 =>
    have hz:z2<D.length:=by omega
    refine ⟨hz,Nat.zero_le _,?_⟩
    rw [List.drop_zero,← hq5.2,Qhj D Sh.dat.nil hz]
   case s6=>omega
   case s7=>omega
   case m18 =>
    have hc:=Qly (j:=1) (s':=.con) hsh.1 hq7.1 rfl
    exact Qae (by rw [wJ _ (by omega) (by omega)]; omega)
   case s8 =>
    have hk:z4.2<(Dat.cons (D.getD z4.1 Sh.dat.nil)).length:=by omega
    refine ⟨hq7.1,hk,?_⟩
    rw [← hq7.2.2,Qhj (Dat.cons (D.getD z4.1 Sh.dat.nil)) Sh.con.nil hk,QfG,if_neg hb10]
   case s9=>exact hq8
   case m19 =>
    have:(Dat.cons (D.getD z4.1 Sh.dat.nil)).length - (z4.2+1)<(Dat.cons (D.getD z4.1 Sh.dat.nil)).length - z4.2:=by omega
    exact this
   case s10=>omega
   case s11=>exact ⟨by rw [w8 _ (by omega) (by omega),wJ _ (by omega) (by omega)]; omega,hb11⟩
   case m20 =>
    have hk:z4.2<(Dat.cons (D.getD z4.1 Sh.dat.nil)).length:=by omega
    have hc:=hq7.2.2
    rw [Qhj _ Sh.con.nil hk,QfG,if_pos hb10] at hc
    have ed:IntKind.i64.wrap (IntKind.u8.wrap ((byN s (s.size - 1):Int) - 48))=((byN s (s.size - 1) - 48:Nat):Int):=by rw [w8 _ (by omega) (by omega),wJ _ (by omega) (by omega)]; omega
    rw [ed] at hb11 ⊢
    have hf:=Qfn (D:=D) (show ¬ s=bTag from hb0) (by omega) (by omega)
    rw [← hc] at hf
    dsimp only at hf
    rw [if_pos (by omega)] at hf
    show Sub _ (funP (funD D s))
    rw [hf,Int.toNat_natCast]; exact .refl _
   case m21 =>
    have hk:z4.2<(Dat.cons (D.getD z4.1 Sh.dat.nil)).length:=by omega
    have hc:=hq7.2.2
    rw [Qhj _ Sh.con.nil hk,QfG,if_pos hb10] at hc
    have ed:IntKind.i64.wrap (IntKind.u8.wrap ((byN s (s.size - 1):Int) - 48))=((byN s (s.size - 1) - 48:Nat):Int):=by rw [w8 _ (by omega) (by omega),wJ _ (by omega) (by omega)]; omega
    rw [ed] at hb11
    have hf:=Qfn (D:=D) (show ¬ s=bTag from hb0) (by omega) (by omega)
    rw [← hc] at hf
    dsimp only at hf
    rw [if_neg (by omega)] at hf
    exact fno hf _ rfl
   case m22=>exact Qae (by rw [wJ _ (by omega) (by omega)]; omega)
   case s12 =>
    have hz:z2<D.length:=by omega
    refine ⟨hz,?_⟩
    have hc:=hq7.2.2
    have he:z4.2=(Dat.cons (D.getD z4.1 Sh.dat.nil)).length:=by omega
    rw [he,List.drop_length,Qn3,← hq8] at hc
    exact hc
   case m23 =>
    have:D.length - (z2+1)<D.length - z2:=by omega
    exact this
   case m24 =>
    have hc:=hq5.2
    rw [List.drop_eq_nil_of_le (by omega),QpK] at hc
    have hf:=Qfn (D:=D) (show ¬ s=bTag from hb0) (by omega) (by omega)
    rw [← hc] at hf
    exact fno hf _ rfl
   all_goals exact .refl _
 · cases hs
theorem Qav {n0:Nat} {p:Prop} {o:Out} {t:Bool} {x:PV} {ob:List PO} (h:EndU n0 o.fin t x ob):EndU n0 (Out.need p o).fin t x ob:=h
theorem QnL {D:List Dat} {n k:ByteArray} {z:Option (ByteArray × ByteArray)} (hz:z=funD D n) (h0:z.isSome=true) (h1:QfD D k=true) (h2:n=bTag∨frR z=k) (h3:QdP D (toR z)=true):funS D n k=.ok (toR z):=by
 unfold funS
 rw [← hz]
 obtain _ | ⟨u,v⟩:=z
 · cases h0
 · have h2':(decide (n=bTag) || decide (u=k))=true:=by
    rcases h2 with h | h
    · simp [h]
    · simp [show u=k from h]
   have h3':QdP D v=true:=h3
   dsimp only
   rw [h1,h2',h3']
   rfl
theorem Qfm {D:List Dat} {n k:ByteArray} {z:Option (ByteArray × ByteArray)} (hz:z=funD D n) (h:¬ (z.isSome=true∧QfD D k=true∧(n=bTag∨frR z=k)∧QdP D (toR z)=true)):funS D n k=.error 23:=by
 unfold funS
 rw [← hz]
 obtain _ | ⟨u,v⟩:=z
 · rfl
 · dsimp only
   rw [if_neg]
   intro hc
   simp only [Bool.and_eq_true,Bool.or_eq_true,decide_eq_true_eq] at hc
   exact h ⟨rfl,hc.1,hc.2.1,hc.2.2⟩
def sApp:Spec2
 | [.bp 0 0,.f (.v (.string n)),.f (.v (.string k))],[.cells [.f (.dt .dat D),.f (.dt .srt S)]]=>some (.need (n.size≤4611686018427387904) (outE ⟨#[]⟩ sV (funS D n k) (soO D S)))
 | _,_=>none
theorem cApp {E:Env} (hU:Up E):Contract2 Tryz.prog E 93 sApp:=by
 refine contract2 [(105,sFun)] [(106,QoT),(104,QoU),(71,QgS)] Tryz.ntmps93 Tryz.func93 (by kernel_rfl) (by kernel_rfl) hU ⟨cFun hU,trivial⟩ ⟨cData hU,cBase hU,QjL hU,trivial⟩ ?_
 intro xs ob o hs hok
 unfold sApp at hs
 split at hs
 · rename_i n k D S
   cases hs
   refine ⟨[.bp 0 0,.f (.v (.string n)),.f (.v (.string k))],[],.cons (.refl _) (.cons (.refl _) (.cons (.refl _) .nil)),rfl,fun _ _=>?_⟩
   have hn:=hok.1
   refine Qab (p:=n.size≤4611686018427387904∧∀ (z1:Option (ByteArray × ByteArray)),z1=funD D n→ifB z1.isSome (ifB (QfD D k) (ifB (n.toList==(ByteArray.mk #[(116:UInt8),(97:UInt8),(103:UInt8)]).toList) (ifB (QdP D (toR z1)) (EndU 1 (Out.need (n.size≤4611686018427387904) (outE (ByteArray.mk #[]) sV (funS D n k) (soO D S))).fin true (sV (toR z1)) [PO.cells [PV.f (Lf.dt Sh.dat D),PV.f (Lf.dt Sh.srt S)]]) (EndU 1 (Out.need (n.size≤4611686018427387904) (outE (ByteArray.mk #[]) sV (funS D n k) (soO D S))).fin false (PV.ifc 40 (iV 23)) [PO.cells [PV.f (Lf.dt Sh.dat D),PV.f (Lf.dt Sh.srt S)]])) (ifB ((frR z1).toList==k.toList) (ifB (QdP D (toR z1)) (EndU 1 (Out.need (n.size≤4611686018427387904) (outE (ByteArray.mk #[]) sV (funS D n k) (soO D S))).fin true (sV (toR z1)) [PO.cells [PV.f (Lf.dt Sh.dat D),PV.f (Lf.dt Sh.srt S)]]) (EndU 1 (Out.need (n.size≤4611686018427387904) (outE (ByteArray.mk #[]) sV (funS D n k) (soO D S))).fin false (PV.ifc 40 (iV 23)) [PO.cells [PV.f (Lf.dt Sh.dat D),PV.f (Lf.dt Sh.srt S)]])) (EndU 1 (Out.need (n.size≤4611686018427387904) (outE (ByteArray.mk #[]) sV (funS D n k) (soO D S))).fin false (PV.ifc 40 (iV 23)) [PO.cells [PV.f (Lf.dt Sh.dat D),PV.f (Lf.dt Sh.srt S)]]))) (EndU 1 (Out.need (n.size≤4611686018427387904) (outE (ByteArray.mk #[]) sV (funS D n k) (soO D S))).fin false (PV.ifc 40 (iV 23)) [PO.cells [PV.f (Lf.dt Sh.dat D),PV.f (Lf.dt Sh.srt S)]])) (EndU 1 (Out.need (n.size≤4611686018427387904) (outE (ByteArray.mk #[]) sV (funS D n k) (soO D S))).fin false (PV.ifc 40 (iV 23)) [PO.cells [PV.f (Lf.dt Sh.dat D),PV.f (Lf.dt Sh.srt S)]])) (by kernel_rfl) ?_
   refine ⟨?s0,fun z1=>fun hz1=>Qaa.2 ⟨fun hb0=>Qaa.2 ⟨fun hb1=>Qaa.2 ⟨fun hb2=>Qaa.2 ⟨fun hb3=>?m0,fun hb3=>?m1⟩,fun hb2=>Qaa.2 ⟨fun hb4=>Qaa.2 ⟨fun hb5=>?m2,fun hb5=>?m3⟩,fun hb4=>?m4⟩⟩,fun hb1=>?m5⟩,fun hb0=>?m6⟩⟩
   case s0=>exact hn
   all_goals try simp only [bs_l,decide_eq_true_eq,decide_eq_false_iff_not] at *
   case m0=>exact Qav (endU (ob:=soO D S) (Qe8 (QnL hz1 hb0 hb1 (.inl hb2) hb3)) (.refl _) rfl rfl (r:=[]) rfl)
   case m2=>exact Qav (endU (ob:=soO D S) (Qe8 (QnL hz1 hb0 hb1 (.inr hb4) hb5)) (.refl _) rfl rfl (r:=[]) rfl)
   case m1=>exact Qav (endU (ob:=soO D S) (Qbp (Qfm hz1 (fun h=>by have:=h.2.2.2; rw [hb3] at this; cases this))) (.refl _) rfl rfl (r:=[]) rfl)
   case m3=>exact Qav (endU (ob:=soO D S) (Qbp (Qfm hz1 (fun h=>by have:=h.2.2.2; rw [hb5] at this; cases this))) (.refl _) rfl rfl (r:=[]) rfl)
   case m4=>exact Qav (endU (ob:=soO D S) (Qbp (Qfm hz1 (fun h=>h.2.2.1.elim hb2 hb4))) (.refl _) rfl rfl (r:=[]) rfl)
   case m5=>exact Qav (endU (ob:=soO D S) (Qbp (Qfm hz1 (fun h=>by have:=h.2.1; rw [hb1] at this; cases this))) (.refl _) rfl rfl (r:=[]) rfl)
   case m6=>exact Qav (endU (ob:=soO D S) (Qbp (Qfm hz1 (fun h=>by have:=h.1; rw [hb0] at this; cases this))) (.refl _) rfl rfl (r:=[]) rfl)
 · cases hs
end Go.Proofs.YtdeacbdpmdfgdaaGreatDoor
namespace Go.Proofs.YtdeacbdpmdfgdaaGreatDoor
open Go.RowKit
set_option linter.unusedVariables false
set_option maxRecDepth 100000
def tmP (t:Tw):PV:=.agg (Qac (tmC t))
def tmOf:PV→Option Tw
 | .agg l=>match leafs l with
  | some m=>toTm m
  | none=>none
 | _=>none
theorem Qer:∀ (l:List Lf) (i:Nat),(Qac l)[i]?=(l[i]?).map PV.f
 | [],i=>by simp [Qac]
 | x::l,0=>by simp [Qac]
 | x::l,i+1=>by simp [Qac,Qer l i]
theorem Qdi:∀ (l:List Lf),(Qac l).length=l.length
 | []=>rfl
 | x::l=>by simp [Qac,Qdi l]
theorem QaM {x:PV} {t:Tw} (h:tmOf x=some t):SubB x (tmP t):=by
 unfold tmOf at h
 split at h
 · rename_i l
   split at h
   · rename_i m hm
     have hs:=Qet h
     obtain ⟨h1,h2⟩:=QbL hm
     refine ⟨fun H B v hv=>?_⟩
     obtain ⟨vs,rfl,h3⟩:=PRs.of_agg hv
     refine PRs.agg ⟨by rw [h3.1,← h1,Qdi,hs.len],fun i u y hu hy=>?_⟩
     rw [Qer] at hy
     cases hc:(tmC t)[i]? with
     | none=>rw [hc] at hy; cases hy
     | some z =>
      rw [hc] at hy
      cases hy
      obtain ⟨x,h4,h5⟩:=hs.at hc
      exact .f (h5 _ _ (h3.2 i u _ hu (h2 i x h4)).rd)
   · cases h
 · cases h
mutual
def Tw.fitT:Tw→Prop
 | .mk _ n _ d l=>n.size≤4611686018427387904∧d.length≤40000000∧l.length≤100000000∧Qcb l
def Qcb:List Tw→Prop
 | []=>True
 | t::l=>t.fitT∧Qcb l
end
theorem Qbg:∀ {l:List Tw} {i:Nat} (d:Tw),Qcb l→i<l.length→(l.getD i d).fitT
 | t::l,0,d,h,_=>h.1
 | t::l,i+1,d,h,hi=>by simpa using Qbg (l:=l) d h.2 (by simpa using hi)
theorem Tw.fitT_eq (t:Tw):t.fitT↔t.name.size≤4611686018427387904∧t.digits.length≤40000000∧t.kids.length≤100000000∧Qcb t.kids:=by cases t; rfl
theorem QdY (D:List Dat) (S:List Srt):∀ (l:List Tw) (t:Tw),QaR D S (l++[t])=match QaR D S l with
  | .ok m=>(match Qaq D S t with | .ok s=>.ok (m++[s]) | .error e=>.error e)
  | .error e=>.error e
 | [],t=>by
  simp only [List.nil_append,QaR]
  cases Qaq D S t <;> rfl
 | x::l,t=>by
  simp only [List.cons_append,QaR,QdY D S l t]
  cases Qaq D S x with
  | error e=>rfl
  | ok s =>
   dsimp only
   cases QaR D S l with
   | error e=>rfl
   | ok m=>cases Qaq D S t <;> rfl
theorem Qga (D:List Dat) (S:List Srt) {e:Int}:∀ (l m:List Tw),QaR D S l=.error e→QaR D S (l++m)=.error e
 | [],m,h=>by cases h
 | x::l,m,h=>by
  simp only [QaR] at h
  simp only [List.cons_append,QaR]
  cases hx:Qaq D S x with
  | error e'=>rw [hx] at h; exact h
  | ok s =>
   rw [hx] at h
   dsimp only at h ⊢
   cases hl:QaR D S l with
   | error e' =>
    rw [hl] at h
    rw [Qga D S l m hl]
    exact h
   | ok y=>rw [hl] at h; cases h
theorem QeW (D:List Dat) (S:List Srt):∀ {l:List Tw} {m:List ByteArray},QaR D S l=.ok m→m.length=l.length
 | [],m,h=>by cases h; rfl
 | t::l,m,h=>by
  simp only [QaR] at h
  cases ht:Qaq D S t with
  | error e=>rw [ht] at h; cases h
  | ok s =>
   rw [ht] at h
   dsimp only at h
   cases hl:QaR D S l with
   | error e=>rw [hl] at h; cases h
   | ok k =>
    rw [hl] at h
    cases h
    simp [QeW D S hl]
theorem Qdm (D:List Dat) (S:List Srt) (t:Tw):Qaq D S t=if Qao t.kind=-2 then .error 23
  else if ¬ (Qao t.kind<0∨Qao t.kind=t.kids.length) then .error 24
  else if (t.kind=2∨t.kind=6)∧Qa3 t.neg t.digits=false then .error 23
  else if t.kind=1 then varS D S t.name
  else match QaR D S t.kids with
   | .ok l=>Qb5 D t.kind t.name l
   | .error e=>.error e:=by
 cases t; rw [Qaq]; rfl
theorem Qew {D:List Dat} {S:List Srt} {t:Tw} (h:Qao t.kind≠-2∧(Qao t.kind<0∨Qao t.kind=t.kids.length)∧¬ ((t.kind=2∨t.kind=6)∧Qa3 t.neg t.digits=false)):Qaq D S t=if t.kind=1 then varS D S t.name
  else match QaR D S t.kids with
   | .ok l=>Qb5 D t.kind t.name l
   | .error e=>.error e:=by
 rw [Qdm,if_neg h.1,if_neg (fun hc=>hc h.2.1),if_neg h.2.2]
theorem QmD {D:List Dat} {S:List Srt} {t:Tw} (h:Qao t.kind≠-2∧(Qao t.kind<0∨Qao t.kind=t.kids.length)∧¬ ((t.kind=2∨t.kind=6)∧Qa3 t.neg t.digits=false)) (h1:t.kind≠1) {i:Nat} {l:List ByteArray} (hl:i≤t.kids.length∧QaR D S (t.kids.take i)=.ok l) (hi:¬ (i:Int)<t.kids.length):Qaq D S t=Qb5 D t.kind t.name l:=by
 have hx:=hl.2
 rw [List.take_of_length_le (by omega)] at hx
 rw [Qew h,if_neg h1,hx]
theorem QmC {D:List Dat} {S:List Srt} {t:Tw} (h:Qao t.kind≠-2∧(Qao t.kind<0∨Qao t.kind=t.kids.length)∧¬ ((t.kind=2∨t.kind=6)∧Qa3 t.neg t.digits=false)) (h1:t.kind≠1) {i:Nat} (hi:i<t.kids.length) {d:Tw} {l:List ByteArray} (hl:QaR D S (t.kids.take i)=.ok l) {e:Int} (he:Qaq D S (t.kids.getD i d)=.error e):Qaq D S t=.error e:=by
 have hx:QaR D S (t.kids.take (i+1))=.error e:=by
  rw [List.take_add_one,List.getElem?_eq_getElem hi,Option.toList_some,QdY,hl]
  rw [List.getD_eq_getElem?_getD,List.getElem?_eq_getElem hi,Option.getD_some] at he
  rw [he]
 have hy:=Qga D S _ (t.kids.drop (i+1)) hx
 rw [List.take_append_drop] at hy
 rw [Qew h,if_neg h1,hy]
theorem Qcw {p:Prop} {D:List Dat} {S:List Srt} {t:Tw} {s:ByteArray} {y:PV} {ob r:List PO} (h:Qaq D S t=.ok s) (hy:y=sV s) (hob:ob=soO D S++r):EndU 1 (Out.need p (outE ⟨#[]⟩ sV (Qaq D S t) (soO D S))).fin true y ob:=by
 subst hy hob
 exact Qav (endU (ob:=soO D S) (Qe8 h) (.refl _) rfl rfl (r:=r) rfl)
theorem QaO {p:Prop} {D:List Dat} {S:List Srt} {t:Tw} {e:Int} {y:PV} {ob r:List PO} (h:Qaq D S t=.error e) (hy:y=eP e) (hob:ob=soO D S++r):EndU 1 (Out.need p (outE ⟨#[]⟩ sV (Qaq D S t) (soO D S))).fin false y ob:=by
 subst hy hob
 exact Qav (endU (ob:=soO D S) (Qbp h) (.refl _) rfl rfl (r:=r) rfl)
theorem Qb1 {α:Type} {d:α} {e:Except Int α} (h:okE e=true):e=.ok (valE d e):=by cases e <;> first | rfl | cases h
theorem Qd8 {α:Type} {e:Except Int α} (h:okE e=false):e=.error (errE e):=by cases e <;> first | rfl | cases h
theorem QeH {α:Type} {l:List α} {i:Nat} (h:i<l.length) (a b:α):l.getD i a=l.getD i b:=by
 rw [List.getD_eq_getElem?_getD,List.getD_eq_getElem?_getD,List.getElem?_eq_getElem h]; rfl
def QhU (n:Nat):Spec2
 | [.bp 0 0,x],[.cells [.f (.dt .dat D),.f (.dt .srt S)]]=>match tmOf x with
  | some t=>some (.need (t.size<n∧t.fitT) (outE ⟨#[]⟩ sV (Qaq D S t) (soO D S)))
  | none=>none
 | _,_=>none
theorem Qqs {E:Env} (hU:Up E):∀ n,Contract2 Tryz.prog E 75 (QhU n)
 | 0=>by
  intro xs ob o hs hok
  unfold QhU at hs
  split at hs
  · split at hs
    · cases hs
      exact absurd hok.1.1 (Nat.not_lt_zero _)
    · cases hs
  · cases hs
 | n+1=>by
  refine contract2 [(90,Qkg)] [(89,Qq3),(71,QgS),(91,sVar),(75,QhU n),(92,sAll),(93,sApp)] Tryz.ntmps75 Tryz.func75 (by kernel_rfl) (by kernel_rfl) hU ⟨cRight hU,trivial⟩ ⟨cKids hU,QjL hU,cVar hU,Qqs hU n,cAll hU,cApp hU,trivial⟩ ?_
  intro xs ob o hs hok
  unfold QhU at hs
  split at hs
  · rename_i x D S
    split at hs
    · rename_i t ht
      cases hs
      obtain ⟨⟨hn,hfit⟩,-⟩:=hok
      refine ⟨[.bp 0 0,tmP t],[(1000003,.s ⟨Unit,fun _=>⟨[(0,.bp 0 0),(3,.bp 1 0)],[.cells [.f (.dt .dat D),.f (.dt .srt S)],.cells (Qac (tmC t))]⟩,fun _=>Qao t.kind≠-2∧(Qao t.kind<0∨Qao t.kind=t.kids.length),fun _=>0⟩),
       (1000004,.s ⟨Unit,fun _=>⟨[(0,.bp 0 0),(3,.bp 1 0)],[.cells [.f (.dt .dat D),.f (.dt .srt S)],.cells (Qac (tmC t))]⟩,fun _=>Qao t.kind≠-2∧(Qao t.kind<0∨Qao t.kind=t.kids.length)∧¬ ((t.kind=2∨t.kind=6)∧Qa3 t.neg t.digits=false),fun _=>0⟩),
       (8,.s ⟨Nat × List ByteArray,fun x=>⟨[(0,.bp 0 0),(3,.bp 1 0),(6,.tl 2 (.dt .str x.2)),(44,.f (.dt .tm t.kids)),(45,iV t.kids.length),(46,iV x.1)],[.cells [.f (.dt .dat D),.f (.dt .srt S)],.cells (Qac (tmC t)),.tail 9 1]⟩,
       fun x=>x.1≤t.kids.length∧QaR D S (t.kids.take x.1)=.ok x.2,fun x=>t.kids.length - x.1⟩)],.cons (.refl _) (.cons (QaM ht) .nil),rfl,fun _ hsh=>?_⟩
      have hlen:=Qat (hsh.2.1.2.2.2.2.1)
      refine Qab (p:=∀ (z1:Int),z1=Qao t.kind→ifB (decide (z1≠(-2:Int))) (ifB (decide (z1<(0:Int))) (∃ (x2:Unit),(((SubB (PV.f (Lf.dt Sh.dat D)) (PV.f (Lf.dt Sh.dat D))∧SubB (PV.f (Lf.dt Sh.srt S)) (PV.f (Lf.dt Sh.srt S))∧True)∧(SubB (PV.f (Lf.v (Value.int IntKind.u8 t.kind))) (PV.f (Lf.v (Value.int IntKind.u8 t.kind)))∧SubB (sV t.name) (sV t.name)∧SubB (bV t.neg) (bV t.neg)∧SubB (PV.f (Lf.lr t.digits t.digits.length)) (PV.f (Lf.lr t.digits t.digits.length))∧SubB (PV.f (Lf.dt Sh.tm t.kids)) (PV.f (Lf.dt Sh.tm t.kids))∧True)∧True)∧SubB (PV.bp 0 0) (PV.bp 0 0)∧SubB (PV.bp 1 0) (PV.bp 1 0)∧True)∧Qao t.kind≠(-2:Int)∧(Qao t.kind<(0:Int)∨Qao t.kind=(↑t.kids.length:Int))) (ifB (z1==(↑t.kids.length:Int)) (∃ (x2:Unit),(((SubB (PV.f (Lf.dt Sh.dat D)) (PV.f (Lf.dt Sh.dat D))∧SubB (PV.f (Lf.dt Sh.srt S)) (PV.f (Lf.dt Sh.srt S))∧True)∧(SubB (PV.f (Lf.v (Value.int IntKind.u8 t.kind))) (PV.f (Lf.v (Value.int IntKind.u8 t.kind)))∧SubB (sV t.name) (sV t.name)∧SubB (bV t.neg) (bV t.neg)∧SubB (PV.f (Lf.lr t.digits t.digits.length)) (PV.f (Lf.lr t.digits t.digits.length))∧SubB (PV.f (Lf.dt Sh.tm t.kids)) (PV.f (Lf.dt Sh.tm t.kids))∧True)∧True)∧SubB (PV.bp 0 0) (PV.bp 0 0)∧SubB (PV.bp 1 0) (PV.bp 1 0)∧True)∧Qao t.kind≠(-2:Int)∧(Qao t.kind<(0:Int)∨Qao t.kind=(↑t.kids.length:Int))) (EndU 1 (Out.need (t.size<n+1∧t.fitT) (outE (ByteArray.mk #[]) sV (Qaq D S t) (soO D S))).fin false (PV.ifc 40 (iV 24)) [PO.cells [PV.f (Lf.dt Sh.dat D),PV.f (Lf.dt Sh.srt S)],PO.cells (Qac (tmC t))]))∧∀ (z2:Unit),Qao t.kind≠(-2:Int)∧(Qao t.kind<(0:Int)∨Qao t.kind=(↑t.kids.length:Int))→ifB (t.kind != (2:Int)) (ifB (t.kind != (6:Int)) (∃ (x3:Unit),(((SubB (PV.f (Lf.dt Sh.dat D)) (PV.f (Lf.dt Sh.dat D))∧SubB (PV.f (Lf.dt Sh.srt S)) (PV.f (Lf.dt Sh.srt S))∧True)∧(SubB (PV.f (Lf.v (Value.int IntKind.u8 t.kind))) (PV.f (Lf.v (Value.int IntKind.u8 t.kind)))∧SubB (sV t.name) (sV t.name)∧SubB (bV t.neg) (bV t.neg)∧SubB (PV.f (Lf.lr t.digits t.digits.length)) (PV.f (Lf.lr t.digits t.digits.length))∧SubB (PV.f (Lf.dt Sh.tm t.kids)) (PV.f (Lf.dt Sh.tm t.kids))∧True)∧True)∧SubB (PV.bp 0 0) (PV.bp 0 0)∧SubB (PV.bp 1 0) (PV.bp 1 0)∧True)∧Qao t.kind≠(-2:Int)∧(Qao t.kind<(0:Int)∨Qao t.kind=(↑t.kids.length:Int))∧((t.kind=(2:Int)∨t.kind=(6:Int))∧Qa3 t.neg t.digits=false→False)) (t.digits.length≤100000000∧ifB (Qa3 t.neg t.digits) (∃ (x3:Unit),(((SubB (PV.f (Lf.dt Sh.dat D)) (PV.f (Lf.dt Sh.dat D))∧SubB (PV.f (Lf.dt Sh.srt S)) (PV.f (Lf.dt Sh.srt S))∧True)∧(SubB (PV.f (Lf.v (Value.int IntKind.u8 t.kind))) (PV.f (Lf.v (Value.int IntKind.u8 t.kind)))∧SubB (sV t.name) (sV t.name)∧SubB (bV t.neg) (bV t.neg)∧SubB (PV.f (Lf.lr t.digits t.digits.length)) (PV.f (Lf.lr t.digits t.digits.length))∧SubB (PV.f (Lf.dt Sh.tm t.kids)) (PV.f (Lf.dt Sh.tm t.kids))∧True)∧True)∧SubB (PV.bp 0 0) (PV.bp 0 0)∧SubB (PV.bp 1 0) (PV.bp 1 0)∧True)∧Qao t.kind≠(-2:Int)∧(Qao t.kind<(0:Int)∨Qao t.kind=(↑t.kids.length:Int))∧((t.kind=(2:Int)∨t.kind=(6:Int))∧Qa3 t.neg t.digits=false→False)) (EndU 1 (Out.need (t.size<n+1∧t.fitT) (outE (ByteArray.mk #[]) sV (Qaq D S t) (soO D S))).fin false (PV.ifc 40 (iV 23)) [PO.cells [PV.f (Lf.dt Sh.dat D),PV.f (Lf.dt Sh.srt S)],PO.cells (Qac (tmC t))]))) (t.digits.length≤100000000∧ifB (Qa3 t.neg t.digits) (∃ (x3:Unit),(((SubB (PV.f (Lf.dt Sh.dat D)) (PV.f (Lf.dt Sh.dat D))∧SubB (PV.f (Lf.dt Sh.srt S)) (PV.f (Lf.dt Sh.srt S))∧True)∧(SubB (PV.f (Lf.v (Value.int IntKind.u8 t.kind))) (PV.f (Lf.v (Value.int IntKind.u8 t.kind)))∧SubB (sV t.name) (sV t.name)∧SubB (bV t.neg) (bV t.neg)∧SubB (PV.f (Lf.lr t.digits t.digits.length)) (PV.f (Lf.lr t.digits t.digits.length))∧SubB (PV.f (Lf.dt Sh.tm t.kids)) (PV.f (Lf.dt Sh.tm t.kids))∧True)∧True)∧SubB (PV.bp 0 0) (PV.bp 0 0)∧SubB (PV.bp 1 0) (PV.bp 1 0)∧True)∧Qao t.kind≠(-2:Int)∧(Qao t.kind<(0:Int)∨Qao t.kind=(↑t.kids.length:Int))∧((t.kind=(2:Int)∨t.kind=(6:Int))∧Qa3 t.neg t.digits=false→False)) (EndU 1 (Out.need (t.size<n+1∧t.fitT) (outE (ByteArray.mk #[]) sV (Qaq D S t) (soO D S))).fin false (PV.ifc 40 (iV 23)) [PO.cells [PV.f (Lf.dt Sh.dat D),PV.f (Lf.dt Sh.srt S)],PO.cells (Qac (tmC t))]))∧∀ (z3:Unit),Qao t.kind≠(-2:Int)∧(Qao t.kind<(0:Int)∨Qao t.kind=(↑t.kids.length:Int))∧¬((t.kind=(2:Int)∨t.kind=(6:Int))∧Qa3 t.neg t.digits=false)→ifB (t.kind==(1:Int)) (∀ (z4:Except Int ByteArray),z4=varS D S t.name→ifB (okE z4) (EndU 1 (Out.need (t.size<n+1∧t.fitT) (outE (ByteArray.mk #[]) sV (Qaq D S t) (soO D S))).fin true (sV (valE (ByteArray.mk #[]) z4)) [PO.cells [PV.f (Lf.dt Sh.dat D),PV.f (Lf.dt Sh.srt S)],PO.cells (Qac (tmC t))]) (EndU 1 (Out.need (t.size<n+1∧t.fitT) (outE (ByteArray.mk #[]) sV (Qaq D S t) (soO D S))).fin false (PV.ifc 40 (iV (errE z4))) [PO.cells [PV.f (Lf.dt Sh.dat D),PV.f (Lf.dt Sh.srt S)],PO.cells (Qac (tmC t))])) (∃ (x4:Nat × List ByteArray),(((SubB (PV.f (Lf.dt Sh.dat D)) (PV.f (Lf.dt Sh.dat D))∧SubB (PV.f (Lf.dt Sh.srt S)) (PV.f (Lf.dt Sh.srt S))∧True)∧(SubB (PV.f (Lf.v (Value.int IntKind.u8 t.kind))) (PV.f (Lf.v (Value.int IntKind.u8 t.kind)))∧SubB (sV t.name) (sV t.name)∧SubB (bV t.neg) (bV t.neg)∧SubB (PV.f (Lf.lr t.digits t.digits.length)) (PV.f (Lf.lr t.digits t.digits.length))∧SubB (PV.f (Lf.dt Sh.tm t.kids)) (PV.f (Lf.dt Sh.tm t.kids))∧True)∧True)∧SubB (PV.bp 0 0) (PV.bp 0 0)∧SubB (PV.bp 1 0) (PV.bp 1 0)∧Qco (PV.tl 2 (Lf.dt Sh.str x4.snd))∧SubB (PV.f (Lf.dt Sh.tm t.kids)) (PV.f (Lf.dt Sh.tm t.kids))∧SubB (iV (↑t.kids.length:Int)) (iV (↑t.kids.length:Int))∧SubB (iV 0) (iV (↑x4.fst:Int))∧True)∧(x4.fst≤t.kids.length∧QaR D S (List.take x4.fst t.kids)=Except.ok x4.snd)∧True∧∀ (z5:Nat × List ByteArray),z5.fst≤t.kids.length∧QaR D S (List.take z5.fst t.kids)=Except.ok z5.snd→True→ifB (decide ((↑z5.fst:Int)<(↑t.kids.length:Int))) (((0:Int)≤(↑z5.fst:Int)∧(↑z5.fst:Int)<(↑t.kids.length:Int))∧((Tw.mk (Tw.kind (t.kids.getD (↑z5.fst:Int).toNat Sh.tm.nil)) (Tw.name (t.kids.getD (↑z5.fst:Int).toNat Sh.tm.nil)) (Tw.neg (t.kids.getD (↑z5.fst:Int).toNat Sh.tm.nil)) (Tw.digits (t.kids.getD (↑z5.fst:Int).toNat Sh.tm.nil)) (Tw.kids (t.kids.getD (↑z5.fst:Int).toNat Sh.tm.nil))).size<n∧(Tw.mk (Tw.kind (t.kids.getD (↑z5.fst:Int).toNat Sh.tm.nil)) (Tw.name (t.kids.getD (↑z5.fst:Int).toNat Sh.tm.nil)) (Tw.neg (t.kids.getD (↑z5.fst:Int).toNat Sh.tm.nil)) (Tw.digits (t.kids.getD (↑z5.fst:Int).toNat Sh.tm.nil)) (Tw.kids (t.kids.getD (↑z5.fst:Int).toNat Sh.tm.nil))).fitT)∧∀ (z6:Except Int ByteArray),z6=Qaq D S (Tw.mk (Tw.kind (t.kids.getD (↑z5.fst:Int).toNat Sh.tm.nil)) (Tw.name (t.kids.getD (↑z5.fst:Int).toNat Sh.tm.nil)) (Tw.neg (t.kids.getD (↑z5.fst:Int).toNat Sh.tm.nil)) (Tw.digits (t.kids.getD (↑z5.fst:Int).toNat Sh.tm.nil)) (Tw.kids (t.kids.getD (↑z5.fst:Int).toNat Sh.tm.nil)))→ifB (okE z6) ((z5.snd.length+1≤9223372036854775807∧(z5.snd.length+1) * 16≤140737488355328)∧∃ (x7:Nat × List ByteArray),(((SubB (PV.f (Lf.dt Sh.dat D)) (PV.f (Lf.dt Sh.dat D))∧SubB (PV.f (Lf.dt Sh.srt S)) (PV.f (Lf.dt Sh.srt S))∧True)∧(SubB (PV.f (Lf.v (Value.int IntKind.u8 t.kind))) (PV.f (Lf.v (Value.int IntKind.u8 t.kind)))∧SubB (sV t.name) (sV t.name)∧SubB (bV t.neg) (bV t.neg)∧SubB (PV.f (Lf.lr t.digits t.digits.length)) (PV.f (Lf.lr t.digits t.digits.length))∧SubB (PV.f (Lf.dt Sh.tm t.kids)) (PV.f (Lf.dt Sh.tm t.kids))∧True)∧True)∧SubB (PV.bp 0 0) (PV.bp 0 0)∧SubB (PV.bp 1 0) (PV.bp 1 0)∧SubB (PV.tl 2 (Lf.dt Sh.str (z5.snd++[valE (ByteArray.mk #[]) z6]))) (PV.tl 2 (Lf.dt Sh.str x7.snd))∧SubB (PV.f (Lf.dt Sh.tm t.kids)) (PV.f (Lf.dt Sh.tm t.kids))∧SubB (iV (↑t.kids.length:Int)) (iV (↑t.kids.length:Int))∧SubB (iV (IntKind.i64.wrap ((↑z5.fst:Int)+(1:Int)))) (iV (↑x7.fst:Int))∧True)∧(x7.fst≤t.kids.length∧QaR D S (List.take x7.fst t.kids)=Except.ok x7.snd)∧True∧(t.kids.length - x7.fst).succ.le (t.kids.length - z5.fst)) (EndU 1 (Out.need (t.size<n+1∧t.fitT) (outE (ByteArray.mk #[]) sV (Qaq D S t) (soO D S))).fin false (PV.ifc 40 (iV (errE z6))) [PO.cells [PV.f (Lf.dt Sh.dat D),PV.f (Lf.dt Sh.srt S)],PO.cells (Qac (tmC t)),PO.tail 9 1,PO.cells (Qac (tmC (t.kids.getD (↑z5.fst:Int).toNat Sh.tm.nil)))])) (ifB (t.kind==(2:Int)) (EndU 1 (Out.need (t.size<n+1∧t.fitT) (outE (ByteArray.mk #[]) sV (Qaq D S t) (soO D S))).fin true (sV (ByteArray.mk #[(105:UInt8),(110:UInt8),(116:UInt8)])) [PO.cells [PV.f (Lf.dt Sh.dat D),PV.f (Lf.dt Sh.srt S)],PO.cells (Qac (tmC t)),PO.tail 9 1]) (ifB (t.kind==(5:Int)) (ifB (Qci z5.snd (ByteArray.mk #[(105:UInt8),(110:UInt8),(116:UInt8)])) (EndU 1 (Out.need (t.size<n+1∧t.fitT) (outE (ByteArray.mk #[]) sV (Qaq D S t) (soO D S))).fin true (sV (ByteArray.mk #[(105:UInt8),(110:UInt8),(116:UInt8)])) [PO.cells [PV.f (Lf.dt Sh.dat D),PV.f (Lf.dt Sh.srt S)],PO.cells (Qac (tmC t)),PO.tail 9 1]) (EndU 1 (Out.need (t.size<n+1∧t.fitT) (outE (ByteArray.mk #[]) sV (Qaq D S t) (soO D S))).fin false (PV.ifc 40 (iV 23)) [PO.cells [PV.f (Lf.dt Sh.dat D),PV.f (Lf.dt Sh.srt S)],PO.cells (Qac (tmC t)),PO.tail 9 1])) (ifB (t.kind==(6:Int)) (ifB (Qci z5.snd (ByteArray.mk #[(105:UInt8),(110:UInt8),(116:UInt8)])) (EndU 1 (Out.need (t.size<n+1∧t.fitT) (outE (ByteArray.mk #[]) sV (Qaq D S t) (soO D S))).fin true (sV (ByteArray.mk #[(105:UInt8),(110:UInt8),(116:UInt8)])) [PO.cells [PV.f (Lf.dt Sh.dat D),PV.f (Lf.dt Sh.srt S)],PO.cells (Qac (tmC t)),PO.tail 9 1]) (EndU 1 (Out.need (t.size<n+1∧t.fitT) (outE (ByteArray.mk #[]) sV (Qaq D S t) (soO D S))).fin false (PV.ifc 40 (iV 23)) [PO.cells [PV.f (Lf.dt Sh.dat D),PV.f (Lf.dt Sh.srt S)],PO.cells (Qac (tmC t)),PO.tail 9 1])) (ifB (t.kind==(7:Int)) (((0:Int)≤(0:Int)∧(0:Int)<(↑z5.snd.length:Int))∧t.name.size≤4611686018427387904∧∀ (z6:Except Int ByteArray),z6=funS D t.name (z5.snd.getD (Int.toNat (0:Int)) Sh.str.nil)→ifB (okE z6) (EndU 1 (Out.need (t.size<n+1∧t.fitT) (outE (ByteArray.mk #[]) sV (Qaq D S t) (soO D S))).fin true (sV (valE (ByteArray.mk #[]) z6)) [PO.cells [PV.f (Lf.dt Sh.dat D),PV.f (Lf.dt Sh.srt S)],PO.cells (Qac (tmC t)),PO.tail 9 1]) (EndU 1 (Out.need (t.size<n+1∧t.fitT) (outE (ByteArray.mk #[]) sV (Qaq D S t) (soO D S))).fin false (PV.ifc 40 (iV (errE z6))) [PO.cells [PV.f (Lf.dt Sh.dat D),PV.f (Lf.dt Sh.srt S)],PO.cells (Qac (tmC t)),PO.tail 9 1])) (ifB (t.kind==(8:Int)) (((0:Int)≤(0:Int)∧(0:Int)<(↑z5.snd.length:Int))∧((0:Int)≤(1:Int)∧(1:Int)<(↑z5.snd.length:Int))∧ifB (ByteArray.toList (z5.snd.getD (Int.toNat (0:Int)) Sh.str.nil)==ByteArray.toList (z5.snd.getD (Int.toNat (1:Int)) Sh.str.nil)) (((0:Int)≤(0:Int)∧(0:Int)<(↑z5.snd.length:Int))∧ifB (!ByteArray.toList (z5.snd.getD (Int.toNat (0:Int)) Sh.str.nil)==(ByteArray.mk #[(98:UInt8),(111:UInt8),(111:UInt8),(108:UInt8)]).toList) (EndU 1 (Out.need (t.size<n+1∧t.fitT) (outE (ByteArray.mk #[]) sV (Qaq D S t) (soO D S))).fin true (sV (ByteArray.mk #[(98:UInt8),(111:UInt8),(111:UInt8),(108:UInt8)])) [PO.cells [PV.f (Lf.dt Sh.dat D),PV.f (Lf.dt Sh.srt S)],PO.cells (Qac (tmC t)),PO.tail 9 1]) (EndU 1 (Out.need (t.size<n+1∧t.fitT) (outE (ByteArray.mk #[]) sV (Qaq D S t) (soO D S))).fin false (PV.ifc 40 (iV 23)) [PO.cells [PV.f (Lf.dt Sh.dat D),PV.f (Lf.dt Sh.srt S)],PO.cells (Qac (tmC t)),PO.tail 9 1])) (EndU 1 (Out.need (t.size<n+1∧t.fitT) (outE (ByteArray.mk #[]) sV (Qaq D S t) (soO D S))).fin false (PV.ifc 40 (iV 23)) [PO.cells [PV.f (Lf.dt Sh.dat D),PV.f (Lf.dt Sh.srt S)],PO.cells (Qac (tmC t)),PO.tail 9 1])) (ifB (t.kind==(9:Int)) (ifB (Qci z5.snd (ByteArray.mk #[(105:UInt8),(110:UInt8),(116:UInt8)])) (EndU 1 (Out.need (t.size<n+1∧t.fitT) (outE (ByteArray.mk #[]) sV (Qaq D S t) (soO D S))).fin true (sV (ByteArray.mk #[(98:UInt8),(111:UInt8),(111:UInt8),(108:UInt8)])) [PO.cells [PV.f (Lf.dt Sh.dat D),PV.f (Lf.dt Sh.srt S)],PO.cells (Qac (tmC t)),PO.tail 9 1]) (EndU 1 (Out.need (t.size<n+1∧t.fitT) (outE (ByteArray.mk #[]) sV (Qaq D S t) (soO D S))).fin false (PV.ifc 40 (iV 23)) [PO.cells [PV.f (Lf.dt Sh.dat D),PV.f (Lf.dt Sh.srt S)],PO.cells (Qac (tmC t)),PO.tail 9 1])) (ifB (Qci z5.snd (ByteArray.mk #[(98:UInt8),(111:UInt8),(111:UInt8),(108:UInt8)])) (EndU 1 (Out.need (t.size<n+1∧t.fitT) (outE (ByteArray.mk #[]) sV (Qaq D S t) (soO D S))).fin true (sV (ByteArray.mk #[(98:UInt8),(111:UInt8),(111:UInt8),(108:UInt8)])) [PO.cells [PV.f (Lf.dt Sh.dat D),PV.f (Lf.dt Sh.srt S)],PO.cells (Qac (tmC t)),PO.tail 9 1]) (EndU 1 (Out.need (t.size<n+1∧t.fitT) (outE (ByteArray.mk #[]) sV (Qaq D S t) (soO D S))).fin false (PV.ifc 40 (iV 23)) [PO.cells [PV.f (Lf.dt Sh.dat D),PV.f (Lf.dt Sh.srt S)],PO.cells (Qac (tmC t)),PO.tail 9 1])))))))))) (EndU 1 (Out.need (t.size<n+1∧t.fitT) (outE (ByteArray.mk #[]) sV (Qaq D S t) (soO D S))).fin false (PV.ifc 40 (iV 23)) [PO.cells [PV.f (Lf.dt Sh.dat D),PV.f (Lf.dt Sh.srt S)],PO.cells (Qac (tmC t))])) ?kr ?_
      case kr=>kernel_rfl
      refine fun z1=>fun hz1=>Qaa.2 ⟨fun hb0=>⟨Qaa.2 ⟨fun hb1=>⟨?x0,⟨⟨⟨⟨.refl _,⟨.refl _,trivial⟩⟩,⟨⟨.refl _,⟨.refl _,⟨.refl _,⟨.refl _,⟨.refl _,trivial⟩⟩⟩⟩⟩,trivial⟩⟩,⟨.refl _,⟨.refl _,trivial⟩⟩⟩,⟨?s0,?m0⟩⟩⟩,fun hb1=>Qaa.2 ⟨fun hb2=>⟨?x1,⟨⟨⟨⟨.refl _,⟨.refl _,trivial⟩⟩,⟨⟨.refl _,⟨.refl _,⟨.refl _,⟨.refl _,⟨.refl _,trivial⟩⟩⟩⟩⟩,trivial⟩⟩,⟨.refl _,⟨.refl _,trivial⟩⟩⟩,⟨?s1,?m1⟩⟩⟩,fun hb2=>?m2⟩⟩,fun z2=>fun hq3=>⟨Qaa.2 ⟨fun hb4=>Qaa.2 ⟨fun hb5=>⟨?x2,⟨⟨⟨⟨.refl _,⟨.refl _,trivial⟩⟩,⟨⟨.refl _,⟨.refl _,⟨.refl _,⟨.refl _,⟨.refl _,trivial⟩⟩⟩⟩⟩,trivial⟩⟩,⟨.refl _,⟨.refl _,trivial⟩⟩⟩,⟨?s2,⟨?s3,fun hq6=>?m3⟩⟩⟩⟩,fun hb5=>⟨?s4,Qaa.2 ⟨fun hb7=>⟨?x3,⟨⟨⟨⟨.refl _,⟨.refl _,trivial⟩⟩,⟨⟨.refl _,⟨.refl _,⟨.refl _,⟨.refl _,⟨.refl _,trivial⟩⟩⟩⟩⟩,trivial⟩⟩,⟨.refl _,⟨.refl _,trivial⟩⟩⟩,⟨?s5,⟨?s6,fun hq8=>?m4⟩⟩⟩⟩,fun hb7=>?m5⟩⟩⟩,fun hb4=>⟨?s7,Qaa.2 ⟨fun hb9=>⟨?x4,⟨⟨⟨⟨.refl _,⟨.refl _,trivial⟩⟩,⟨⟨.refl _,⟨.refl _,⟨.refl _,⟨.refl _,⟨.refl _,trivial⟩⟩⟩⟩⟩,trivial⟩⟩,⟨.refl _,⟨.refl _,trivial⟩⟩⟩,⟨?s8,⟨?s9,fun hq10=>?m6⟩⟩⟩⟩,fun hb9=>?m7⟩⟩⟩,fun z3=>fun hq11=>Qaa.2 ⟨fun hb12=>fun z4=>fun hz4=>Qaa.2 ⟨fun hb13=>?m8,fun hb13=>?m9⟩,fun hb12=>⟨?x5,⟨?s10,⟨?s11,⟨trivial,fun z5=>fun hq14=>fun _=>Qaa.2 ⟨fun hb15=>⟨?s12,⟨?s13,fun z6=>fun hz6=>Qaa.2 ⟨fun hb16=>⟨?s14,⟨?x6,⟨⟨⟨⟨.refl _,⟨.refl _,trivial⟩⟩,⟨⟨.refl _,⟨.refl _,⟨.refl _,⟨.refl _,⟨.refl _,trivial⟩⟩⟩⟩⟩,trivial⟩⟩,⟨.refl _,⟨.refl _,⟨?m10,⟨.refl _,⟨.refl _,⟨?m11,trivial⟩⟩⟩⟩⟩⟩⟩,⟨?s15,⟨trivial,?m12⟩⟩⟩⟩⟩,fun hb16=>?m13⟩⟩⟩,fun hb15=>Qaa.2 ⟨fun hb17=>?m14,fun hb17=>Qaa.2 ⟨fun hb18=>Qaa.2 ⟨fun hb19=>?m15,fun hb19=>?m16⟩,fun hb18=>Qaa.2 ⟨fun hb20=>Qaa.2 ⟨fun hb21=>?m17,fun hb21=>?m18⟩,fun hb20=>Qaa.2 ⟨fun hb22=>⟨?s16,⟨?s17,fun z6=>fun hz6=>Qaa.2 ⟨fun hb23=>?m19,fun hb23=>?m20⟩⟩⟩,fun hb22=>Qaa.2 ⟨fun hb24=>⟨?s18,⟨?s19,Qaa.2 ⟨fun hb25=>⟨?s20,Qaa.2 ⟨fun hb26=>?m21,fun hb26=>?m22⟩⟩,fun hb25=>?m23⟩⟩⟩,fun hb24=>Qaa.2 ⟨fun hb27=>Qaa.2 ⟨fun hb28=>?m24,fun hb28=>?m25⟩,fun hb27=>Qaa.2 ⟨fun hb29=>?m26,fun hb29=>?m27⟩⟩⟩⟩⟩⟩⟩⟩⟩⟩⟩⟩⟩⟩⟩,fun hb0=>?m28⟩
      case x0=>exact ()
      case x1=>exact ()
      case x2=>exact ()
      case x3=>exact ()
      case x4=>exact ()
      case x5=>exact (0,[])
      case x6=>exact (z5.1+1,z5.2++[valE ⟨#[]⟩ z6])
      all_goals try simp only [bs_l,Bool.not_eq_true',Bool.not_eq_false',decide_eq_true_eq,decide_eq_false_iff_not,beq_iff_eq,beq_eq_false_iff_ne,bne_iff_ne,ne_eq,bne_eq_false_iff_eq,Int.toNat_natCast,Int.toNat_zero] at *
      all_goals try subst hz1
      case s0=>exact hb0
      case m0=>exact .inl hb1
      case s1=>exact hb0
      case m1=>exact .inr hb2
      case m2=>exact QaO (by rw [Qdm,if_neg hb0,if_pos (fun h=>h.elim hb1 hb2)]) rfl rfl
      case s2=>exact hb0
      case s3=>exact hq3.2
      case m3=>exact hq6.1.elim hb4 hb5
      case s4=>have:=((Tw.fitT_eq t).1 hfit).2.1; omega
      case s5=>exact hb0
      case s6=>exact hq3.2
      case m4=>rw [hb7] at hq8; exact absurd hq8.2 (by decide)
      case m5=>exact QaO (by rw [Qdm,if_neg hb0,if_neg (fun h=>h hq3.2),if_pos ⟨.inr hb5,hb7⟩]) rfl rfl
      case s7=>have:=((Tw.fitT_eq t).1 hfit).2.1; omega
      case s8=>exact hb0
      case s9=>exact hq3.2
      case m6=>rw [hb9] at hq10; exact absurd hq10.2 (by decide)
      case m7=>exact QaO (by rw [Qdm,if_neg hb0,if_neg (fun h=>h hq3.2),if_pos ⟨.inl hb4,hb9⟩]) rfl rfl
      case m8=>exact Qcw (by rw [Qew hq11,if_pos hb12,← hz4]; exact Qb1 hb13) rfl rfl
      case m9=>exact QaO (by rw [Qew hq11,if_pos hb12,← hz4]; exact Qd8 hb13) rfl rfl
      case s10=>exact ⟨⟨⟨.refl _,.refl _,trivial⟩,⟨.refl _,.refl _,.refl _,.refl _,.refl _,trivial⟩,trivial⟩,.refl _,.refl _,rfl,.refl _,.refl _,.refl _,trivial⟩
      case s11=>exact ⟨Nat.zero_le _,rfl⟩
      case s12=>omega
      case s13 =>
       have hi:z5.1<t.kids.length:=by omega
       rw [Tw.eta]
       refine ⟨?_,Qbg _ ((Tw.fitT_eq t).1 hfit).2.2.2 hi⟩
       rw [QeH hi _ default]
       have:=Qpj hi
       omega
      case s14 =>
       have h1:=QeW D S hq14.2
       have h2:=((Tw.fitT_eq t).1 hfit).2.2.1
       rw [List.length_take] at h1
       omega
      case m10=>exact .refl _
      case m11=>exact Qae (by rw [wJ _ (by omega) (by omega)]; rfl)
      case s15 =>
       have hi:z5.1<t.kids.length:=by omega
       refine ⟨hi,?_⟩
       rw [Tw.eta] at hz6
       have hk:=hz6.symm
       rw [List.getD_eq_getElem?_getD,List.getElem?_eq_getElem hi,Option.getD_some] at hk
       show QaR D S (t.kids.take (z5.1+1))=.ok (z5.2++[valE ⟨#[]⟩ z6])
       rw [List.take_add_one,List.getElem?_eq_getElem hi,Option.toList_some,QdY,hq14.2,hk]
       obtain _ | s:=z6
       · cases hb16
       · rfl
      case m12 =>
       have:t.kids.length - (z5.1+1)<t.kids.length - z5.1:=by omega
       exact this
      case m13 =>
       rw [Tw.eta] at hz6
       exact QaO (QmC hq11 hb12 (by omega) hq14.2 (hz6.symm.trans (Qd8 hb16))) rfl rfl
      case m28=>exact QaO (by rw [Qdm,if_pos (Decidable.not_not.1 hb0)]) rfl rfl
      all_goals have hp:=QmD hq11 hb12 hq14 hb15
      case m14=>exact Qcw (hp.trans (by unfold Qb5; exact if_pos hb17)) rfl rfl
      case m15=>exact Qcw (hp.trans (by unfold Qb5; rw [if_neg hb17,if_pos (.inl hb18)]; exact if_pos hb19)) rfl rfl
      case m16=>exact QaO (hp.trans (by unfold Qb5; rw [if_neg hb17,if_pos (.inl hb18)]; exact if_neg (fun h=>Bool.noConfusion (h.symm.trans hb19)))) rfl rfl
      case m17=>exact Qcw (hp.trans (by unfold Qb5; rw [if_neg hb17,if_pos (.inr hb20)]; exact if_pos hb21)) rfl rfl
      case m18=>exact QaO (hp.trans (by unfold Qb5; rw [if_neg hb17,if_pos (.inr hb20)]; exact if_neg (fun h=>Bool.noConfusion (h.symm.trans hb21)))) rfl rfl
      all_goals have hl2:=QeW D S hq14.2
      all_goals rw [List.length_take] at hl2
      all_goals have hk2:=hq3.2
      case s16=>rw [hb22] at hk2; have:Qao 7=1:=rfl; omega
      case s17=>exact ((Tw.fitT_eq t).1 hfit).1
      case m19=>exact Qcw (hp.trans (by unfold Qb5; rw [if_neg hb17,if_neg (fun h=>h.elim hb18 hb20),if_pos hb22]; exact hz6.symm.trans (Qb1 hb23))) rfl rfl
      case m20=>exact QaO (hp.trans (by unfold Qb5; rw [if_neg hb17,if_neg (fun h=>h.elim hb18 hb20),if_pos hb22]; exact hz6.symm.trans (Qd8 hb23))) rfl rfl
      case s18=>rw [hb24] at hk2; have:Qao 8=2:=rfl; omega
      case s19=>rw [hb24] at hk2; have:Qao 8=2:=rfl; omega
      case s20=>rw [hb24] at hk2; have:Qao 8=2:=rfl; omega
      case m21=>exact Qcw (hp.trans (by unfold Qb5; rw [if_neg hb17,if_neg (fun h=>h.elim hb18 hb20),if_neg hb22,if_pos hb24]; exact if_pos (by rw [Bool.and_eq_true,Bool.not_eq_true']; exact ⟨decide_eq_true hb25,decide_eq_false hb26⟩))) rfl rfl
      case m22=>exact QaO (hp.trans (by unfold Qb5; rw [if_neg hb17,if_neg (fun h=>h.elim hb18 hb20),if_neg hb22,if_pos hb24]; exact if_neg (by rw [Bool.and_eq_true,Bool.not_eq_true']; exact fun h=>of_decide_eq_false h.2 hb26))) rfl rfl
      case m23=>exact QaO (hp.trans (by unfold Qb5; rw [if_neg hb17,if_neg (fun h=>h.elim hb18 hb20),if_neg hb22,if_pos hb24]; exact if_neg (by rw [Bool.and_eq_true]; exact fun h=>hb25 (of_decide_eq_true h.1)))) rfl rfl
      case m24=>exact Qcw (hp.trans (by unfold Qb5; rw [if_neg hb17,if_neg (fun h=>h.elim hb18 hb20),if_neg hb22,if_neg hb24,if_pos hb27]; exact if_pos hb28)) rfl rfl
      case m25=>exact QaO (hp.trans (by unfold Qb5; rw [if_neg hb17,if_neg (fun h=>h.elim hb18 hb20),if_neg hb22,if_neg hb24,if_pos hb27]; exact if_neg (fun h=>Bool.noConfusion (h.symm.trans hb28)))) rfl rfl
      case m26=>exact Qcw (hp.trans (by unfold Qb5; rw [if_neg hb17,if_neg (fun h=>h.elim hb18 hb20),if_neg hb22,if_neg hb24,if_neg hb27]; exact if_pos hb29)) rfl rfl
      case m27=>exact QaO (hp.trans (by unfold Qb5; rw [if_neg hb17,if_neg (fun h=>h.elim hb18 hb20),if_neg hb22,if_neg hb24,if_neg hb27]; exact if_neg (fun h=>Bool.noConfusion (h.symm.trans hb29)))) rfl rfl
    · cases hs
  · cases hs
end Go.Proofs.YtdeacbdpmdfgdaaGreatDoor
namespace Go.Proofs.YtdeacbdpmdfgdaaGreatDoor
open Go.RowKit
set_option linter.unusedVariables false
set_option maxRecDepth 100000
theorem SubB.sub {x y:PV} (h:SubB x y):Sub x y:=⟨fun H v hv=>h.out H _ v hv⟩
theorem Qfw {n0:Nat} {p:Prop} {α:Type} {d:α} {pv:α→PV} {e:Except Int α} {y:PV} {ob ob' r:List PO} (h:okE e=true) (hy:y=pv (valE d e)) (hn:newT ob'.length y (pv (valE d e))=false) (hb:(Qa5 ob.length (pv (valE d e)) && (QbF ob.length ob && Nat.ble n0 ob.length))=true) (hob:ob'=ob++r):EndU n0 (Out.need p (outE d pv e ob)).fin true y ob' :=
 Qav (endU (ob:=ob) (r:=r) (Qe8 (Qb1 h)) (hy ▸ .refl _) hn hb hob)
theorem Qce {n0:Nat} {p:Prop} {α:Type} {d:α} {pv:α→PV} {e:Except Int α} {y:PV} {ob ob' r:List PO} (h:okE e=false) (hy:y=eP (errE e)) (hb:(QbF ob.length ob && Nat.ble n0 ob.length)=true) (hob:ob'=ob++r):EndU n0 (Out.need p (outE d pv e ob)).fin false y ob' :=
 Qav (endU (ob:=ob) (r:=r) (Qbp (Qd8 h)) (hy ▸ .refl _) (by subst hy; rfl) hb hob)
theorem endR {n0:Nat} {p:Prop} {α:Type} {e z:Except Int α} {pv:Except Int α→PV} {y:PV} {ob ob' r:List PO} (hz:z=e) (hy:SubB y (pv z)) (hn:newT ob'.length y (pv z)=false) (hb:(Qa5 ob.length (pv z) && (QbF ob.length ob && Nat.ble n0 ob.length))=true) (hob:ob'=ob++r):EndU n0 (Out.need p (.nm (Except Int α) e fun z=>.ret (pv z) ob)).fin true y ob':=by
 subst hz
 exact Qav (endU (ob:=ob) (r:=r) rfl hy hn hb hob)
def QiY:Spec2
 | [.bp 0 0,x],[.cells [.f (.dt .dat D),.f (.dt .srt S)]]=>match tmOf x with
  | some t=>some (.need t.fitT (outE ⟨#[]⟩ sV (Qaq D S t) (soO D S)))
  | none=>none
 | _,_=>none
theorem QrY {E:Env} (hU:Up E):Contract2 Tryz.prog E 75 QiY:=by
 intro xs ob o hs hok
 unfold QiY at hs
 split at hs
 · rename_i x D S
   split at hs
   · rename_i t ht
     cases hs
     refine Qqs hU (t.size+1) [.bp 0 0,x] [.cells [.f (.dt .dat D),.f (.dt .srt S)]] (.need (t.size<t.size+1∧t.fitT) (outE ⟨#[]⟩ sV (Qaq D S t) (soO D S))) ?_ ⟨⟨Nat.lt_succ_self _,hok.1⟩,hok.2⟩
     simp only [QhU,ht]
   · cases hs
 · cases hs
def QmN:Spec2
 | [.bp 0 0,.bp 1 0],[.cells [.bp 2 0],.cells [.f (.v (.int .u8 k)),.f (.v (.string n)),.f (.v (.bool b)),.f (.lr d m),.f (.dt .tm l)],.cells [.f (.dt .dat D),.f (.dt .srt S)]] =>
  some (.need (Tw.mk k n b d l).fitT (outE ⟨#[]⟩ sV (Qaq D S (.mk k n b d l)) [.cells [.bp 2 0],.cells [.f (.v (.int .u8 k)),.f (.v (.string n)),.f (.v (.bool b)),.f (.lr d m),.f (.dt .tm l)],.cells [.f (.dt .dat D),.f (.dt .srt S)]]))
 | _,_=>none
theorem cSort1 {E:Env} (hU:Up E):Contract2 Tryz.prog E 74 QmN:=by
 refine contract2 [] [(75,QiY)] Tryz.ntmps74 Tryz.func74 (by kernel_rfl) (by kernel_rfl) hU trivial ⟨QrY hU,trivial⟩ ?_
 intro xs ob o hs hok
 unfold QmN at hs
 split at hs
 · rename_i k n b d m l D S
   cases hs
   refine ⟨[.bp 0 0,.bp 1 0],[],.cons (.refl _) (.cons (.refl _) .nil),rfl,fun _ hsh=>?_⟩
   have hfit:=hok.1
   refine Qab (p:=(Tw.mk k n b d l).fitT∧∀ (z1:Except Int ByteArray),z1=Qaq D S (Tw.mk k n b d l)→ifB (okE z1) (EndU 3 (Out.need (Tw.mk k n b d l).fitT (outE (ByteArray.mk #[]) sV (Qaq D S (Tw.mk k n b d l)) [PO.cells [PV.bp 2 0],PO.cells [PV.f (Lf.v (Value.int IntKind.u8 k)),sV n,bV b,PV.f (Lf.lr d m),PV.f (Lf.dt Sh.tm l)],PO.cells [PV.f (Lf.dt Sh.dat D),PV.f (Lf.dt Sh.srt S)]])).fin true (sV (valE (ByteArray.mk #[]) z1)) [PO.cells [PV.bp 2 0],PO.cells [PV.f (Lf.v (Value.int IntKind.u8 k)),sV n,bV b,PV.f (Lf.lr d m),PV.f (Lf.dt Sh.tm l)],PO.cells [PV.f (Lf.dt Sh.dat D),PV.f (Lf.dt Sh.srt S)]]) (EndU 3 (Out.need (Tw.mk k n b d l).fitT (outE (ByteArray.mk #[]) sV (Qaq D S (Tw.mk k n b d l)) [PO.cells [PV.bp 2 0],PO.cells [PV.f (Lf.v (Value.int IntKind.u8 k)),sV n,bV b,PV.f (Lf.lr d m),PV.f (Lf.dt Sh.tm l)],PO.cells [PV.f (Lf.dt Sh.dat D),PV.f (Lf.dt Sh.srt S)]])).fin false (PV.ifc 40 (iV (errE z1))) [PO.cells [PV.bp 2 0],PO.cells [PV.f (Lf.v (Value.int IntKind.u8 k)),sV n,bV b,PV.f (Lf.lr d m),PV.f (Lf.dt Sh.tm l)],PO.cells [PV.f (Lf.dt Sh.dat D),PV.f (Lf.dt Sh.srt S)]])) ?kr ?_
   case kr=>kernel_rfl
   refine ⟨?s0,fun z1=>fun hz1=>Qaa.2 ⟨fun hb0=>?m0,fun hb0=>?m1⟩⟩
   case s0=>exact hfit
   all_goals subst hz1
   case m0=>exact Qfw hb0 rfl rfl rfl rfl
   case m1=>exact Qce hb0 rfl rfl rfl
 · cases hs
def QiX:Spec2
 | [.fn 74 [] [.bp 0 0,.bp 1 0]],[.cells [.bp 2 0],.cells [.f (.v (.int .u8 k)),.f (.v (.string n)),.f (.v (.bool b)),.f (.lr d m),.f (.dt .tm l)],.cells [.f (.dt .dat D),.f (.dt .srt S)]] =>
  some (.need (Tw.mk k n b d l).fitT (.nm (Except Int ByteArray) (Qaq D S (.mk k n b d l)) fun z=>.ret (.tup [sV (valE ⟨#[]⟩ z),iV (errE z)]) [.cells [.bp 2 0],.cells [.f (.v (.int .u8 k)),.f (.v (.string n)),.f (.v (.bool b)),.f (.lr d m),.f (.dt .tm l)],.cells [.f (.dt .dat D),.f (.dt .srt S)]]))
 | _,_=>none
theorem QrX {E:Env} (hU:Up E):Contract2 Tryz.prog E 73 QiX:=by
 refine QcI (cf:=88) [] [(74,QmN)] Tryz.ntmps73 Tryz.func73 rfl (by kernel_rfl) hU trivial ⟨cSort1 hU,trivial⟩ rfl rfl rfl rfl rfl rfl Tryz.ntmps88 Tryz.func88 rfl rfl rfl rfl rfl rfl rfl (by kernel_rfl) (by kernel_rfl) (by kernel_rfl) ?_
 intro xs ob o hs hok
 unfold QiX at hs
 split at hs
 · rename_i k n b d m l D S
   cases hs
   refine ⟨[.fn 74 [] [.bp 0 0,.bp 1 0]],.cons (.refl _) .nil,rfl,?_⟩
   have hfit:=hok.1
   refine Qab (p:=(Tw.mk k n b d l).fitT∧∀ (z1:Except Int ByteArray),z1=Qaq D S (Tw.mk k n b d l)→ifB (okE z1) (EndU 3 (Out.need (Tw.mk k n b d l).fitT (Out.nm (Except Int ByteArray) (Qaq D S (Tw.mk k n b d l)) fun (z:Except Int ByteArray)=>Out.ret (PV.tup [sV (valE (ByteArray.mk #[]) z),iV (errE z)]) [PO.cells [PV.bp 2 0],PO.cells [PV.f (Lf.v (Value.int IntKind.u8 k)),sV n,bV b,PV.f (Lf.lr d m),PV.f (Lf.dt Sh.tm l)],PO.cells [PV.f (Lf.dt Sh.dat D),PV.f (Lf.dt Sh.srt S)]])).fin true (PV.tup [sV (valE (ByteArray.mk #[]) z1),iV 0]) [PO.cells [PV.bp 2 0],PO.cells [PV.f (Lf.v (Value.int IntKind.u8 k)),sV n,bV b,PV.f (Lf.lr d m),PV.f (Lf.dt Sh.tm l)],PO.cells [PV.f (Lf.dt Sh.dat D),PV.f (Lf.dt Sh.srt S)],PO.cells [sV (valE (ByteArray.mk #[]) z1)],PO.cells [iV 0]]) (EndU 3 (Out.need (Tw.mk k n b d l).fitT (Out.nm (Except Int ByteArray) (Qaq D S (Tw.mk k n b d l)) fun (z:Except Int ByteArray)=>Out.ret (PV.tup [sV (valE (ByteArray.mk #[]) z),iV (errE z)]) [PO.cells [PV.bp 2 0],PO.cells [PV.f (Lf.v (Value.int IntKind.u8 k)),sV n,bV b,PV.f (Lf.lr d m),PV.f (Lf.dt Sh.tm l)],PO.cells [PV.f (Lf.dt Sh.dat D),PV.f (Lf.dt Sh.srt S)]])).fin true (PV.tup [sV (ByteArray.mk #[]),iV (errE z1)]) [PO.cells [PV.bp 2 0],PO.cells [PV.f (Lf.v (Value.int IntKind.u8 k)),sV n,bV b,PV.f (Lf.lr d m),PV.f (Lf.dt Sh.tm l)],PO.cells [PV.f (Lf.dt Sh.dat D),PV.f (Lf.dt Sh.srt S)],PO.cells [sV (ByteArray.mk #[])],PO.cells [iV (errE z1)]])) ?kr ?_
   case kr=>kernel_rfl
   refine ⟨?s0,fun z1=>fun hz1=>Qaa.2 ⟨fun hb0=>?m0,fun hb0=>?m1⟩⟩
   case s0=>exact hfit
   case m0 =>
    obtain _ | s:=z1
    · cases hb0
    · exact endR hz1 (.refl _) rfl rfl rfl
   case m1 =>
    obtain e | _:=z1
    · exact endR hz1 (.refl _) rfl rfl rfl
    · cases hb0
 · cases hs
def QqX:Spec
 | [.f (.dt .dat D),.f (.dt .srt S),x]=>match tmOf x with
  | some t=>some (some t.fitT,.nm (Except Int ByteArray) (Qaq D S t) fun z=>.tup [sV (valE ⟨#[]⟩ z),iV (errE z)])
  | none=>none
 | _=>none
theorem cSort {E:Env} (hU:Up E):Contract Tryz.prog E 57 QqX:=by
 refine Qad [] [(73,QiX)] Tryz.ntmps57 Tryz.func57 (by kernel_rfl) (by kernel_rfl) hU trivial ⟨QrX hU,trivial⟩ ?_
 intro xs p r hs hp
 unfold QqX at hs
 split at hs
 · rename_i D S x
   split at hs
   · rename_i t ht
     cases hs
     refine ⟨[.f (.dt .dat D),.f (.dt .srt S),tmP t],[],.cons (.refl _) (.cons (.refl _) (.cons (QaM ht).sub .nil)),rfl,fun _ hsh=>?_⟩
     have hfit:=hp _ rfl
     refine Qab (p:=(Tw.mk t.kind t.name t.neg t.digits t.kids).fitT∧∀ (z1:Except Int ByteArray),z1=Qaq D S (Tw.mk t.kind t.name t.neg t.digits t.kids)→true=true∧Sub (PV.tup [sV (valE (ByteArray.mk #[]) z1),iV (errE z1)]) (PV.tup [sV (valE (ByteArray.mk #[]) (Qaq D S t)),iV (errE (Qaq D S t))])) ?kr ?_
     case kr=>kernel_rfl
     refine ⟨?s0,fun z1=>fun hz1=>⟨rfl,?m0⟩⟩
     all_goals try rw [Tw.eta] at *
     case s0=>exact hfit
     case m0=>subst hz1; exact .refl _
   · cases hs
 · cases hs
end Go.Proofs.YtdeacbdpmdfgdaaGreatDoor
