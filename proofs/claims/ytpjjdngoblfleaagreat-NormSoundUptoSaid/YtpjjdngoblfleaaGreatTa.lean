/- The layer term: errors, sorts that there are. -/
import Derived.Test.YtpjjdngoblfleaaGreatTp
namespace Go.Proofs.YtpjjdngoblfleaaGreat
open Go.RowKit
set_option linter.unusedVariables false
set_option maxRecDepth 100000
def iV (n:Int):PV:=.f (.v (.int .i64 n))
def bV (b:Bool):PV:=.f (.v (.bool b))
def sV (s:ByteArray):PV:=.f (.v (.string s))
def eP (e:Int):PV:=.ifc 45 (.f (.v (.int .i64 e)))
def outE {α:Type} (d:α) (pv:α→PV) (e:Except Int α) (ob:List PO):Out:=.nm (Except Int α) e fun y=>.br (okE y) (.ret (pv (valE d y)) ob) (.pan (eP (errE y)) ob)
theorem outE_ok {α:Type} {d:α} {pv:α→PV} {e:Except Int α} {ob:List PO} {x:α} (h:e=.ok x):(outE d pv e ob).fin=(true,pv x,ob):=by subst h; rfl
theorem outE_err {α:Type} {d:α} {pv:α→PV} {e:Except Int α} {ob:List PO} {x:Int} (h:e=.error x):(outE d pv e ob).fin=(false,eP x,ob):=by subst h; rfl
theorem not_t {b:Bool} (h:(!b)=true):b=false:=by simpa using h
theorem not_f {b:Bool} (h:(!b)=false):b=true:=by simpa using h
def sMust:Spec2
 | [.f (.v (.bool b)),.f (.v (.int .i64 e))],[]=>some (.br b (.ret (.tup []) []) (.pan (eP e) []))
 | _,_=>none
theorem cMust {E:Env} (hU:Up E):Contract2 Tryz.prog E 73 sMust:=by
 refine contract2 [] [] Tryz.ntmps73 Tryz.func73 (by kernel_rfl) (by kernel_rfl) hU trivial trivial ?_
 intro xs ob o hs hok
 unfold sMust at hs
 split at hs
 · rename_i b e
   cases hs
   refine ⟨[.f (.v (.bool b)),.f (.v (.int .i64 e))],[],.cons (.refl _) (.cons (.refl _) .nil),rfl,fun _ _=>?_⟩
   refine cast_rfl (p:=ifB (!b) (EndU 0 (Out.br b (Out.ret (PV.tup []) []) (Out.pan (eP e) [])).fin false (PV.ifc 45 (PV.f (Lf.v (Value.int IntKind.i64 e)))) []) (EndU 0 (Out.br b (Out.ret (PV.tup []) []) (Out.pan (eP e) [])).fin true (PV.tup []) [])) (by kernel_rfl) ?_
   refine ifB_iff.2 ⟨fun hb0=>?m0,fun hb0=>?m1⟩
   case m0=>rw [not_t hb0]; exact endU rfl (.refl _) rfl rfl (r:=[]) rfl
   case m1=>rw [not_f hb0]; exact endU rfl (.refl _) rfl rfl (r:=[]) rfl
 · cases hs
def sKids:Spec2
 | [.f (.v (.int .u8 k))],[]=>some (.nm Int (kidsN k) fun n=>.br (decide (n≠-2)) (.ret (iV n) []) (.pan (eP 23) []))
 | _,_=>none
theorem kids_fin {k n:Int} {x:PV} (hx:x=iV n) (h:kidsN k=n) (hn:n≠-2):EndU 0 (Out.nm Int (kidsN k) fun n=>.br (decide (n≠-2)) (.ret (iV n) []) (.pan (eP 23) [])).fin true x []:=by
 subst hx
 refine endU (y:=iV n) (ob:=[]) ?_ (.refl _) rfl rfl (r:=[]) rfl
 rw [h]
 show (match decide (n≠-2) with | true=>_ | false=>_)=_
 rw [decide_eq_true hn]; rfl
theorem kids_no {k:Int} {x:PV} (hx:x=eP 23) (h:kidsN k=-2):EndU 0 (Out.nm Int (kidsN k) fun n=>.br (decide (n≠-2)) (.ret (iV n) []) (.pan (eP 23) [])).fin false x []:=by
 subst hx
 refine endU (y:=eP 23) (ob:=[]) ?_ (.refl _) rfl rfl (r:=[]) rfl
 rw [h]
 rfl
theorem cKids {E:Env} (hU:Up E):Contract2 Tryz.prog E 72 sKids:=by
 refine contract2 [] [] Tryz.ntmps72 Tryz.func72 (by kernel_rfl) (by kernel_rfl) hU trivial trivial ?_
 intro xs ob o hs hok
 unfold sKids at hs
 split at hs
 · rename_i k
   cases hs
   refine ⟨[.f (.v (.int .u8 k))],[],.cons (.refl _) .nil,rfl,fun _ _=>?_⟩
   refine cast_rfl (p:=ifB (k==(1:Int)) (EndU 0 (Out.nm Int (kidsN k) fun (n:Int)=>Out.br (decide (n≠(-2:Int))) (Out.ret (iV n) []) (Out.pan (eP (23:Int)) [])).fin true (PV.f (Lf.v (Value.int IntKind.i64 (0:Int)))) []) (ifB (k==(2:Int)) (EndU 0 (Out.nm Int (kidsN k) fun (n:Int)=>Out.br (decide (n≠(-2:Int))) (Out.ret (iV n) []) (Out.pan (eP (23:Int)) [])).fin true (PV.f (Lf.v (Value.int IntKind.i64 (0:Int)))) []) (ifB (k==(3:Int)) (EndU 0 (Out.nm Int (kidsN k) fun (n:Int)=>Out.br (decide (n≠(-2:Int))) (Out.ret (iV n) []) (Out.pan (eP (23:Int)) [])).fin true (PV.f (Lf.v (Value.int IntKind.i64 (0:Int)))) []) (ifB (k==(4:Int)) (EndU 0 (Out.nm Int (kidsN k) fun (n:Int)=>Out.br (decide (n≠(-2:Int))) (Out.ret (iV n) []) (Out.pan (eP (23:Int)) [])).fin true (PV.f (Lf.v (Value.int IntKind.i64 (0:Int)))) []) (ifB (k==(6:Int)) (EndU 0 (Out.nm Int (kidsN k) fun (n:Int)=>Out.br (decide (n≠(-2:Int))) (Out.ret (iV n) []) (Out.pan (eP (23:Int)) [])).fin true (PV.f (Lf.v (Value.int IntKind.i64 (1:Int)))) []) (ifB (k==(7:Int)) (EndU 0 (Out.nm Int (kidsN k) fun (n:Int)=>Out.br (decide (n≠(-2:Int))) (Out.ret (iV n) []) (Out.pan (eP (23:Int)) [])).fin true (PV.f (Lf.v (Value.int IntKind.i64 (1:Int)))) []) (ifB (k==(10:Int)) (EndU 0 (Out.nm Int (kidsN k) fun (n:Int)=>Out.br (decide (n≠(-2:Int))) (Out.ret (iV n) []) (Out.pan (eP (23:Int)) [])).fin true (PV.f (Lf.v (Value.int IntKind.i64 (1:Int)))) []) (ifB (k==(8:Int)) (EndU 0 (Out.nm Int (kidsN k) fun (n:Int)=>Out.br (decide (n≠(-2:Int))) (Out.ret (iV n) []) (Out.pan (eP (23:Int)) [])).fin true (PV.f (Lf.v (Value.int IntKind.i64 (2:Int)))) []) (ifB (k==(9:Int)) (EndU 0 (Out.nm Int (kidsN k) fun (n:Int)=>Out.br (decide (n≠(-2:Int))) (Out.ret (iV n) []) (Out.pan (eP (23:Int)) [])).fin true (PV.f (Lf.v (Value.int IntKind.i64 (2:Int)))) []) (ifB (k==(13:Int)) (EndU 0 (Out.nm Int (kidsN k) fun (n:Int)=>Out.br (decide (n≠(-2:Int))) (Out.ret (iV n) []) (Out.pan (eP (23:Int)) [])).fin true (PV.f (Lf.v (Value.int IntKind.i64 (2:Int)))) []) (ifB (k==(5:Int)) (EndU 0 (Out.nm Int (kidsN k) fun (n:Int)=>Out.br (decide (n≠(-2:Int))) (Out.ret (iV n) []) (Out.pan (eP (23:Int)) [])).fin true (PV.f (Lf.v (Value.int IntKind.i64 (-1:Int)))) []) (ifB (k==(11:Int)) (EndU 0 (Out.nm Int (kidsN k) fun (n:Int)=>Out.br (decide (n≠(-2:Int))) (Out.ret (iV n) []) (Out.pan (eP (23:Int)) [])).fin true (PV.f (Lf.v (Value.int IntKind.i64 (-1:Int)))) []) (ifB (k==(12:Int)) (EndU 0 (Out.nm Int (kidsN k) fun (n:Int)=>Out.br (decide (n≠(-2:Int))) (Out.ret (iV n) []) (Out.pan (eP (23:Int)) [])).fin true (PV.f (Lf.v (Value.int IntKind.i64 (-1:Int)))) []) (EndU 0 (Out.nm Int (kidsN k) fun (n:Int)=>Out.br (decide (n≠(-2:Int))) (Out.ret (iV n) []) (Out.pan (eP (23:Int)) [])).fin false (PV.ifc 45 (PV.f (Lf.v (Value.int IntKind.i64 (23:Int))))) [])))))))))))))) (by kernel_rfl) ?_
   refine ifB_iff.2 ⟨fun hb0=>?m0,fun hb0=>ifB_iff.2 ⟨fun hb1=>?m1,fun hb1=>ifB_iff.2 ⟨fun hb2=>?m2,fun hb2=>ifB_iff.2 ⟨fun hb3=>?m3,fun hb3=>ifB_iff.2 ⟨fun hb4=>?m4,fun hb4=>ifB_iff.2 ⟨fun hb5=>?m5,fun hb5=>ifB_iff.2 ⟨fun hb6=>?m6,fun hb6=>ifB_iff.2 ⟨fun hb7=>?m7,fun hb7=>ifB_iff.2 ⟨fun hb8=>?m8,fun hb8=>ifB_iff.2 ⟨fun hb9=>?m9,fun hb9=>ifB_iff.2 ⟨fun hb10=>?m10,fun hb10=>ifB_iff.2 ⟨fun hb11=>?m11,fun hb11=>ifB_iff.2 ⟨fun hb12=>?m12,fun hb12=>?m13⟩⟩⟩⟩⟩⟩⟩⟩⟩⟩⟩⟩⟩
   all_goals simp only [beq_iff_eq,beq_eq_false_iff_ne] at *
   all_goals first
    | exact kids_fin (n:=0) rfl (by unfold kidsN; grind) (by decide)
    | exact kids_fin (n:=1) rfl (by unfold kidsN; grind) (by decide)
    | exact kids_fin (n:=2) rfl (by unfold kidsN; grind) (by decide)
    | exact kids_fin (n:=-1) rfl (by unfold kidsN; grind) (by decide)
    | exact kids_no rfl (by unfold kidsN; grind)
 · cases hs
theorem subB_b {n m:Bool} (h:n=m):SubB (bV n) (bV m):=by subst h; exact .refl _
theorem subB_i {n m:Int} (h:n=m):SubB (iV n) (iV m):=by subst h; exact .refl _
theorem short_row {s:Sh} {l:List s.T} (h:shortP (.f (.dt s l))):l.length≤9223372036854775807:=by
 have h':l.length≤maxLen:=h.1
 unfold maxLen at h'
 omega
theorem short_deep {s:Sh} {l:List s.T} (h:shortP (.f (.dt s l))) {i j:Nat} {s':Sh} {m:List s'.T} (hi:i<l.length) (hj:(s.cells (l.getD i s.nil))[j]?=some (.dt s' m)):m.length≤9223372036854775807:=by
 have h':m.length≤maxLen:=h.2 i hi j _ hj
 unfold maxLen at h'
 omega
theorem br_t {b:Bool} {x y:Out} (h:b=true):(Out.br b x y).fin=x.fin:=by subst h; rfl
theorem br_f {b:Bool} {x y:Out} (h:b=false):(Out.br b x y).fin=y.fin:=by subst h; rfl
def sAll:Spec2
 | [.f (.v (.string s)),.f (.dt .str l)],[]=>some (.br (allEq l s) (.ret (.tup []) []) (.pan (eP 23) []))
 | _,_=>none
theorem cAll {E:Env} (hU:Up E):Contract2 Tryz.prog E 75 sAll:=by
 refine contract2 [] [(73,sMust)] Tryz.ntmps75 Tryz.func75 (by kernel_rfl) (by kernel_rfl) hU trivial ⟨cMust hU,trivial⟩ ?_
 intro xs ob o hs hok
 unfold sAll at hs
 split at hs
 · rename_i s l
   cases hs
   refine ⟨[.f (.v (.string s)),.f (.dt .str l)],[(1,.s ⟨Nat,fun i=>⟨[(0,sV s),(6,.f (.dt .str l)),(7,iV l.length),(8,iV i)],[]⟩,fun i=>i≤l.length∧allEq (l.take i) s=true,fun i=>l.length - i⟩)],.cons (.refl _) (.cons (.refl _) .nil),rfl,fun _ hsh=>?_⟩
   have hl:=short_row hsh.2.1
   refine cast_rfl (p:=∃ (x1:Nat),(True∧SubB (PV.f (Lf.v (Value.string s))) (PV.f (Lf.v (Value.string s)))∧SubB (PV.f (Lf.dt Sh.str l)) (PV.f (Lf.dt Sh.str l))∧SubB (PV.f (Lf.v (Value.int IntKind.i64 (↑l.length:Int)))) (PV.f (Lf.v (Value.int IntKind.i64 (↑l.length:Int))))∧SubB (PV.f (Lf.v (Value.int IntKind.i64 (0:Int)))) (PV.f (Lf.v (Value.int IntKind.i64 (↑x1:Int))))∧True)∧(x1≤l.length∧allEq (List.take x1 l) s=true)∧True∧∀ (z2:Nat),z2≤l.length∧allEq (List.take z2 l) s=true→True→ifB (decide ((↑z2:Int)<(↑l.length:Int))) (((0:Int)≤(↑z2:Int)∧(↑z2:Int)<(↑l.length:Int))∧ifB (ByteArray.toList (l.getD (↑z2:Int).toNat Sh.str.nil)==s.toList) (∃ (x3:Nat),(True∧SubB (PV.f (Lf.v (Value.string s))) (PV.f (Lf.v (Value.string s)))∧SubB (PV.f (Lf.dt Sh.str l)) (PV.f (Lf.dt Sh.str l))∧SubB (PV.f (Lf.v (Value.int IntKind.i64 (↑l.length:Int)))) (PV.f (Lf.v (Value.int IntKind.i64 (↑l.length:Int))))∧SubB (PV.f (Lf.v (Value.int IntKind.i64 (IntKind.i64.wrap ((↑z2:Int)+(1:Int)))))) (PV.f (Lf.v (Value.int IntKind.i64 (↑x3:Int))))∧True)∧(x3≤l.length∧allEq (List.take x3 l) s=true)∧True∧(l.length - x3).succ.le (l.length - z2)) (EndU 0 (Out.br (allEq l s) (Out.ret (PV.tup []) []) (Out.pan (eP (23:Int)) [])).fin false (PV.ifc 45 (PV.f (Lf.v (Value.int IntKind.i64 (23:Int))))) [])) (EndU 0 (Out.br (allEq l s) (Out.ret (PV.tup []) []) (Out.pan (eP (23:Int)) [])).fin true (PV.tup []) [])) (by kernel_rfl) ?_
   refine ⟨?x0,⟨⟨trivial,⟨.refl _,⟨.refl _,⟨.refl _,⟨?m0,trivial⟩⟩⟩⟩⟩,⟨?s0,⟨trivial,fun z2=>fun hq0=>fun _=>ifB_iff.2 ⟨fun hb1=>⟨?s1,ifB_iff.2 ⟨fun hb2=>⟨?x1,⟨⟨trivial,⟨.refl _,⟨.refl _,⟨.refl _,⟨?m1,trivial⟩⟩⟩⟩⟩,⟨?s2,⟨trivial,?m2⟩⟩⟩⟩,fun hb2=>?m3⟩⟩,fun hb1=>?m4⟩⟩⟩⟩⟩
   case x0=>exact 0
   case x1=>exact z2+1
   all_goals try simp only [bs_l,decide_eq_true_eq,decide_eq_false_iff_not] at *
   case m0=>exact .refl _
   case s0=>exact ⟨Nat.zero_le _,rfl⟩
   case s1=>omega
   case m1=>exact subB_i (by rw [wJ _ (by omega) (by omega)]; omega)
   case s2=>exact ⟨by omega,by rw [allEq_snoc l s Sh.str.nil (by omega),hq0.2]; simpa using hb2⟩
   case m2 => have : l.length - (z2 + 1) < l.length - z2 := by omega
              exact this
   case m3 =>
    rw [br_f (allEq_not (l:=l) (i:=z2) (by omega) hb2)]
    exact endU rfl (.refl _) rfl rfl (r:=[]) rfl
   case m4 =>
    have e:l.take z2=l:=List.take_of_length_le (by omega)
    rw [br_t (by rw [← e]; exact hq0.2)]
    exact endU rfl (.refl _) rfl rfl (r:=[]) rfl
 · cases hs
def sDataF:Spec2
 | [.agg [.f (.v (.string n)),.f (.dt .con l)],.bp 0 0],[.cells [.f (.v (.string s))]]=>some (.ret (bV (decide (n=s))) [.cells [sV s]])
 | _,_=>none
theorem cDataF {E:Env} (hU:Up E):Contract2 Tryz.prog E 130 sDataF:=by
 refine contract2 [] [] Tryz.ntmps130 Tryz.func130 (by kernel_rfl) (by kernel_rfl) hU trivial trivial ?_
 intro xs ob o hs hok
 unfold sDataF at hs
 split at hs
 · rename_i n l s
   cases hs
   refine ⟨[.agg [.f (.v (.string n)),.f (.dt .con l)],.bp 0 0],[],.cons (.refl _) (.cons (.refl _) .nil),rfl,fun _ hsh=>?_⟩
   refine cast_rfl (p:=EndU 1 (Out.ret (bV (decide (n=s))) [PO.cells [sV s]]).fin true (PV.f (Lf.v (Value.bool (n.toList==s.toList)))) [PO.cells [PV.f (Lf.v (Value.string s))],PO.cells [PV.f (Lf.v (Value.string n)),PV.f (Lf.dt Sh.con l)]]) (by kernel_rfl) ?_
   refine ?m0
   case m0=>exact endU rfl (subB_b (bs_l n s)) rfl rfl (r:=[.cells [sV n,.f (.dt .con l)]]) rfl
 · cases hs
def anyD (D:List Dat) (s:ByteArray):Int:=anyB D fun d=>decide (d.name=s)
def sIndexD:Spec2
 | [.f (.dt .dat D),.fn f [] [.bp 0 0]],[.cells [.f (.v (.string s))]]=>match Nat.beq f 130 with
  | true=>some (.ret (iV (anyD D s)) [.cells [sV s]])
  | false=>none
 | _,_=>none
theorem cIndexD {E:Env} (hU:Up E):Contract2 Tryz.prog E 139 sIndexD:=by
 refine contract2 [] [(130,sDataF)] Tryz.ntmps139 Tryz.func139 (by kernel_rfl) (by kernel_rfl) hU trivial ⟨cDataF hU,trivial⟩ ?_
 intro xs ob o hs hok
 unfold sIndexD at hs
 split at hs
 · rename_i D f s
   split at hs
   · rename_i hf
     cases hs
     have hf:=Nat.eq_of_beq_eq_true hf
     subst hf
     refine ⟨[.f (.dt .dat D),.fn 130 [] [.bp 0 0]],[(2,.s ⟨Nat,fun i=>⟨[(0,.f (.dt .dat D)),(1,.fn 130 [] [.bp 0 0]),(7,iV D.length),(8,iV i)],[.cells [sV s]]⟩,fun i=>i≤D.length∧∀ k,k<i→¬ (Dat.name (D.getD k Sh.dat.nil)=s),fun i=>D.length - i⟩)],.cons (.refl _) (.cons (.refl _) .nil),rfl,fun _ hsh=>?_⟩
     have hl:=short_row hsh.1
     refine cast_rfl (p:=∃ (x1:Nat),(((SubB (PV.f (Lf.v (Value.string s))) (PV.f (Lf.v (Value.string s)))∧True)∧True)∧SubB (PV.f (Lf.dt Sh.dat D)) (PV.f (Lf.dt Sh.dat D))∧SubB (PV.fn 130 [] [PV.bp 0 0]) (PV.fn 130 [] [PV.bp 0 0])∧SubB (PV.f (Lf.v (Value.int IntKind.i64 (↑D.length:Int)))) (PV.f (Lf.v (Value.int IntKind.i64 (↑D.length:Int))))∧SubB (PV.f (Lf.v (Value.int IntKind.i64 (0:Int)))) (PV.f (Lf.v (Value.int IntKind.i64 (↑x1:Int))))∧True)∧(x1≤D.length∧∀ (k:Nat),k<x1→¬(D.getD k Sh.dat.nil).name=s)∧True∧∀ (z2:Nat),(z2≤D.length∧∀ (k:Nat),k<z2→¬(D.getD k Sh.dat.nil).name=s)→True→ifB (decide ((↑z2:Int)<(↑D.length:Int))) (((0:Int)≤(↑z2:Int)∧(↑z2:Int)<(↑D.length:Int))∧ifB (decide ((D.getD (↑z2:Int).toNat Sh.dat.nil).name=s)) (EndU 1 (Out.ret (iV (anyD D s)) [PO.cells [sV s]]).fin true (PV.f (Lf.v (Value.int IntKind.i64 (↑z2:Int)))) [PO.cells [PV.f (Lf.v (Value.string s))]]) (∃ (x3:Nat),(((SubB (PV.f (Lf.v (Value.string s))) (PV.f (Lf.v (Value.string s)))∧True)∧True)∧SubB (PV.f (Lf.dt Sh.dat D)) (PV.f (Lf.dt Sh.dat D))∧SubB (PV.fn 130 [] [PV.bp 0 0]) (PV.fn 130 [] [PV.bp 0 0])∧SubB (PV.f (Lf.v (Value.int IntKind.i64 (↑D.length:Int)))) (PV.f (Lf.v (Value.int IntKind.i64 (↑D.length:Int))))∧SubB (PV.f (Lf.v (Value.int IntKind.i64 (IntKind.i64.wrap ((↑z2:Int)+(1:Int)))))) (PV.f (Lf.v (Value.int IntKind.i64 (↑x3:Int))))∧True)∧(x3≤D.length∧∀ (k:Nat),k<x3→¬(D.getD k Sh.dat.nil).name=s)∧True∧(D.length - x3).succ.le (D.length - z2))) (EndU 1 (Out.ret (iV (anyD D s)) [PO.cells [sV s]]).fin true (PV.f (Lf.v (Value.int IntKind.i64 (-1:Int)))) [PO.cells [PV.f (Lf.v (Value.string s))]])) (by kernel_rfl) ?_
     refine ⟨?x0,⟨⟨⟨⟨.refl _,trivial⟩,trivial⟩,⟨.refl _,⟨.refl _,⟨.refl _,⟨?m0,trivial⟩⟩⟩⟩⟩,⟨?s0,⟨trivial,fun z2=>fun hq0=>fun _=>ifB_iff.2 ⟨fun hb1=>⟨?s1,ifB_iff.2 ⟨fun hb2=>?m1,fun hb2=>⟨?x1,⟨⟨⟨⟨.refl _,trivial⟩,trivial⟩,⟨.refl _,⟨.refl _,⟨.refl _,⟨?m2,trivial⟩⟩⟩⟩⟩,⟨?s2,⟨trivial,?m3⟩⟩⟩⟩⟩⟩,fun hb1=>?m4⟩⟩⟩⟩⟩
     case x0=>exact 0
     case x1=>exact z2+1
     all_goals try simp only [decide_eq_true_eq,decide_eq_false_iff_not] at *
     case m0=>exact .refl _
     case s0=>exact ⟨Nat.zero_le _,fun k hk=>by omega⟩
     case s1=>omega
     case m1=>exact endU rfl (subB_i (anyB_hit Sh.dat.nil (by omega) (by simpa using hb2) (fun k hk=>by simpa using hq0.2 k hk)).symm) rfl rfl (r:=[]) rfl
     case m2=>exact subB_i (by rw [wJ _ (by omega) (by omega)]; omega)
     case s2 =>
      refine ⟨by omega,fun k hk=>?_⟩
      by_cases hkz:k=z2
      · subst hkz; exact hb2
      · exact hq0.2 k (by omega)
     case m3 => have : D.length - (z2 + 1) < D.length - z2 := by omega
                exact this
     case m4=>exact endU rfl (subB_i (anyB_miss Sh.dat.nil fun k hk=>by simpa using hq0.2 k (by omega)).symm) rfl rfl (r:=[]) rfl
   · cases hs
 · cases hs
def sContD:Spec2
 | [.f (.dt .dat D),.fn f [] [.bp 0 0]],[.cells [.f (.v (.string s))]]=>match Nat.beq f 130 with
  | true=>some (.ret (bV (decide (0≤anyD D s))) [.cells [sV s]])
  | false=>none
 | _,_=>none
theorem cContD {E:Env} (hU:Up E):Contract2 Tryz.prog E 129 sContD:=by
 refine contract2 [] [(139,sIndexD)] Tryz.ntmps129 Tryz.func129 (by kernel_rfl) (by kernel_rfl) hU trivial ⟨cIndexD hU,trivial⟩ ?_
 intro xs ob o hs hok
 unfold sContD at hs
 split at hs
 · rename_i D f s
   split at hs
   · rename_i hf
     cases hs
     have hf:=Nat.eq_of_beq_eq_true hf
     subst hf
     refine ⟨[.f (.dt .dat D),.fn 130 [] [.bp 0 0]],[],.cons (.refl _) (.cons (.refl _) .nil),rfl,fun _ hsh=>?_⟩
     refine cast_rfl (p:=EndU 1 (Out.ret (bV (decide ((0:Int)≤anyD D s))) [PO.cells [sV s]]).fin true (PV.f (Lf.v (Value.bool (decide (anyD D s ≥ (0:Int)))))) [PO.cells [PV.f (Lf.v (Value.string s))]]) (by kernel_rfl) ?_
     refine ?m0
     case m0=>exact endU rfl (.refl _) rfl rfl (r:=[]) rfl
   · cases hs
 · cases hs
def soO (D:List Dat) (S:List Srt):List PO:=[.cells [.f (.dt .dat D),.f (.dt .srt S)]]
def sData:Spec2
 | [.bp 0 0,.f (.v (.string s))],[.cells [.f (.dt .dat D),.f (.dt .srt S)]]=>some (.ret (bV (dataB D s)) (soO D S))
 | _,_=>none
theorem cData {E:Env} (hU:Up E):Contract2 Tryz.prog E 114 sData:=by
 refine contract2 [] [(129,sContD)] Tryz.ntmps114 Tryz.func114 (by kernel_rfl) (by kernel_rfl) hU trivial ⟨cContD hU,trivial⟩ ?_
 intro xs ob o hs hok
 unfold sData at hs
 split at hs
 · rename_i s D S
   cases hs
   refine ⟨[.bp 0 0,.f (.v (.string s))],[],.cons (.refl _) (.cons (.refl _) .nil),rfl,fun _ hsh=>?_⟩
   refine cast_rfl (p:=ifB (!s.toList==(ByteArray.mk #[(105:UInt8),(110:UInt8),(116:UInt8)]).toList) (ifB (!s.toList==(ByteArray.mk #[(98:UInt8),(111:UInt8),(111:UInt8),(108:UInt8)]).toList) (EndU 1 (Out.ret (bV (dataB D s)) (soO D S)).fin true (PV.f (Lf.v (Value.bool (decide ((0:Int)≤anyD D s))))) [PO.cells [PV.f (Lf.dt Sh.dat D),PV.f (Lf.dt Sh.srt S)],PO.cells [PV.f (Lf.v (Value.string s))]]) (EndU 1 (Out.ret (bV (dataB D s)) (soO D S)).fin true (PV.f (Lf.v (Value.bool false))) [PO.cells [PV.f (Lf.dt Sh.dat D),PV.f (Lf.dt Sh.srt S)],PO.cells [PV.f (Lf.v (Value.string s))]])) (EndU 1 (Out.ret (bV (dataB D s)) (soO D S)).fin true (PV.f (Lf.v (Value.bool false))) [PO.cells [PV.f (Lf.dt Sh.dat D),PV.f (Lf.dt Sh.srt S)],PO.cells [PV.f (Lf.v (Value.string s))]])) (by kernel_rfl) ?_
   refine ifB_iff.2 ⟨fun hb0=>ifB_iff.2 ⟨fun hb1=>?m0,fun hb1=>?m1⟩,fun hb0=>?m2⟩
   all_goals refine endU rfl (subB_b ?_) rfl rfl (r:=_) rfl
   all_goals simp only [bs_l,dataB,anyD] at *
   all_goals simp_all [bInt,bBool]
   all_goals rfl
 · cases hs
def sBase:Spec2
 | [.bp 0 0,.f (.v (.string s))],[.cells [.f (.dt .dat D),.f (.dt .srt S)]]=>some (.ret (bV (baseB D s)) (soO D S))
 | _,_=>none
theorem cBase {E:Env} (hU:Up E):Contract2 Tryz.prog E 112 sBase:=by
 refine contract2 [] [(114,sData)] Tryz.ntmps112 Tryz.func112 (by kernel_rfl) (by kernel_rfl) hU trivial ⟨cData hU,trivial⟩ ?_
 intro xs ob o hs hok
 unfold sBase at hs
 split at hs
 · rename_i s D S
   cases hs
   refine ⟨[.bp 0 0,.f (.v (.string s))],[],.cons (.refl _) (.cons (.refl _) .nil),rfl,fun _ hsh=>?_⟩
   refine cast_rfl (p:=ifB (s.toList==(ByteArray.mk #[(105:UInt8),(110:UInt8),(116:UInt8)]).toList) (EndU 1 (Out.ret (bV (baseB D s)) (soO D S)).fin true (PV.f (Lf.v (Value.bool true))) [PO.cells [PV.f (Lf.dt Sh.dat D),PV.f (Lf.dt Sh.srt S)]]) (ifB (s.toList==(ByteArray.mk #[(98:UInt8),(111:UInt8),(111:UInt8),(108:UInt8)]).toList) (EndU 1 (Out.ret (bV (baseB D s)) (soO D S)).fin true (PV.f (Lf.v (Value.bool true))) [PO.cells [PV.f (Lf.dt Sh.dat D),PV.f (Lf.dt Sh.srt S)]]) (EndU 1 (Out.ret (bV (baseB D s)) (soO D S)).fin true (PV.f (Lf.v (Value.bool (dataB D s)))) [PO.cells [PV.f (Lf.dt Sh.dat D),PV.f (Lf.dt Sh.srt S)]]))) (by kernel_rfl) ?_
   refine ifB_iff.2 ⟨fun hb0=>?m0,fun hb0=>ifB_iff.2 ⟨fun hb1=>?m1,fun hb1=>?m2⟩⟩
   all_goals refine endU rfl (subB_b ?_) rfl rfl (r:=[]) rfl
   all_goals simp only [bs_l,baseB] at *
   all_goals simp_all [bInt,bBool]
 · cases hs
end Go.Proofs.YtpjjdngoblfleaaGreat
