/- The layer term: Sort, told or the error. -/
import Derived.Test.YtdeacbdpmdfgdaaDoorTp
import Derived.Test.YtdeacbdpmdfgdaaDoorVc
set_option linter.unusedSimpArgs false
namespace Go.Proofs.YtdeacbdpmdfgdaaDoor
open Go.RowKit
set_option linter.unusedVariables false
set_option maxRecDepth 100000
def iV (n:Int):PV:=.f (.v (.int .i64 n))
def bV (b:Bool):PV:=.f (.v (.bool b))
def sV (s:ByteArray):PV:=.f (.v (.string s))
def eP (e:Int):PV:=.ifc 35 (.f (.v (.int .i64 e)))
def outE {α:Type} (d:α) (pv:α→PV) (e:Except Int α) (ob:List PO):Out:=.nm (Except Int α) e fun y=>.br (okE y) (.ret (pv (valE d y)) ob) (.pan (eP (errE y)) ob)
theorem outE_ok {α:Type} {d:α} {pv:α→PV} {e:Except Int α} {ob:List PO} {x:α} (h:e=.ok x):(outE d pv e ob).fin=(true,pv x,ob):=by subst h; rfl
theorem outE_err {α:Type} {d:α} {pv:α→PV} {e:Except Int α} {ob:List PO} {x:Int} (h:e=.error x):(outE d pv e ob).fin=(false,eP x,ob):=by subst h; rfl
theorem not_t {b:Bool} (h:(!b)=true):b=false:=by simpa using h
theorem not_f {b:Bool} (h:(!b)=false):b=true:=by simpa using h
def sMust:Spec2
 | [.f (.v (.bool b)),.f (.v (.int .i64 e))],[]=>some (.br b (.ret (.tup []) []) (.pan (eP e) []))
 | _,_=>none
theorem cMust {E:Env} (hU:Up E):Contract2 Tryd.prog E 44 sMust:=by
 refine contract2 [] [] Tryd.ntmps44 Tryd.func44 (by kernel_rfl) (by kernel_rfl) hU trivial trivial ?_
 intro xs ob o hs hok
 unfold sMust at hs
 split at hs
 · rename_i b e
   cases hs
   refine ⟨[.f (.v (.bool b)),.f (.v (.int .i64 e))],[],.cons (.refl _) (.cons (.refl _) .nil),rfl,fun _ _=>?_⟩
   refine cast_rfl (p:=ifB (!b) (EndU 0 (Out.br b (Out.ret (PV.tup []) []) (Out.pan (eP e) [])).fin false (PV.ifc 35 (PV.f (Lf.v (Value.int IntKind.i64 e)))) []) (EndU 0 (Out.br b (Out.ret (PV.tup []) []) (Out.pan (eP e) [])).fin true (PV.tup []) [])) (by kernel_rfl) ?_
   refine ifB_iff.2 ⟨fun hb0=>?m0,fun hb0=>?m1⟩
   case m0=>rw [not_t hb0]; exact endU rfl (.refl _) rfl rfl (r:=[]) rfl
   case m1=>rw [not_f hb0]; exact endU rfl (.refl _) rfl rfl (r:=[]) rfl
 · cases hs
theorem subB_b {n m:Bool} (h:n=m):SubB (bV n) (bV m):=by subst h; exact .refl _
theorem subB_i {n m:Int} (h:n=m):SubB (iV n) (iV m):=by subst h; exact .refl _
theorem short_row {s:Sh} {l:List s.T} (h:shortP (.f (.dt s l))):l.length≤9223372036854775807:=by
 have h':l.length≤maxLen:=h.1
 unfold maxLen at h'
 omega
theorem short_deep {s:Sh} {l:List s.T} (h:shortP (.f (.dt s l))) {i j:Nat} {s':Sh} {m:List s'.T} (hi:i<l.length) (hj:(s.cells (l.getD i s.nil))[j]?=some (.dt s' m)):m.length≤9223372036854775807:=by
 have h':m.length≤maxLen:=h.2 i hi j _ hj
 unfold maxLen at h'
 omega
theorem br_t {b:Bool} {x y:Out} (h:b=true):(Out.br b x y).fin=x.fin:=by subst h; rfl
theorem br_f {b:Bool} {x y:Out} (h:b=false):(Out.br b x y).fin=y.fin:=by subst h; rfl
end Go.Proofs.YtdeacbdpmdfgdaaDoor
namespace Go.Proofs.YtdeacbdpmdfgdaaDoor
open Go.RowKit
set_option linter.unusedVariables false
set_option maxRecDepth 100000
def frR:Option (ByteArray × ByteArray)→ByteArray
 | some (a,_)=>a
 | none=>⟨#[]⟩
def toR:Option (ByteArray × ByteArray)→ByteArray
 | some (_,b)=>b
 | none=>⟨#[]⟩
def funP (r:Option (ByteArray × ByteArray)):PV:=.tup [sV (frR r),sV (toR r),bV r.isSome]
def sFun:Spec
 | [.f (.dt .dat D),.f (.v (.string s))]=>some (some (s.size≤4611686018427387904),.nm (Option (ByteArray × ByteArray)) (funD D s) funP)
 | _=>none
theorem w8 (n:Int) (h1:0≤n) (h2:n≤255):IntKind.u8.wrap n=n:=by
 have:IntKind.u8.wrap n=n % 256:=by simp [IntKind.wrap,IntKind.bits,IntKind.signed]
 rw [this]; omega
theorem funD_conD {D:List Dat} {s:ByteArray} (h0:¬ s=bTag) (h1:2≤s.size) (h2:¬ (byN s (s.size - 2)≠46∨byN s (s.size - 1)<48∨57<byN s (s.size - 1))):funD D s=match conD D (s.extract 0 (s.size - 2)) with
  | some (d,c)=>if byN s (s.size - 1) - 48<c.fields.length then some (d,c.fields.getD (byN s (s.size - 1) - 48) ⟨#[]⟩) else none
  | none=>none:=by
 unfold funD
 rw [if_neg h0,if_neg (by omega),if_neg h2]
 generalize conD D (s.extract 0 (s.size - 2))=x
 cases x <;> rfl
theorem cFun {E:Env} (hU:Up E):Contract Tryd.prog E 38 sFun:=by
 refine contract_D [] [] Tryd.ntmps38 Tryd.func38 (by kernel_rfl) (by kernel_rfl) hU trivial trivial ?_
 intro xs p r hs hp
 unfold sFun at hs
 split at hs
 · rename_i D s
   cases hs
   refine ⟨[.f (.dt .dat D),.f (.v (.string s))],[(7,.s ⟨Nat,fun i=>⟨[(1,sV s),(7,iV (s.size - 2)),(40,.f (.dt .dat D)),(41,iV D.length),(42,iV i)],[]⟩,fun i=>i≤D.length∧conD (D.drop i) (s.extract 0 (s.size - 2))=conD D (s.extract 0 (s.size - 2)),fun i=>D.length - i⟩),
    (10,⟨Nat × Nat,fun x=>⟨[(1,sV s),(7,iV (s.size - 2)),(40,.f (.dt .dat D)),(41,iV D.length),(42,iV x.1),(9,.bp 0 0),(47,.f (.dt .con (Dat.cons (D.getD x.1 Sh.dat.nil)))),(48,iV (Dat.cons (D.getD x.1 Sh.dat.nil)).length),(49,iV x.2)],[.cells [sV (Dat.name (D.getD x.1 Sh.dat.nil)),.f (.dt .con (Dat.cons (D.getD x.1 Sh.dat.nil)))]]⟩,
     fun x=>x.1<D.length∧x.2≤(Dat.cons (D.getD x.1 Sh.dat.nil)).length∧conD (⟨Dat.name (D.getD x.1 Sh.dat.nil),(Dat.cons (D.getD x.1 Sh.dat.nil)).drop x.2⟩::D.drop (x.1+1)) (s.extract 0 (s.size - 2))=conD D (s.extract 0 (s.size - 2)),fun x=>(Dat.cons (D.getD x.1 Sh.dat.nil)).length - x.2,fun x y=>x.1=y.1⟩)],
    .cons (.refl _) (.cons (.refl _) .nil),rfl,fun _ hsh=>?_⟩
   have hl:=short_row hsh.1
   have hsz:=hp _ rfl
   have e1:IntKind.i64.wrap ((s.size:Int) - 2)=(s.size:Int) - 2:=wJ _ (by omega) (by omega)
   have e2:IntKind.i64.wrap ((s.size:Int) - 2+1)=(s.size:Int) - 1:=by rw [wJ _ (by omega) (by omega)]; omega
   have e3:((s.size:Int) - 2).toNat=s.size - 2:=by omega
   have e4:((s.size:Int) - 1).toNat=s.size - 1:=by omega
   have eb:∀ i,(s.data.toList.getD i 0).toNat=byN s i:=fun i=>rfl
   have fno:funD D s=none→∀ x,x=PV.tup [sV ⟨#[]⟩,sV ⟨#[]⟩,bV false]→Sub x (funP (funD D s)):=fun h x hx=>by rw [h,hx]; exact .refl _
   refine cast_rfl (p:=ifB (s.toList==(ByteArray.mk #[(116:UInt8),(97:UInt8),(103:UInt8)]).toList) (true=true∧Sub (PV.tup [sV (ByteArray.mk #[]),sV (ByteArray.mk #[(105:UInt8),(110:UInt8),(116:UInt8)]),bV true]) (PV.tup [sV (frR (funD D s)),sV (toR (funD D s)),bV ((funD D s).isSome)])) (ifB (decide (IntKind.i64.wrap ((↑s.size:Int) - (2:Int))<(0:Int))) (true=true∧Sub (PV.tup [sV (ByteArray.mk #[]),sV (ByteArray.mk #[]),bV false]) (PV.tup [sV (frR (funD D s)),sV (toR (funD D s)),bV ((funD D s).isSome)])) (((0:Int)≤IntKind.i64.wrap ((↑s.size:Int) - (2:Int))∧IntKind.i64.wrap ((↑s.size:Int) - (2:Int))<(↑s.size:Int))∧ifB ((↑(s.data.toList.getD (IntKind.i64.wrap ((↑s.size:Int) - (2:Int))).toNat (0:UInt8)).toNat:Int) != (46:Int)) (true=true∧Sub (PV.tup [sV (ByteArray.mk #[]),sV (ByteArray.mk #[]),bV false]) (PV.tup [sV (frR (funD D s)),sV (toR (funD D s)),bV ((funD D s).isSome)])) (((0:Int)≤IntKind.i64.wrap (IntKind.i64.wrap ((↑s.size:Int) - (2:Int))+(1:Int))∧IntKind.i64.wrap (IntKind.i64.wrap ((↑s.size:Int) - (2:Int))+(1:Int))<(↑s.size:Int))∧ifB (decide ((↑(s.data.toList.getD (IntKind.i64.wrap (IntKind.i64.wrap ((↑s.size:Int) - (2:Int))+(1:Int))).toNat (0:UInt8)).toNat:Int)<(48:Int))) (true=true∧Sub (PV.tup [sV (ByteArray.mk #[]),sV (ByteArray.mk #[]),bV false]) (PV.tup [sV (frR (funD D s)),sV (toR (funD D s)),bV ((funD D s).isSome)])) (((0:Int)≤IntKind.i64.wrap (IntKind.i64.wrap ((↑s.size:Int) - (2:Int))+(1:Int))∧IntKind.i64.wrap (IntKind.i64.wrap ((↑s.size:Int) - (2:Int))+(1:Int))<(↑s.size:Int))∧ifB (decide ((↑(s.data.toList.getD (IntKind.i64.wrap (IntKind.i64.wrap ((↑s.size:Int) - (2:Int))+(1:Int))).toNat (0:UInt8)).toNat:Int) > (57:Int))) (true=true∧Sub (PV.tup [sV (ByteArray.mk #[]),sV (ByteArray.mk #[]),bV false]) (PV.tup [sV (frR (funD D s)),sV (toR (funD D s)),bV ((funD D s).isSome)])) (∃ (x1:Nat),(True∧SubB (sV s) (sV s)∧SubB (iV (IntKind.i64.wrap ((↑s.size:Int) - (2:Int)))) (iV ((↑s.size:Int) - (2:Int)))∧SubB (PV.f (Lf.dt Sh.dat D)) (PV.f (Lf.dt Sh.dat D))∧SubB (iV (↑D.length:Int)) (iV (↑D.length:Int))∧SubB (iV 0) (iV (↑x1:Int))∧True)∧(x1≤D.length∧conD (List.drop x1 D) (s.extract 0 (s.size - 2))=conD D (s.extract 0 (s.size - 2)))∧True∧∀ (z2:Nat),z2≤D.length∧conD (List.drop z2 D) (s.extract 0 (s.size - 2))=conD D (s.extract 0 (s.size - 2))→True→ifB (decide ((↑z2:Int)<(↑D.length:Int))) (((0:Int)≤(↑z2:Int)∧(↑z2:Int)<(↑D.length:Int))∧∃ (x3:Nat × Nat),(((SubB (sV ((D.getD (↑z2:Int).toNat Sh.dat.nil).name)) (sV ((D.getD x3.fst Sh.dat.nil).name))∧SubB (PV.f (Lf.dt Sh.con (D.getD (↑z2:Int).toNat Sh.dat.nil).cons)) (PV.f (Lf.dt Sh.con (D.getD x3.fst Sh.dat.nil).cons))∧True)∧True)∧SubB (sV s) (sV s)∧SubB (iV ((↑s.size:Int) - (2:Int))) (iV ((↑s.size:Int) - (2:Int)))∧SubB (PV.f (Lf.dt Sh.dat D)) (PV.f (Lf.dt Sh.dat D))∧SubB (iV (↑D.length:Int)) (iV (↑D.length:Int))∧SubB (iV (↑z2:Int)) (iV (↑x3.fst:Int))∧SubB (PV.bp 0 0) (PV.bp 0 0)∧SubB (PV.f (Lf.dt Sh.con (D.getD (↑z2:Int).toNat Sh.dat.nil).cons)) (PV.f (Lf.dt Sh.con (D.getD x3.fst Sh.dat.nil).cons))∧SubB (iV (↑(D.getD (↑z2:Int).toNat Sh.dat.nil).cons.length:Int)) (iV (↑(D.getD x3.fst Sh.dat.nil).cons.length:Int))∧SubB (iV 0) (iV (↑x3.snd:Int))∧True)∧(x3.fst<D.length∧x3.snd≤(D.getD x3.fst Sh.dat.nil).cons.length∧conD (Dat.mk (D.getD x3.fst Sh.dat.nil).name (List.drop x3.snd (D.getD x3.fst Sh.dat.nil).cons)::List.drop (x3.fst+1) D) (s.extract 0 (s.size - 2))=conD D (s.extract 0 (s.size - 2)))∧x3.fst=x3.fst∧∀ (z4:Nat × Nat),z4.fst<D.length∧z4.snd≤(D.getD z4.fst Sh.dat.nil).cons.length∧conD (Dat.mk (D.getD z4.fst Sh.dat.nil).name (List.drop z4.snd (D.getD z4.fst Sh.dat.nil).cons)::List.drop (z4.fst+1) D) (s.extract 0 (s.size - 2))=conD D (s.extract 0 (s.size - 2))→x3.fst=z4.fst→ifB (decide ((↑z4.snd:Int)<(↑(D.getD z4.fst Sh.dat.nil).cons.length:Int))) (((0:Int)≤(↑z4.snd:Int)∧(↑z4.snd:Int)<(↑(D.getD z4.fst Sh.dat.nil).cons.length:Int))∧((0:Int)≤(0:Int)∧(0:Int)≤(↑s.size:Int) - (2:Int)∧(↑s.size:Int) - (2:Int)≤(↑s.size:Int))∧ifB (!((D.getD z4.fst Sh.dat.nil).cons.getD (↑z4.snd:Int).toNat Sh.con.nil).name.toList==(s.extract (Int.toNat (0:Int)) ((↑s.size:Int) - (2:Int)).toNat).toList) (∃ (x5:Nat × Nat),(((SubB (sV ((D.getD z4.fst Sh.dat.nil).name)) (sV ((D.getD x5.fst Sh.dat.nil).name))∧SubB (PV.f (Lf.dt Sh.con (D.getD z4.fst Sh.dat.nil).cons)) (PV.f (Lf.dt Sh.con (D.getD x5.fst Sh.dat.nil).cons))∧True)∧True)∧SubB (sV s) (sV s)∧SubB (iV ((↑s.size:Int) - (2:Int))) (iV ((↑s.size:Int) - (2:Int)))∧SubB (PV.f (Lf.dt Sh.dat D)) (PV.f (Lf.dt Sh.dat D))∧SubB (iV (↑D.length:Int)) (iV (↑D.length:Int))∧SubB (iV (↑z4.fst:Int)) (iV (↑x5.fst:Int))∧SubB (PV.bp 0 0) (PV.bp 0 0)∧SubB (PV.f (Lf.dt Sh.con (D.getD z4.fst Sh.dat.nil).cons)) (PV.f (Lf.dt Sh.con (D.getD x5.fst Sh.dat.nil).cons))∧SubB (iV (↑(D.getD z4.fst Sh.dat.nil).cons.length:Int)) (iV (↑(D.getD x5.fst Sh.dat.nil).cons.length:Int))∧SubB (iV (IntKind.i64.wrap ((↑z4.snd:Int)+(1:Int)))) (iV (↑x5.snd:Int))∧True)∧(x5.fst<D.length∧x5.snd≤(D.getD x5.fst Sh.dat.nil).cons.length∧conD (Dat.mk (D.getD x5.fst Sh.dat.nil).name (List.drop x5.snd (D.getD x5.fst Sh.dat.nil).cons)::List.drop (x5.fst+1) D) (s.extract 0 (s.size - 2))=conD D (s.extract 0 (s.size - 2)))∧x3.fst=x5.fst∧((D.getD x5.fst Sh.dat.nil).cons.length - x5.snd).succ.le ((D.getD z4.fst Sh.dat.nil).cons.length - z4.snd)) (((0:Int)≤IntKind.i64.wrap ((↑s.size:Int) - (2:Int)+(1:Int))∧IntKind.i64.wrap ((↑s.size:Int) - (2:Int)+(1:Int))<(↑s.size:Int))∧ifB (decide (IntKind.i64.wrap (IntKind.u8.wrap ((↑(s.data.toList.getD (IntKind.i64.wrap ((↑s.size:Int) - (2:Int)+(1:Int))).toNat (0:UInt8)).toNat:Int) - (48:Int)))<(↑((D.getD z4.fst Sh.dat.nil).cons.getD (↑z4.snd:Int).toNat Sh.con.nil).fields.length:Int))) (((0:Int)≤IntKind.i64.wrap (IntKind.u8.wrap ((↑(s.data.toList.getD (IntKind.i64.wrap ((↑s.size:Int) - (2:Int)+(1:Int))).toNat (0:UInt8)).toNat:Int) - (48:Int)))∧IntKind.i64.wrap (IntKind.u8.wrap ((↑(s.data.toList.getD (IntKind.i64.wrap ((↑s.size:Int) - (2:Int)+(1:Int))).toNat (0:UInt8)).toNat:Int) - (48:Int)))<(↑((D.getD z4.fst Sh.dat.nil).cons.getD (↑z4.snd:Int).toNat Sh.con.nil).fields.length:Int))∧true=true∧Sub (PV.tup [sV ((D.getD z4.fst Sh.dat.nil).name),sV (((D.getD z4.fst Sh.dat.nil).cons.getD (↑z4.snd:Int).toNat Sh.con.nil).fields.getD (IntKind.i64.wrap (IntKind.u8.wrap ((↑(s.data.toList.getD (IntKind.i64.wrap ((↑s.size:Int) - (2:Int)+(1:Int))).toNat (0:UInt8)).toNat:Int) - (48:Int)))).toNat Sh.str.nil),bV true]) (PV.tup [sV (frR (funD D s)),sV (toR (funD D s)),bV ((funD D s).isSome)])) (true=true∧Sub (PV.tup [sV (ByteArray.mk #[]),sV (ByteArray.mk #[]),bV false]) (PV.tup [sV (frR (funD D s)),sV (toR (funD D s)),bV ((funD D s).isSome)])))) (∃ (x5:Nat),(True∧SubB (sV s) (sV s)∧SubB (iV ((↑s.size:Int) - (2:Int))) (iV ((↑s.size:Int) - (2:Int)))∧SubB (PV.f (Lf.dt Sh.dat D)) (PV.f (Lf.dt Sh.dat D))∧SubB (iV (↑D.length:Int)) (iV (↑D.length:Int))∧SubB (iV (IntKind.i64.wrap ((↑z4.fst:Int)+(1:Int)))) (iV (↑x5:Int))∧True)∧(x5≤D.length∧conD (List.drop x5 D) (s.extract 0 (s.size - 2))=conD D (s.extract 0 (s.size - 2)))∧True∧(D.length - x5).succ.le (D.length - z2))) (true=true∧Sub (PV.tup [sV (ByteArray.mk #[]),sV (ByteArray.mk #[]),bV false]) (PV.tup [sV (frR (funD D s)),sV (toR (funD D s)),bV ((funD D s).isSome)])))))))) (by kernel_rfl) ?_
   refine ifB_iff.2 ⟨fun hb0=>⟨rfl,?m0⟩,fun hb0=>ifB_iff.2 ⟨fun hb1=>⟨rfl,?m1⟩,fun hb1=>⟨?s0,ifB_iff.2 ⟨fun hb2=>⟨rfl,?m2⟩,fun hb2=>⟨?s1,ifB_iff.2 ⟨fun hb3=>⟨rfl,?m3⟩,fun hb3=>⟨?s2,ifB_iff.2 ⟨fun hb4=>⟨rfl,?m4⟩,fun hb4=>⟨?x0,⟨⟨trivial,⟨.refl _,⟨?m5,⟨.refl _,⟨.refl _,⟨?m6,trivial⟩⟩⟩⟩⟩⟩,⟨?s3,⟨trivial,fun z2=>fun hq5=>fun _=>ifB_iff.2 ⟨fun hb6=>⟨?s4,⟨?x1,⟨⟨⟨⟨?m7,⟨?m8,trivial⟩⟩,trivial⟩,⟨.refl _,⟨.refl _,⟨.refl _,⟨.refl _,⟨?m9,⟨.refl _,⟨?m10,⟨?m11,⟨?m12,trivial⟩⟩⟩⟩⟩⟩⟩⟩⟩⟩,⟨?s5,⟨rfl,fun z4=>fun hq7=>fun hq8=>ifB_iff.2 ⟨fun hb9=>⟨?s6,⟨?s7,ifB_iff.2 ⟨fun hb10=>⟨?x2,⟨⟨⟨⟨?m13,⟨?m14,trivial⟩⟩,trivial⟩,⟨.refl _,⟨.refl _,⟨.refl _,⟨.refl _,⟨?m15,⟨.refl _,⟨?m16,⟨?m17,⟨?m18,trivial⟩⟩⟩⟩⟩⟩⟩⟩⟩⟩,⟨?s8,⟨?s9,?m19⟩⟩⟩⟩,fun hb10=>⟨?s10,ifB_iff.2 ⟨fun hb11=>⟨?s11,⟨rfl,?m20⟩⟩,fun hb11=>⟨rfl,?m21⟩⟩⟩⟩⟩⟩,fun hb9=>⟨?x3,⟨⟨trivial,⟨.refl _,⟨.refl _,⟨.refl _,⟨.refl _,⟨?m22,trivial⟩⟩⟩⟩⟩⟩,⟨?s12,⟨trivial,?m23⟩⟩⟩⟩⟩⟩⟩⟩⟩⟩,fun hb6=>⟨rfl,?m24⟩⟩⟩⟩⟩⟩⟩⟩⟩⟩⟩⟩⟩⟩
   case x0=>exact 0
   case x1=>exact (z2,0)
   case x2=>exact (z4.1,z4.2+1)
   case x3=>exact z2+1
   all_goals try simp only [bs_l,Bool.not_eq_true',Bool.not_eq_false',decide_eq_true_eq,decide_eq_false_iff_not] at *
   all_goals try simp only [e1] at *
   all_goals try simp only [e2] at *
   all_goals try simp only [e3,e4,eb,Int.toNat_natCast,bne_iff_ne,ne_eq,bne_eq_false_iff_eq,Int.toNat_zero] at *
   case m0 =>
    have hf:funD D s=some (⟨#[]⟩,bInt):=by unfold funD; exact if_pos hb0
    show Sub _ (funP (funD D s))
    rw [hf]; exact .refl _
   case m1=>exact fno (by unfold funD; rw [if_neg (show ¬ s=bTag from hb0),if_pos (by omega)]) _ rfl
   case s0=>omega
   case m2=>exact fno (by unfold funD; rw [if_neg (show ¬ s=bTag from hb0),if_neg (by omega),if_pos (by omega)]) _ rfl
   case s1=>omega
   case m3=>exact fno (by unfold funD; rw [if_neg (show ¬ s=bTag from hb0),if_neg (by omega),if_pos (by omega)]) _ rfl
   case s2=>omega
   case m4=>exact fno (by unfold funD; rw [if_neg (show ¬ s=bTag from hb0),if_neg (by omega),if_pos (by omega)]) _ rfl
   case s3=>exact ⟨Nat.zero_le _,rfl⟩
   case s4=>omega
   case s5 =>
    have hz:z2<D.length:=by omega
    refine ⟨hz,Nat.zero_le _,?_⟩
    rw [List.drop_zero,← hq5.2,drop_at D Sh.dat.nil hz]
   case s6=>omega
   case s7=>omega
   case m18 =>
    have hc:=short_deep (j:=1) (s':=.con) hsh.1 hq7.1 rfl
    exact subB_i (by rw [wJ _ (by omega) (by omega)]; omega)
   case s8 =>
    have hk:z4.2<(Dat.cons (D.getD z4.1 Sh.dat.nil)).length:=by omega
    refine ⟨hq7.1,hk,?_⟩
    rw [← hq7.2.2,drop_at (Dat.cons (D.getD z4.1 Sh.dat.nil)) Sh.con.nil hk,conD_step,if_neg hb10]
   case s9=>exact hq8
   case m19 =>
    have:(Dat.cons (D.getD z4.1 Sh.dat.nil)).length - (z4.2+1)<(Dat.cons (D.getD z4.1 Sh.dat.nil)).length - z4.2:=by omega
    exact this
   case s10=>omega
   case s11=>exact ⟨by rw [w8 _ (by omega) (by omega),wJ _ (by omega) (by omega)]; omega,hb11⟩
   case m20 =>
    have hk:z4.2<(Dat.cons (D.getD z4.1 Sh.dat.nil)).length:=by omega
    have hc:=hq7.2.2
    rw [drop_at _ Sh.con.nil hk,conD_step,if_pos hb10] at hc
    have ed:IntKind.i64.wrap (IntKind.u8.wrap ((byN s (s.size - 1):Int) - 48))=((byN s (s.size - 1) - 48:Nat):Int):=by rw [w8 _ (by omega) (by omega),wJ _ (by omega) (by omega)]; omega
    rw [ed] at hb11 ⊢
    have hf:=funD_conD (D:=D) (show ¬ s=bTag from hb0) (by omega) (by omega)
    rw [← hc] at hf
    dsimp only at hf
    rw [if_pos (by omega)] at hf
    show Sub _ (funP (funD D s))
    rw [hf,Int.toNat_natCast]; exact .refl _
   case m21 =>
    have hk:z4.2<(Dat.cons (D.getD z4.1 Sh.dat.nil)).length:=by omega
    have hc:=hq7.2.2
    rw [drop_at _ Sh.con.nil hk,conD_step,if_pos hb10] at hc
    have ed:IntKind.i64.wrap (IntKind.u8.wrap ((byN s (s.size - 1):Int) - 48))=((byN s (s.size - 1) - 48:Nat):Int):=by rw [w8 _ (by omega) (by omega),wJ _ (by omega) (by omega)]; omega
    rw [ed] at hb11
    have hf:=funD_conD (D:=D) (show ¬ s=bTag from hb0) (by omega) (by omega)
    rw [← hc] at hf
    dsimp only at hf
    rw [if_neg (by omega)] at hf
    exact fno hf _ rfl
   case m22=>exact subB_i (by rw [wJ _ (by omega) (by omega)]; omega)
   case s12 =>
    have hz:z2<D.length:=by omega
    refine ⟨hz,?_⟩
    have hc:=hq7.2.2
    have he:z4.2=(Dat.cons (D.getD z4.1 Sh.dat.nil)).length:=by omega
    rw [he,List.drop_length,conD_skip,← hq8] at hc
    exact hc
   case m23 =>
    have:D.length - (z2+1)<D.length - z2:=by omega
    exact this
   case m24 =>
    have hc:=hq5.2
    rw [List.drop_eq_nil_of_le (by omega),conD_end] at hc
    have hf:=funD_conD (D:=D) (show ¬ s=bTag from hb0) (by omega) (by omega)
    rw [← hc] at hf
    exact fno hf _ rfl
   all_goals exact .refl _
 · cases hs
theorem endU_need {n0:Nat} {p:Prop} {o:Out} {t:Bool} {x:PV} {ob:List PO} (h:EndU n0 o.fin t x ob):EndU n0 (Out.need p o).fin t x ob:=h
end Go.Proofs.YtdeacbdpmdfgdaaDoor
namespace Go.Proofs.YtdeacbdpmdfgdaaDoor
open Go.RowKit
set_option linter.unusedVariables false
set_option maxRecDepth 100000
def tmP (t:Tw):PV:=.agg (wrapF (tmC t))
def tmOf:PV→Option Tw
 | .agg l=>match leafs l with
  | some m=>toTm m
  | none=>none
 | _=>none
theorem wrapF_at:∀ (l:List Lf) (i:Nat),(wrapF l)[i]?=(l[i]?).map PV.f
 | [],i=>by simp [wrapF]
 | x::l,0=>by simp [wrapF]
 | x::l,i+1=>by simp [wrapF,wrapF_at l i]
theorem wrapF_len:∀ (l:List Lf),(wrapF l).length=l.length
 | []=>rfl
 | x::l=>by simp [wrapF,wrapF_len l]
theorem tm_sub {x:PV} {t:Tw} (h:tmOf x=some t):SubB x (tmP t):=by
 unfold tmOf at h
 split at h
 · rename_i l
   split at h
   · rename_i m hm
     have hs:=toTm_sub h
     obtain ⟨h1,h2⟩:=leafs_at hm
     refine ⟨fun H B v hv=>?_⟩
     obtain ⟨vs,rfl,h3⟩:=PRs.of_agg hv
     refine PRs.agg ⟨by rw [h3.1,← h1,wrapF_len,hs.len],fun i u y hu hy=>?_⟩
     rw [wrapF_at] at hy
     cases hc:(tmC t)[i]? with
     | none=>rw [hc] at hy; cases hy
     | some z =>
      rw [hc] at hy
      cases hy
      obtain ⟨x,h4,h5⟩:=hs.at hc
      exact .f (h5 _ _ (h3.2 i u _ hu (h2 i x h4)).rd)
   · cases h
 · cases h
mutual
def Tw.fitT:Tw→Prop
 | .mk _ n _ d l=>n.size≤4611686018427387904∧d.length≤40000000∧l.length≤100000000∧fitTL l
def fitTL:List Tw→Prop
 | []=>True
 | t::l=>t.fitT∧fitTL l
end
theorem fitTL_at:∀ {l:List Tw} {i:Nat} (d:Tw),fitTL l→i<l.length→(l.getD i d).fitT
 | t::l,0,d,h,_=>h.1
 | t::l,i+1,d,h,hi=>by simpa using fitTL_at (l:=l) d h.2 (by simpa using hi)
theorem Tw.fitT_eq (t:Tw):t.fitT↔t.name.size≤4611686018427387904∧t.digits.length≤40000000∧t.kids.length≤100000000∧fitTL t.kids:=by cases t; rfl
theorem getD_any {α:Type} {l:List α} {i:Nat} (h:i<l.length) (a b:α):l.getD i a=l.getD i b:=by
 rw [List.getD_eq_getElem?_getD,List.getD_eq_getElem?_getD,List.getElem?_eq_getElem h]; rfl
end Go.Proofs.YtdeacbdpmdfgdaaDoor
namespace Go.Proofs.YtdeacbdpmdfgdaaDoor
open Go.RowKit
set_option linter.unusedVariables false
set_option maxRecDepth 100000
theorem SubB.sub {x y:PV} (h:SubB x y):Sub x y:=⟨fun H v hv=>h.out H _ v hv⟩
theorem endR {n0:Nat} {p:Prop} {α:Type} {e z:Except Int α} {pv:Except Int α→PV} {y:PV} {ob ob' r:List PO} (hz:z=e) (hy:SubB y (pv z)) (hn:newT ob'.length y (pv z)=false) (hb:(belowP ob.length (pv z) && (belowO ob.length ob && Nat.ble n0 ob.length))=true) (hob:ob'=ob++r):EndU n0 (Out.need p (.nm (Except Int α) e fun z=>.ret (pv z) ob)).fin true y ob':=by
 subst hz
 exact endU_need (endU (ob:=ob) (r:=r) rfl hy hn hb hob)
end Go.Proofs.YtdeacbdpmdfgdaaDoor
