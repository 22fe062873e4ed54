/- The layer term: Sort, told or the error. -/
import Derived.Test.YtpjjdngoblfleaaGreatTd
import Derived.Test.YtpjjdngoblfleaaGreatVc
namespace Go.Proofs.YtpjjdngoblfleaaGreat
open Go.RowKit
set_option linter.unusedVariables false
set_option maxRecDepth 100000
theorem SubB.sub {x y:PV} (h:SubB x y):Sub x y:=⟨fun H v hv=>h.out H _ v hv⟩
theorem endE_ok {n0:Nat} {p:Prop} {α:Type} {d:α} {pv:α→PV} {e:Except Int α} {y:PV} {ob ob' r:List PO} (h:okE e=true) (hy:y=pv (valE d e)) (hn:newT ob'.length y (pv (valE d e))=false) (hb:(belowP ob.length (pv (valE d e)) && (belowO ob.length ob && Nat.ble n0 ob.length))=true) (hob:ob'=ob++r):EndU n0 (Out.need p (outE d pv e ob)).fin true y ob' :=
 endU_need (endU (ob:=ob) (r:=r) (outE_ok (valE_ok h)) (hy ▸ .refl _) hn hb hob)
theorem endE_no {n0:Nat} {p:Prop} {α:Type} {d:α} {pv:α→PV} {e:Except Int α} {y:PV} {ob ob' r:List PO} (h:okE e=false) (hy:y=eP (errE e)) (hb:(belowO ob.length ob && Nat.ble n0 ob.length)=true) (hob:ob'=ob++r):EndU n0 (Out.need p (outE d pv e ob)).fin false y ob' :=
 endU_need (endU (ob:=ob) (r:=r) (outE_err (errE_no h)) (hy ▸ .refl _) (by subst hy; rfl) hb hob)
theorem endR {n0:Nat} {p:Prop} {α:Type} {e z:Except Int α} {pv:Except Int α→PV} {y:PV} {ob ob' r:List PO} (hz:z=e) (hy:SubB y (pv z)) (hn:newT ob'.length y (pv z)=false) (hb:(belowP ob.length (pv z) && (belowO ob.length ob && Nat.ble n0 ob.length))=true) (hob:ob'=ob++r):EndU n0 (Out.need p (.nm (Except Int α) e fun z=>.ret (pv z) ob)).fin true y ob':=by
 subst hz
 exact endU_need (endU (ob:=ob) (r:=r) rfl hy hn hb hob)
def sSorter:Spec2
 | [.bp 0 0,x],[.cells [.f (.dt .dat D),.f (.dt .srt S)]]=>match tmOf x with
  | some t=>some (.need t.fitT (outE ⟨#[]⟩ sV (sortT D S t) (soO D S)))
  | none=>none
 | _,_=>none
theorem cSorter {E:Env} (hU:Up E):Contract2 Tryz.prog E 36 sSorter:=by
 intro xs ob o hs hok
 unfold sSorter at hs
 split at hs
 · rename_i x D S
   split at hs
   · rename_i t ht
     cases hs
     refine cSortN hU (t.size+1) [.bp 0 0,x] [.cells [.f (.dt .dat D),.f (.dt .srt S)]] (.need (t.size<t.size+1∧t.fitT) (outE ⟨#[]⟩ sV (sortT D S t) (soO D S))) ?_ ⟨⟨Nat.lt_succ_self _,hok.1⟩,hok.2⟩
     simp only [sSortN,ht]
   · cases hs
 · cases hs
def sSort1:Spec2
 | [.bp 0 0,.bp 1 0],[.cells [.bp 2 0],.cells [.f (.v (.int .u8 k)),.f (.v (.string n)),.f (.v (.bool b)),.f (.lr d m),.f (.dt .tm l)],.cells [.f (.dt .dat D),.f (.dt .srt S)]] =>
  some (.need (Tw.mk k n b d l).fitT (outE ⟨#[]⟩ sV (sortT D S (.mk k n b d l)) [.cells [.bp 2 0],.cells [.f (.v (.int .u8 k)),.f (.v (.string n)),.f (.v (.bool b)),.f (.lr d m),.f (.dt .tm l)],.cells [.f (.dt .dat D),.f (.dt .srt S)]]))
 | _,_=>none
theorem cSort1 {E:Env} (hU:Up E):Contract2 Tryz.prog E 35 sSort1:=by
 refine contract2 [] [(36,sSorter)] Tryz.ntmps35 Tryz.func35 (by kernel_rfl) (by kernel_rfl) hU trivial ⟨cSorter hU,trivial⟩ ?_
 intro xs ob o hs hok
 unfold sSort1 at hs
 split at hs
 · rename_i k n b d m l D S
   cases hs
   refine ⟨[.bp 0 0,.bp 1 0],[],.cons (.refl _) (.cons (.refl _) .nil),rfl,fun _ hsh=>?_⟩
   have hfit:=hok.1
   refine cast_rfl (p:=(Tw.mk k n b d l).fitT∧∀ (z1:Except Int ByteArray),z1=sortT D S (Tw.mk k n b d l)→ifB (okE z1) (EndU 3 (Out.need (Tw.mk k n b d l).fitT (outE (ByteArray.mk #[]) sV (sortT D S (Tw.mk k n b d l)) [PO.cells [PV.bp 2 0],PO.cells [PV.f (Lf.v (Value.int IntKind.u8 k)),sV n,bV b,PV.f (Lf.lr d m),PV.f (Lf.dt Sh.tm l)],PO.cells [PV.f (Lf.dt Sh.dat D),PV.f (Lf.dt Sh.srt S)]])).fin true (sV (valE (ByteArray.mk #[]) z1)) [PO.cells [PV.bp 2 0],PO.cells [PV.f (Lf.v (Value.int IntKind.u8 k)),sV n,bV b,PV.f (Lf.lr d m),PV.f (Lf.dt Sh.tm l)],PO.cells [PV.f (Lf.dt Sh.dat D),PV.f (Lf.dt Sh.srt S)]]) (EndU 3 (Out.need (Tw.mk k n b d l).fitT (outE (ByteArray.mk #[]) sV (sortT D S (Tw.mk k n b d l)) [PO.cells [PV.bp 2 0],PO.cells [PV.f (Lf.v (Value.int IntKind.u8 k)),sV n,bV b,PV.f (Lf.lr d m),PV.f (Lf.dt Sh.tm l)],PO.cells [PV.f (Lf.dt Sh.dat D),PV.f (Lf.dt Sh.srt S)]])).fin false (PV.ifc 45 (iV (errE z1))) [PO.cells [PV.bp 2 0],PO.cells [PV.f (Lf.v (Value.int IntKind.u8 k)),sV n,bV b,PV.f (Lf.lr d m),PV.f (Lf.dt Sh.tm l)],PO.cells [PV.f (Lf.dt Sh.dat D),PV.f (Lf.dt Sh.srt S)]])) ?kr ?_
   case kr=>kernel_rfl
   refine ⟨?s0,fun z1=>fun hz1=>ifB_iff.2 ⟨fun hb0=>?m0,fun hb0=>?m1⟩⟩
   case s0=>exact hfit
   all_goals subst hz1
   case m0=>exact endE_ok hb0 rfl rfl rfl rfl
   case m1=>exact endE_no hb0 rfl rfl rfl
 · cases hs
def sTriedS:Spec2
 | [.fn 35 [] [.bp 0 0,.bp 1 0]],[.cells [.bp 2 0],.cells [.f (.v (.int .u8 k)),.f (.v (.string n)),.f (.v (.bool b)),.f (.lr d m),.f (.dt .tm l)],.cells [.f (.dt .dat D),.f (.dt .srt S)]] =>
  some (.need (Tw.mk k n b d l).fitT (.nm (Except Int ByteArray) (sortT D S (.mk k n b d l)) fun z=>.ret (.tup [sV (valE ⟨#[]⟩ z),iV (errE z)]) [.cells [.bp 2 0],.cells [.f (.v (.int .u8 k)),.f (.v (.string n)),.f (.v (.bool b)),.f (.lr d m),.f (.dt .tm l)],.cells [.f (.dt .dat D),.f (.dt .srt S)]]))
 | _,_=>none
theorem cTriedS {E:Env} (hU:Up E):Contract2 Tryz.prog E 34 sTriedS:=by
 refine contract2_tried (cf:=71) [] [(35,sSort1)] Tryz.ntmps34 Tryz.func34 rfl (by kernel_rfl) hU trivial ⟨cSort1 hU,trivial⟩ rfl rfl rfl rfl rfl rfl Tryz.ntmps71 Tryz.func71 rfl rfl rfl rfl rfl rfl rfl (by kernel_rfl) (by kernel_rfl) (by kernel_rfl) ?_
 intro xs ob o hs hok
 unfold sTriedS at hs
 split at hs
 · rename_i k n b d m l D S
   cases hs
   refine ⟨[.fn 35 [] [.bp 0 0,.bp 1 0]],.cons (.refl _) .nil,rfl,?_⟩
   have hfit:=hok.1
   refine cast_rfl (p:=(Tw.mk k n b d l).fitT∧∀ (z1:Except Int ByteArray),z1=sortT D S (Tw.mk k n b d l)→ifB (okE z1) (EndU 3 (Out.need (Tw.mk k n b d l).fitT (Out.nm (Except Int ByteArray) (sortT D S (Tw.mk k n b d l)) fun (z:Except Int ByteArray)=>Out.ret (PV.tup [sV (valE (ByteArray.mk #[]) z),iV (errE z)]) [PO.cells [PV.bp 2 0],PO.cells [PV.f (Lf.v (Value.int IntKind.u8 k)),sV n,bV b,PV.f (Lf.lr d m),PV.f (Lf.dt Sh.tm l)],PO.cells [PV.f (Lf.dt Sh.dat D),PV.f (Lf.dt Sh.srt S)]])).fin true (PV.tup [sV (valE (ByteArray.mk #[]) z1),iV 0]) [PO.cells [PV.bp 2 0],PO.cells [PV.f (Lf.v (Value.int IntKind.u8 k)),sV n,bV b,PV.f (Lf.lr d m),PV.f (Lf.dt Sh.tm l)],PO.cells [PV.f (Lf.dt Sh.dat D),PV.f (Lf.dt Sh.srt S)],PO.cells [sV (valE (ByteArray.mk #[]) z1)],PO.cells [iV 0]]) (EndU 3 (Out.need (Tw.mk k n b d l).fitT (Out.nm (Except Int ByteArray) (sortT D S (Tw.mk k n b d l)) fun (z:Except Int ByteArray)=>Out.ret (PV.tup [sV (valE (ByteArray.mk #[]) z),iV (errE z)]) [PO.cells [PV.bp 2 0],PO.cells [PV.f (Lf.v (Value.int IntKind.u8 k)),sV n,bV b,PV.f (Lf.lr d m),PV.f (Lf.dt Sh.tm l)],PO.cells [PV.f (Lf.dt Sh.dat D),PV.f (Lf.dt Sh.srt S)]])).fin true (PV.tup [sV (ByteArray.mk #[]),iV (errE z1)]) [PO.cells [PV.bp 2 0],PO.cells [PV.f (Lf.v (Value.int IntKind.u8 k)),sV n,bV b,PV.f (Lf.lr d m),PV.f (Lf.dt Sh.tm l)],PO.cells [PV.f (Lf.dt Sh.dat D),PV.f (Lf.dt Sh.srt S)],PO.cells [sV (ByteArray.mk #[])],PO.cells [iV (errE z1)]])) ?kr ?_
   case kr=>kernel_rfl
   refine ⟨?s0,fun z1=>fun hz1=>ifB_iff.2 ⟨fun hb0=>?m0,fun hb0=>?m1⟩⟩
   case s0=>exact hfit
   case m0 =>
    obtain _ | s:=z1
    · cases hb0
    · exact endR hz1 (.refl _) rfl rfl rfl
   case m1 =>
    obtain e | _:=z1
    · exact endR hz1 (.refl _) rfl rfl rfl
    · cases hb0
 · cases hs
def sSort:Spec
 | [.f (.dt .dat D),.f (.dt .srt S),x]=>match tmOf x with
  | some t=>some (some t.fitT,.nm (Except Int ByteArray) (sortT D S t) fun z=>.tup [sV (valE ⟨#[]⟩ z),iV (errE z)])
  | none=>none
 | _=>none
theorem cSort {E:Env} (hU:Up E):Contract Tryz.prog E 12 sSort:=by
 refine contract_D [] [(34,sTriedS)] Tryz.ntmps12 Tryz.func12 (by kernel_rfl) (by kernel_rfl) hU trivial ⟨cTriedS hU,trivial⟩ ?_
 intro xs p r hs hp
 unfold sSort at hs
 split at hs
 · rename_i D S x
   split at hs
   · rename_i t ht
     cases hs
     refine ⟨[.f (.dt .dat D),.f (.dt .srt S),tmP t],[],.cons (.refl _) (.cons (.refl _) (.cons (tm_sub ht).sub .nil)),rfl,fun _ hsh=>?_⟩
     have hfit:=hp _ rfl
     refine cast_rfl (p:=(Tw.mk t.kind t.name t.neg t.digits t.kids).fitT∧∀ (z1:Except Int ByteArray),z1=sortT D S (Tw.mk t.kind t.name t.neg t.digits t.kids)→true=true∧Sub (PV.tup [sV (valE (ByteArray.mk #[]) z1),iV (errE z1)]) (PV.tup [sV (valE (ByteArray.mk #[]) (sortT D S t)),iV (errE (sortT D S t))])) ?kr ?_
     case kr=>kernel_rfl
     refine ⟨?s0,fun z1=>fun hz1=>⟨rfl,?m0⟩⟩
     all_goals try rw [Tw.eta] at *
     case s0=>exact hfit
     case m0=>subst hz1; exact .refl _
   · cases hs
 · cases hs
end Go.Proofs.YtpjjdngoblfleaaGreat
