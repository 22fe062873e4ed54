/- The layer cong: Same. -/
import Derived.Test.YtdjnlgkpnjdchaaDoorCb
import Derived.Test.YtdjnlgkpnjdchaaDoorVc
namespace Go.Proofs.YtdjnlgkpnjdchaaDoor
open Go.RowKit
set_option linter.unusedVariables false
set_option maxRecDepth 100000
theorem walk_snoc {L:List Tw} {k k':ByteArray} {l:List Int} {i:Nat} (hi:i<l.length) (h:walkW L k (l.take i)=some k'):walkW L k (l.take (i+1))=alongW L k' (l.getD i 0):=by
 rw [List.take_add_one,List.getElem?_eq_getElem hi,Option.toList_some,walk_app,h,List.getD_eq_getElem?_getD,List.getElem?_eq_getElem hi]
 dsimp only [walkW,Option.getD_some]
 cases alongW L k' l[i] <;> rfl
theorem walk_stop {L:List Tw} {k:ByteArray} {l:List Int} {i:Nat} (h:walkW L k (l.take i)=none):walkW L k l=none:=by
 have:=walk_app (L:=L) (l:=l.take i) (m:=l.drop i) (k:=k)
 rw [List.take_append_drop,h] at this
 exact this
theorem same_stop {L:List Tw} {a b:Tw} {l:List Int} (h:walkW L (keyS a) l=none):sameW L a b l=.error 31:=by unfold sameW; rw [h]
theorem same_miss {L:List Tw} {a b:Tw} {l:List Int} {k:ByteArray} (h:walkW L (keyS a) l=some k) (hk:¬ k=keyS b):sameW L a b l=.error 31:=by
 unfold sameW; rw [h]; exact if_neg hk
theorem along_get {L:List Tw} {s x:ByteArray} {n:Int} (h:alongE L s n=.ok x):alongW L s n=some x:=by
 unfold alongE at h
 split at h
 · rename_i h1; cases h; exact h1
 · cases h
theorem along_err {L:List Tw} {s:ByteArray} {n e:Int} (h:alongE L s n=.error e):e=31∧alongW L s n=none:=by
 unfold alongE at h
 split at h
 · cases h
 · rename_i h1; cases h; exact ⟨rfl,h1⟩
def sSame1:Spec2
 | [.bp 0 0,.bp 1 0,.bp 2 0,.bp 3 0],[.cells [.f (.dt .tm L)],.cells [.f (.v (.int .u8 ka)),.f (.v (.string na)),.f (.v (.bool ba)),.f (.lr da ma),.f (.dt .tm la)],.cells [.f (.is .i64 at_)],.cells [.f (.v (.int .u8 kb)),.f (.v (.string nb)),.f (.v (.bool bb)),.f (.lr db mb),.f (.dt .tm lb)]] =>
  some (.need (at_.length≤100000000∧(∀ t∈L,keyOk t)∧keyOk (.mk ka na ba da la)∧keyOk (.mk kb nb bb db lb)) (outE Sh.tm.nil tmP (sameW L (.mk ka na ba da la) (.mk kb nb bb db lb) at_) [.cells [.f (.dt .tm L)],.cells [.f (.v (.int .u8 ka)),.f (.v (.string na)),.f (.v (.bool ba)),.f (.lr da ma),.f (.dt .tm la)],.cells [.f (.is .i64 at_)],.cells [.f (.v (.int .u8 kb)),.f (.v (.string nb)),.f (.v (.bool bb)),.f (.lr db mb),.f (.dt .tm lb)]]))
 | _,_=>none
theorem cSame1 {E:Env} (hU:Up E) (hT:∀ K w H,E K w H→Tab w):Contract2 Tryd.prog E 39 sSame1:=by
 refine contract2 [(16,sKey),(42,sOfC)] [(40,sAlong),(41,sMust)] Tryd.ntmps39 Tryd.func39 (by kernel_rfl) (by kernel_rfl) hU ⟨cKey hU hT,cOfC hU,trivial⟩ ⟨cAlong hU hT,cMustC hU,trivial⟩ ?_
 intro xs ob o hs hok
 unfold sSame1 at hs
 split at hs
 · rename_i L ka na ba da ma la at_ kb nb bb db mb lb
   cases hs
   obtain ⟨⟨hn,hL,hA,hB⟩,-⟩:=hok
   refine ⟨[.bp 0 0,.bp 1 0,.bp 2 0,.bp 3 0],[(3,.s ⟨Nat × ByteArray,fun x=>⟨[(0,.bp 0 0),(1,.bp 1 0),(2,.bp 2 0),(3,.bp 3 0),(4,.bp 4 0),(5,.bp 5 0),(14,.f (.is .i64 at_)),(15,iV at_.length),(16,iV x.1)],[.cells [.f (.dt .tm L)],.cells [.f (.v (.int .u8 ka)),.f (.v (.string na)),.f (.v (.bool ba)),.f (.lr da ma),.f (.dt .tm la)],.cells [.f (.is .i64 at_)],.cells [.f (.v (.int .u8 kb)),.f (.v (.string nb)),.f (.v (.bool bb)),.f (.lr db mb),.f (.dt .tm lb)]]++[.cells [.f (.v (.int .u8 0)),.f (.v (.string ⟨#[]⟩)),.f (.v (.bool false)),.f (.v (.slice none 0 0)),.f (.v (.slice none 0 0))],.cells [.f (.dt .tm L),sV x.2]]⟩,fun x=>x.1≤at_.length∧walkW L (keyS (.mk ka na ba da la)) (at_.take x.1)=some x.2,fun x=>at_.length - x.1⟩)],.cons (.refl _) (.cons (.refl _) (.cons (.refl _) (.cons (.refl _) .nil))),rfl,fun _ hsh=>?_⟩
   refine cast_rfl (p:=(kindR (Tw.mk ka na ba da la)∧(Tw.mk ka na ba da la).fitT∧(keyB (Tw.mk ka na ba da la)).length≤140737488355328)∧∃ (x1:Nat × ByteArray),(((SubB (PV.f (Lf.dt Sh.tm L)) (PV.f (Lf.dt Sh.tm L))∧True)∧(SubB (PV.f (Lf.v (Value.int IntKind.u8 ka))) (PV.f (Lf.v (Value.int IntKind.u8 ka)))∧SubB (sV na) (sV na)∧SubB (bV ba) (bV ba)∧SubB (PV.f (Lf.lr da ma)) (PV.f (Lf.lr da ma))∧SubB (PV.f (Lf.dt Sh.tm la)) (PV.f (Lf.dt Sh.tm la))∧True)∧(SubB (PV.f (Lf.is IntKind.i64 at_)) (PV.f (Lf.is IntKind.i64 at_))∧True)∧(SubB (PV.f (Lf.v (Value.int IntKind.u8 kb))) (PV.f (Lf.v (Value.int IntKind.u8 kb)))∧SubB (sV nb) (sV nb)∧SubB (bV bb) (bV bb)∧SubB (PV.f (Lf.lr db mb)) (PV.f (Lf.lr db mb))∧SubB (PV.f (Lf.dt Sh.tm lb)) (PV.f (Lf.dt Sh.tm lb))∧True)∧(SubB (PV.f (Lf.v (Value.int IntKind.u8 0))) (PV.f (Lf.v (Value.int IntKind.u8 0)))∧SubB (sV (ByteArray.mk #[])) (sV (ByteArray.mk #[]))∧SubB (bV false) (bV false)∧SubB (PV.f (Lf.v (Value.slice none 0 0))) (PV.f (Lf.v (Value.slice none 0 0)))∧SubB (PV.f (Lf.v (Value.slice none 0 0))) (PV.f (Lf.v (Value.slice none 0 0)))∧True)∧(SubB (PV.f (Lf.dt Sh.tm L)) (PV.f (Lf.dt Sh.tm L))∧SubB (sV (keyS (Tw.mk ka na ba da la))) (sV x1.snd)∧True)∧True)∧SubB (PV.bp 0 0) (PV.bp 0 0)∧SubB (PV.bp 1 0) (PV.bp 1 0)∧SubB (PV.bp 2 0) (PV.bp 2 0)∧SubB (PV.bp 3 0) (PV.bp 3 0)∧SubB (PV.bp 4 0) (PV.bp 4 0)∧SubB (PV.bp 5 0) (PV.bp 5 0)∧SubB (PV.f (Lf.is IntKind.i64 at_)) (PV.f (Lf.is IntKind.i64 at_))∧SubB (iV (↑at_.length:Int)) (iV (↑at_.length:Int))∧SubB (iV 0) (iV (↑x1.fst:Int))∧True)∧(x1.fst≤at_.length∧walkW L (keyS (Tw.mk ka na ba da la)) (List.take x1.fst at_)=some x1.snd)∧True∧∀ (z2:Nat × ByteArray),z2.fst≤at_.length∧walkW L (keyS (Tw.mk ka na ba da la)) (List.take z2.fst at_)=some z2.snd→True→ifB (decide ((↑z2.fst:Int)<(↑at_.length:Int))) (((0:Int)≤(↑z2.fst:Int)∧(↑z2.fst:Int)<(↑at_.length:Int))∧(∀ (z3:Sh.tm.T),z3∈L→kindR z3∧Tw.fitT z3∧(keyB z3).length.le 140737488355328)∧∀ (z3:Except Int ByteArray),z3=alongE L z2.snd (at_.getD (↑z2.fst:Int).toNat (0:Int))→ifB (okE z3) (∃ (x4:Nat × ByteArray),(((SubB (PV.f (Lf.dt Sh.tm L)) (PV.f (Lf.dt Sh.tm L))∧True)∧(SubB (PV.f (Lf.v (Value.int IntKind.u8 ka))) (PV.f (Lf.v (Value.int IntKind.u8 ka)))∧SubB (sV na) (sV na)∧SubB (bV ba) (bV ba)∧SubB (PV.f (Lf.lr da ma)) (PV.f (Lf.lr da ma))∧SubB (PV.f (Lf.dt Sh.tm la)) (PV.f (Lf.dt Sh.tm la))∧True)∧(SubB (PV.f (Lf.is IntKind.i64 at_)) (PV.f (Lf.is IntKind.i64 at_))∧True)∧(SubB (PV.f (Lf.v (Value.int IntKind.u8 kb))) (PV.f (Lf.v (Value.int IntKind.u8 kb)))∧SubB (sV nb) (sV nb)∧SubB (bV bb) (bV bb)∧SubB (PV.f (Lf.lr db mb)) (PV.f (Lf.lr db mb))∧SubB (PV.f (Lf.dt Sh.tm lb)) (PV.f (Lf.dt Sh.tm lb))∧True)∧(SubB (PV.f (Lf.v (Value.int IntKind.u8 0))) (PV.f (Lf.v (Value.int IntKind.u8 0)))∧SubB (sV (ByteArray.mk #[])) (sV (ByteArray.mk #[]))∧SubB (bV false) (bV false)∧SubB (PV.f (Lf.v (Value.slice none 0 0))) (PV.f (Lf.v (Value.slice none 0 0)))∧SubB (PV.f (Lf.v (Value.slice none 0 0))) (PV.f (Lf.v (Value.slice none 0 0)))∧True)∧(SubB (PV.f (Lf.dt Sh.tm L)) (PV.f (Lf.dt Sh.tm L))∧SubB (sV (valE (ByteArray.mk #[]) z3)) (sV x4.snd)∧True)∧True)∧SubB (PV.bp 0 0) (PV.bp 0 0)∧SubB (PV.bp 1 0) (PV.bp 1 0)∧SubB (PV.bp 2 0) (PV.bp 2 0)∧SubB (PV.bp 3 0) (PV.bp 3 0)∧SubB (PV.bp 4 0) (PV.bp 4 0)∧SubB (PV.bp 5 0) (PV.bp 5 0)∧SubB (PV.f (Lf.is IntKind.i64 at_)) (PV.f (Lf.is IntKind.i64 at_))∧SubB (iV (↑at_.length:Int)) (iV (↑at_.length:Int))∧SubB (iV (IntKind.i64.wrap ((↑z2.fst:Int)+(1:Int)))) (iV (↑x4.fst:Int))∧True)∧(x4.fst≤at_.length∧walkW L (keyS (Tw.mk ka na ba da la)) (List.take x4.fst at_)=some x4.snd)∧True∧(at_.length - x4.fst).succ.le (at_.length - z2.fst)) (EndU 4 (Out.need (at_.length≤100000000∧(∀ (t:Sh.tm.T),t∈L→keyOk t)∧keyOk (Tw.mk ka na ba da la)∧keyOk (Tw.mk kb nb bb db lb)) (outE Sh.tm.nil tmP (sameW L (Tw.mk ka na ba da la) (Tw.mk kb nb bb db lb) at_) [PO.cells [PV.f (Lf.dt Sh.tm L)],PO.cells [PV.f (Lf.v (Value.int IntKind.u8 ka)),sV na,bV ba,PV.f (Lf.lr da ma),PV.f (Lf.dt Sh.tm la)],PO.cells [PV.f (Lf.is IntKind.i64 at_)],PO.cells [PV.f (Lf.v (Value.int IntKind.u8 kb)),sV nb,bV bb,PV.f (Lf.lr db mb),PV.f (Lf.dt Sh.tm lb)]])).fin false (PV.ifc 32 (iV (errE z3))) [PO.cells [PV.f (Lf.dt Sh.tm L)],PO.cells [PV.f (Lf.v (Value.int IntKind.u8 ka)),sV na,bV ba,PV.f (Lf.lr da ma),PV.f (Lf.dt Sh.tm la)],PO.cells [PV.f (Lf.is IntKind.i64 at_)],PO.cells [PV.f (Lf.v (Value.int IntKind.u8 kb)),sV nb,bV bb,PV.f (Lf.lr db mb),PV.f (Lf.dt Sh.tm lb)],PO.cells [PV.f (Lf.v (Value.int IntKind.u8 0)),sV (ByteArray.mk #[]),bV false,PV.f (Lf.v (Value.slice none 0 0)),PV.f (Lf.v (Value.slice none 0 0))],PO.cells [PV.f (Lf.dt Sh.tm L),sV z2.snd]])) ((kindR (Tw.mk kb nb bb db lb)∧(Tw.mk kb nb bb db lb).fitT∧(keyB (Tw.mk kb nb bb db lb)).length≤140737488355328)∧ifB (z2.snd.toList==(keyS (Tw.mk kb nb bb db lb)).toList) ((2≤100000000∧fitTL [Tw.mk ka na ba da la,Tw.mk kb nb bb db lb])∧EndU 4 (Out.need (at_.length≤100000000∧(∀ (t:Sh.tm.T),t∈L→keyOk t)∧keyOk (Tw.mk ka na ba da la)∧keyOk (Tw.mk kb nb bb db lb)) (outE Sh.tm.nil tmP (sameW L (Tw.mk ka na ba da la) (Tw.mk kb nb bb db lb) at_) [PO.cells [PV.f (Lf.dt Sh.tm L)],PO.cells [PV.f (Lf.v (Value.int IntKind.u8 ka)),sV na,bV ba,PV.f (Lf.lr da ma),PV.f (Lf.dt Sh.tm la)],PO.cells [PV.f (Lf.is IntKind.i64 at_)],PO.cells [PV.f (Lf.v (Value.int IntKind.u8 kb)),sV nb,bV bb,PV.f (Lf.lr db mb),PV.f (Lf.dt Sh.tm lb)]])).fin true (PV.agg [PV.f (Lf.v (Value.int IntKind.u8 (conT (8:Int) [Tw.mk ka na ba da la,Tw.mk kb nb bb db lb]).kind)),sV ((conT (8:Int) [Tw.mk ka na ba da la,Tw.mk kb nb bb db lb]).name),bV ((conT (8:Int) [Tw.mk ka na ba da la,Tw.mk kb nb bb db lb]).neg),PV.f (Lf.lr (conT (8:Int) [Tw.mk ka na ba da la,Tw.mk kb nb bb db lb]).digits 0),PV.f (Lf.dt Sh.tm [Tw.mk ka na ba da la,Tw.mk kb nb bb db lb])]) [PO.cells [PV.f (Lf.dt Sh.tm L)],PO.cells [PV.f (Lf.v (Value.int IntKind.u8 ka)),sV na,bV ba,PV.f (Lf.lr da ma),PV.f (Lf.dt Sh.tm la)],PO.cells [PV.f (Lf.is IntKind.i64 at_)],PO.cells [PV.f (Lf.v (Value.int IntKind.u8 kb)),sV nb,bV bb,PV.f (Lf.lr db mb),PV.f (Lf.dt Sh.tm lb)],PO.cells [PV.f (Lf.v (Value.int IntKind.u8 (conT (8:Int) [Tw.mk ka na ba da la,Tw.mk kb nb bb db lb]).kind)),sV ((conT (8:Int) [Tw.mk ka na ba da la,Tw.mk kb nb bb db lb]).name),bV ((conT (8:Int) [Tw.mk ka na ba da la,Tw.mk kb nb bb db lb]).neg),PV.f (Lf.lr (conT (8:Int) [Tw.mk ka na ba da la,Tw.mk kb nb bb db lb]).digits 0),PV.f (Lf.dt Sh.tm [Tw.mk ka na ba da la,Tw.mk kb nb bb db lb])],PO.cells [PV.f (Lf.dt Sh.tm L),sV z2.snd]]) (EndU 4 (Out.need (at_.length≤100000000∧(∀ (t:Sh.tm.T),t∈L→keyOk t)∧keyOk (Tw.mk ka na ba da la)∧keyOk (Tw.mk kb nb bb db lb)) (outE Sh.tm.nil tmP (sameW L (Tw.mk ka na ba da la) (Tw.mk kb nb bb db lb) at_) [PO.cells [PV.f (Lf.dt Sh.tm L)],PO.cells [PV.f (Lf.v (Value.int IntKind.u8 ka)),sV na,bV ba,PV.f (Lf.lr da ma),PV.f (Lf.dt Sh.tm la)],PO.cells [PV.f (Lf.is IntKind.i64 at_)],PO.cells [PV.f (Lf.v (Value.int IntKind.u8 kb)),sV nb,bV bb,PV.f (Lf.lr db mb),PV.f (Lf.dt Sh.tm lb)]])).fin false (PV.ifc 32 (iV 31)) [PO.cells [PV.f (Lf.dt Sh.tm L)],PO.cells [PV.f (Lf.v (Value.int IntKind.u8 ka)),sV na,bV ba,PV.f (Lf.lr da ma),PV.f (Lf.dt Sh.tm la)],PO.cells [PV.f (Lf.is IntKind.i64 at_)],PO.cells [PV.f (Lf.v (Value.int IntKind.u8 kb)),sV nb,bV bb,PV.f (Lf.lr db mb),PV.f (Lf.dt Sh.tm lb)],PO.cells [PV.f (Lf.v (Value.int IntKind.u8 0)),sV (ByteArray.mk #[]),bV false,PV.f (Lf.v (Value.slice none 0 0)),PV.f (Lf.v (Value.slice none 0 0))],PO.cells [PV.f (Lf.dt Sh.tm L),sV z2.snd]]))) ?kr ?_
   case kr=>kernel_rfl
   refine ⟨?s0,⟨?x0,⟨⟨⟨⟨.refl _,trivial⟩,⟨⟨.refl _,⟨.refl _,⟨.refl _,⟨.refl _,⟨.refl _,trivial⟩⟩⟩⟩⟩,⟨⟨.refl _,trivial⟩,⟨⟨.refl _,⟨.refl _,⟨.refl _,⟨.refl _,⟨.refl _,trivial⟩⟩⟩⟩⟩,⟨⟨.refl _,⟨.refl _,⟨.refl _,⟨.refl _,⟨.refl _,trivial⟩⟩⟩⟩⟩,⟨⟨.refl _,⟨?m0,trivial⟩⟩,trivial⟩⟩⟩⟩⟩⟩,⟨.refl _,⟨.refl _,⟨.refl _,⟨.refl _,⟨.refl _,⟨.refl _,⟨.refl _,⟨.refl _,⟨?m1,trivial⟩⟩⟩⟩⟩⟩⟩⟩⟩⟩,⟨?s1,⟨trivial,fun z2=>fun hq0=>fun _=>ifB_iff.2 ⟨fun hb1=>⟨?s2,⟨fun z3=>fun hq2=>⟨?s3,⟨?s4,?m2⟩⟩,fun z3=>fun hz3=>ifB_iff.2 ⟨fun hb3=>⟨?x1,⟨⟨⟨⟨.refl _,trivial⟩,⟨⟨.refl _,⟨.refl _,⟨.refl _,⟨.refl _,⟨.refl _,trivial⟩⟩⟩⟩⟩,⟨⟨.refl _,trivial⟩,⟨⟨.refl _,⟨.refl _,⟨.refl _,⟨.refl _,⟨.refl _,trivial⟩⟩⟩⟩⟩,⟨⟨.refl _,⟨.refl _,⟨.refl _,⟨.refl _,⟨.refl _,trivial⟩⟩⟩⟩⟩,⟨⟨.refl _,⟨?m3,trivial⟩⟩,trivial⟩⟩⟩⟩⟩⟩,⟨.refl _,⟨.refl _,⟨.refl _,⟨.refl _,⟨.refl _,⟨.refl _,⟨.refl _,⟨.refl _,⟨?m4,trivial⟩⟩⟩⟩⟩⟩⟩⟩⟩⟩,⟨?s5,⟨trivial,?m5⟩⟩⟩⟩,fun hb3=>?m6⟩⟩⟩,fun hb1=>⟨?s6,ifB_iff.2 ⟨fun hb4=>⟨?s7,?m7⟩,fun hb4=>?m8⟩⟩⟩⟩⟩⟩⟩⟩
   case x0=>exact (0,keyS (.mk ka na ba da la))
   case x1=>exact (z2.1+1,valE ⟨#[]⟩ z3)
   all_goals try simp only [bs_l,Int.toNat_natCast,decide_eq_true_eq,decide_eq_false_iff_not,Int.ofNat_lt] at *
   case s0=>exact hA
   case m0=>exact .refl _
   case m1=>exact .refl _
   case s1=>exact ⟨Nat.zero_le _,rfl⟩
   case s2=>omega
   case s3=>exact (hL _ hq2).1
   case s4=>exact (hL _ hq2).2.1
   case m2=>exact (hL _ hq2).2.2
   case m3=>exact .refl _
   case m4=>exact subB_i (by rw [wJ _ (by omega) (by omega)]; rfl)
   case s5 =>
    obtain ⟨x,rfl⟩:=okE_ex hb3
    exact ⟨by show z2.1+1≤at_.length; omega,(walk_snoc hb1 hq0.2).trans (along_get hz3.symm)⟩
   case m5=>exact (by omega:at_.length - (z2.1+1)<at_.length - z2.1)
   case m6 =>
    obtain e | x:=z3
    · obtain ⟨rfl,h1⟩:=along_err hz3.symm
      exact endU_need (endU (outE_err (same_stop (walk_stop ((walk_snoc hb1 hq0.2).trans h1)))) (.refl _) rfl rfl rfl)
    · cases hb3
   case s6=>exact hB
   case s7=>exact ⟨by decide,hA.2.1,hB.2.1,trivial⟩
   all_goals have hw:=hq0.2
   all_goals rw [List.take_of_length_le (by omega)] at hw
   case m7=>exact endU_need (endU (outE_ok (same_of (hw.trans (congrArg some hb4)))) (.refl _) rfl rfl rfl)
   case m8=>exact endU_need (endU (outE_err (same_miss hw hb4)) (.refl _) rfl rfl rfl)
 · cases hs
theorem tupBs {l m:List PV} (h:SubsB l m):SubB (.tup l) (.tup m):=⟨fun H B v hv=>by
 obtain ⟨vs,rfl,h1⟩:=PRs.of_tup hv
 have h2:=h.prs h1
 exact .tup (by simpa using h2.1) fun i u x hu hx=>h2.2 i u x (by simpa using hu) hx⟩
def sTriedC:Spec2
 | [.fn 39 [] [.bp 0 0,.bp 1 0,.bp 2 0,.bp 3 0]],[.cells [.f (.dt .tm L)],.cells [.f (.v (.int .u8 ka)),.f (.v (.string na)),.f (.v (.bool ba)),.f (.lr da ma),.f (.dt .tm la)],.cells [.f (.is .i64 at_)],.cells [.f (.v (.int .u8 kb)),.f (.v (.string nb)),.f (.v (.bool bb)),.f (.lr db mb),.f (.dt .tm lb)]] =>
  some (.need (at_.length≤100000000∧(∀ t∈L,keyOk t)∧keyOk (.mk ka na ba da la)∧keyOk (.mk kb nb bb db lb)) (.nm (Except Int Tw) (sameW L (.mk ka na ba da la) (.mk kb nb bb db lb) at_) fun z=>.ret (.tup [tmP (valE Sh.tm.nil z),iV (errE z)]) [.cells [.f (.dt .tm L)],.cells [.f (.v (.int .u8 ka)),.f (.v (.string na)),.f (.v (.bool ba)),.f (.lr da ma),.f (.dt .tm la)],.cells [.f (.is .i64 at_)],.cells [.f (.v (.int .u8 kb)),.f (.v (.string nb)),.f (.v (.bool bb)),.f (.lr db mb),.f (.dt .tm lb)]]))
 | _,_=>none
theorem cTriedC {E:Env} (hU:Up E) (hT:∀ K w H,E K w H→Tab w):Contract2 Tryd.prog E 38 sTriedC:=by
 refine contract2_tried (cf:=90) [] [(39,sSame1)] Tryd.ntmps38 Tryd.func38 rfl (by kernel_rfl) hU trivial ⟨cSame1 hU hT,trivial⟩ rfl rfl rfl rfl rfl rfl Tryd.ntmps90 Tryd.func90 rfl rfl rfl rfl rfl rfl rfl (by kernel_rfl) (by kernel_rfl) (by kernel_rfl) ?_
 intro xs ob o hs hok
 unfold sTriedC at hs
 split at hs
 · rename_i L ka na ba da ma la at_ kb nb bb db mb lb
   cases hs
   obtain ⟨⟨hn,hL,hA,hB⟩,-⟩:=hok
   refine ⟨[.fn 39 [] [.bp 0 0,.bp 1 0,.bp 2 0,.bp 3 0]],.cons (.refl _) .nil,rfl,?_⟩
   refine cast_rfl (p:=(at_.length≤100000000∧(∀ (t:Sh.tm.T),t∈L→keyOk t)∧keyOk (Tw.mk ka na ba da la)∧keyOk (Tw.mk kb nb bb db lb))∧∀ (z1:Except Int Sh.tm.T),z1=sameW L (Tw.mk ka na ba da la) (Tw.mk kb nb bb db lb) at_→ifB (okE z1) (EndU 4 (Out.need (at_.length≤100000000∧(∀ (t:Sh.tm.T),t∈L→keyOk t)∧keyOk (Tw.mk ka na ba da la)∧keyOk (Tw.mk kb nb bb db lb)) (Out.nm (Except Int Tw) (sameW L (Tw.mk ka na ba da la) (Tw.mk kb nb bb db lb) at_) fun (z:Except Int Tw)=>Out.ret (PV.tup [tmP (valE Sh.tm.nil z),iV (errE z)]) [PO.cells [PV.f (Lf.dt Sh.tm L)],PO.cells [PV.f (Lf.v (Value.int IntKind.u8 ka)),sV na,bV ba,PV.f (Lf.lr da ma),PV.f (Lf.dt Sh.tm la)],PO.cells [PV.f (Lf.is IntKind.i64 at_)],PO.cells [PV.f (Lf.v (Value.int IntKind.u8 kb)),sV nb,bV bb,PV.f (Lf.lr db mb),PV.f (Lf.dt Sh.tm lb)]])).fin true (PV.tup [PV.agg (wrapF (tmC (valE Sh.tm.nil z1))),iV 0]) [PO.cells [PV.f (Lf.dt Sh.tm L)],PO.cells [PV.f (Lf.v (Value.int IntKind.u8 ka)),sV na,bV ba,PV.f (Lf.lr da ma),PV.f (Lf.dt Sh.tm la)],PO.cells [PV.f (Lf.is IntKind.i64 at_)],PO.cells [PV.f (Lf.v (Value.int IntKind.u8 kb)),sV nb,bV bb,PV.f (Lf.lr db mb),PV.f (Lf.dt Sh.tm lb)],PO.cells (wrapF (tmC (valE Sh.tm.nil z1))),PO.cells [iV 0]]) (EndU 4 (Out.need (at_.length≤100000000∧(∀ (t:Sh.tm.T),t∈L→keyOk t)∧keyOk (Tw.mk ka na ba da la)∧keyOk (Tw.mk kb nb bb db lb)) (Out.nm (Except Int Tw) (sameW L (Tw.mk ka na ba da la) (Tw.mk kb nb bb db lb) at_) fun (z:Except Int Tw)=>Out.ret (PV.tup [tmP (valE Sh.tm.nil z),iV (errE z)]) [PO.cells [PV.f (Lf.dt Sh.tm L)],PO.cells [PV.f (Lf.v (Value.int IntKind.u8 ka)),sV na,bV ba,PV.f (Lf.lr da ma),PV.f (Lf.dt Sh.tm la)],PO.cells [PV.f (Lf.is IntKind.i64 at_)],PO.cells [PV.f (Lf.v (Value.int IntKind.u8 kb)),sV nb,bV bb,PV.f (Lf.lr db mb),PV.f (Lf.dt Sh.tm lb)]])).fin true (PV.tup [PV.agg [PV.f (Lf.v (Value.int IntKind.u8 0)),sV (ByteArray.mk #[]),bV false,PV.f (Lf.v (Value.slice none 0 0)),PV.f (Lf.v (Value.slice none 0 0))],iV (errE z1)]) [PO.cells [PV.f (Lf.dt Sh.tm L)],PO.cells [PV.f (Lf.v (Value.int IntKind.u8 ka)),sV na,bV ba,PV.f (Lf.lr da ma),PV.f (Lf.dt Sh.tm la)],PO.cells [PV.f (Lf.is IntKind.i64 at_)],PO.cells [PV.f (Lf.v (Value.int IntKind.u8 kb)),sV nb,bV bb,PV.f (Lf.lr db mb),PV.f (Lf.dt Sh.tm lb)],PO.cells [PV.f (Lf.v (Value.int IntKind.u8 0)),sV (ByteArray.mk #[]),bV false,PV.f (Lf.v (Value.slice none 0 0)),PV.f (Lf.v (Value.slice none 0 0))],PO.cells [iV (errE z1)]])) ?kr ?_
   case kr=>kernel_rfl
   refine ⟨?s0,fun z1=>fun hz1=>ifB_iff.2 ⟨fun hb0=>?m0,fun hb0=>?m1⟩⟩
   case s0=>exact ⟨hn,hL,hA,hB⟩
   case m0 =>
    obtain ⟨x,rfl⟩:=okE_ex hb0
    exact endR (pv:=fun z=>.tup [tmP (valE Sh.tm.nil z),iV (errE z)]) hz1 (.refl (.tup [tmP x,iV 0])) rfl rfl rfl
   case m1 =>
    obtain e | x:=z1
    · exact endR (pv:=fun z=>.tup [tmP (valE Sh.tm.nil z),iV (errE z)]) hz1 (tupBs (.cons (tm_sub (t:=Sh.tm.nil) rfl) (.cons (.refl _) .nil))) rfl rfl rfl
    · cases hb0
 · cases hs
def i64Of:Lf→Option (List Int)
 | .is .i64 l=>some l
 | .row 1 M=>intsOf .i64 M
 | _=>none
theorem i64Of_sub {x:Lf} {l:List Int} (h:i64Of x=some l):SubB (.f x) (.f (.is .i64 l)):=by
 unfold i64Of at h
 split at h
 · cases h; exact .refl _
 · rename_i M
   obtain ⟨h1,h2⟩:=intsOf_at h
   exact ⟨fun H B v hv=>.f (rd_view (f:=.row 1 M) (f':=.is .i64 l) (k:=1) (n:=M.length) (get:=fun i=>M.getD i []) rfl (by rw [Lf.view,h1]) trivial (Nat.le_refl _) (fun i hi=>(h2 i hi).symm) hv.rd)⟩
 · cases h
def sSameC:Spec
 | [.f x,u,v,.f y]=>match dtOf .tm x,tmOf u,tmOf v,i64Of y with
  | some L,some a,some b,some l=>some (some (l.length≤100000000∧(∀ t∈L,keyOk t)∧keyOk a∧keyOk b),.nm (Except Int Tw) (sameW L a b l) fun z=>.tup [tmP (valE Sh.tm.nil z),iV (errE z)])
  | _,_,_,_=>none
 | _=>none
theorem cSameC {E:Env} (hU:Up E) (hT:∀ K w H,E K w H→Tab w):Contract Tryd.prog E 10 sSameC:=by
 refine contract_D [] [(38,sTriedC)] Tryd.ntmps10 Tryd.func10 (by kernel_rfl) (by kernel_rfl) hU trivial ⟨cTriedC hU hT,trivial⟩ ?_
 intro xs p r hs hp
 unfold sSameC at hs
 split at hs
 · rename_i x u v y
   split at hs
   · rename_i L a b l h1 h2 h3 h4
     cases hs
     obtain ⟨hn,hL,hA,hB⟩:=hp _ rfl
     refine ⟨[.f (.dt .tm L),tmP a,tmP b,.f (.is .i64 l)],[],.cons (dt_sub h1).sub (.cons (tm_sub h2).sub (.cons (tm_sub h3).sub (.cons (i64Of_sub h4).sub .nil))),rfl,fun _ hsh=>?_⟩
     have h0:=hn
     refine cast_rfl (p:=(l.length≤100000000∧(∀ (t:Sh.tm.T),t∈L→keyOk t)∧keyOk (Tw.mk a.kind a.name a.neg a.digits a.kids)∧keyOk (Tw.mk b.kind b.name b.neg b.digits b.kids))∧∀ (z1:Except Int Tw),z1=sameW L (Tw.mk a.kind a.name a.neg a.digits a.kids) (Tw.mk b.kind b.name b.neg b.digits b.kids) l→true=true∧Sub (PV.tup [PV.agg (wrapF (tmC (valE Sh.tm.nil z1))),iV (errE z1)]) (PV.tup [PV.agg (wrapF (tmC (valE Sh.tm.nil (sameW L a b l)))),iV (errE (sameW L a b l))])) ?kr ?_
     case kr=>kernel_rfl
     refine ⟨?s0,fun z1=>fun hz1=>⟨rfl,?m0⟩⟩
     all_goals try simp only [Tw.eta] at *
     case s0=>exact ⟨hn,hL,hA,hB⟩
     case m0=>subst hz1; exact .refl _
   · cases hs
 · cases hs
end Go.Proofs.YtdjnlgkpnjdchaaDoor
