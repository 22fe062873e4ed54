/- The layer cong: Same. -/
import Derived.Test.YtemhncjjiomppaaGreatDoorCb
import Derived.Test.YtemhncjjiomppaaGreatDoorVc
namespace Go.Proofs.YtemhncjjiomppaaGreatDoor
open Go.RowKit
set_option linter.unusedVariables false
set_option maxRecDepth 100000
theorem Qjd {L:List Tw} {k k':ByteArray} {l:List Int} {i:Nat} (hi:i<l.length) (h:Qb2 L k (l.take i)=some k'):Qb2 L k (l.take (i+1))=Qbp L k' (l.getD i 0):=by
 rw [List.take_add_one,List.getElem?_eq_getElem hi,Option.toList_some,QhU,h,List.getD_eq_getElem?_getD,List.getElem?_eq_getElem hi]
 dsimp only [Qb2,Option.getD_some]
 cases Qbp L k' l[i] <;> rfl
theorem QoX {L:List Tw} {k:ByteArray} {l:List Int} {i:Nat} (h:Qb2 L k (l.take i)=none):Qb2 L k l=none:=by
 have:=QhU (L:=L) (l:=l.take i) (m:=l.drop i) (k:=k)
 rw [List.take_append_drop,h] at this
 exact this
theorem Qpi {L:List Tw} {a b:Tw} {l:List Int} (h:Qb2 L (keyS a) l=none):Qbd L a b l=.error 31:=by unfold Qbd; rw [h]
theorem Qpk {L:List Tw} {a b:Tw} {l:List Int} {k:ByteArray} (h:Qb2 L (keyS a) l=some k) (hk:¬ k=keyS b):Qbd L a b l=.error 31:=by
 unfold Qbd; rw [h]; exact if_neg hk
theorem Qro {L:List Tw} {s x:ByteArray} {n:Int} (h:Qca L s n=.ok x):Qbp L s n=some x:=by
 unfold Qca at h
 split at h
 · rename_i h1; cases h; exact h1
 · cases h
theorem Qrp {L:List Tw} {s:ByteArray} {n e:Int} (h:Qca L s n=.error e):e=31∧Qbp L s n=none:=by
 unfold Qca at h
 split at h
 · cases h
 · rename_i h1; cases h; exact ⟨rfl,h1⟩
def Qps:Spec2
 | [.bp 0 0,.bp 1 0,.bp 2 0,.bp 3 0],[.cells [.f (.dt .tm L)],.cells [.f (.v (.int .u8 ka)),.f (.v (.string na)),.f (.v (.bool ba)),.f (.lr da ma),.f (.dt .tm la)],.cells [.f (.is .i64 at_)],.cells [.f (.v (.int .u8 kb)),.f (.v (.string nb)),.f (.v (.bool bb)),.f (.lr db mb),.f (.dt .tm lb)]] =>
  some (.need (at_.length≤100000000∧(∀ t∈L,QaH t)∧QaH (.mk ka na ba da la)∧QaH (.mk kb nb bb db lb)) (outE Sh.tm.nil tmP (Qbd L (.mk ka na ba da la) (.mk kb nb bb db lb) at_) [.cells [.f (.dt .tm L)],.cells [.f (.v (.int .u8 ka)),.f (.v (.string na)),.f (.v (.bool ba)),.f (.lr da ma),.f (.dt .tm la)],.cells [.f (.is .i64 at_)],.cells [.f (.v (.int .u8 kb)),.f (.v (.string nb)),.f (.v (.bool bb)),.f (.lr db mb),.f (.dt .tm lb)]]))
 | _,_=>none
theorem cSame1 {E:Env} (hU:Up E) (hT:∀ K w H,E K w H→Tab w):Contract2 Tryz.prog E 55 Qps:=by
 refine contract2 [(8,sKey),(58,sOfC)] [(56,QpO),(57,QfL)] Tryz.ntmps55 Tryz.func55 (by kernel_rfl) (by kernel_rfl) hU ⟨cKey hU hT,cOfC hU,trivial⟩ ⟨cAlong hU hT,Qq9 hU,trivial⟩ ?_
 intro xs ob o hs hok
 unfold Qps at hs
 split at hs
 · rename_i L ka na ba da ma la at_ kb nb bb db mb lb
   cases hs
   obtain ⟨⟨hn,hL,hA,hB⟩,-⟩:=hok
   refine ⟨[.bp 0 0,.bp 1 0,.bp 2 0,.bp 3 0],[(3,.s ⟨Nat × ByteArray,fun x=>⟨[(0,.bp 0 0),(1,.bp 1 0),(2,.bp 2 0),(3,.bp 3 0),(4,.bp 4 0),(5,.bp 5 0),(14,.f (.is .i64 at_)),(15,iV at_.length),(16,iV x.1)],[.cells [.f (.dt .tm L)],.cells [.f (.v (.int .u8 ka)),.f (.v (.string na)),.f (.v (.bool ba)),.f (.lr da ma),.f (.dt .tm la)],.cells [.f (.is .i64 at_)],.cells [.f (.v (.int .u8 kb)),.f (.v (.string nb)),.f (.v (.bool bb)),.f (.lr db mb),.f (.dt .tm lb)]]++[.cells [.f (.v (.int .u8 0)),.f (.v (.string ⟨#[]⟩)),.f (.v (.bool false)),.f (.v (.slice none 0 0)),.f (.v (.slice none 0 0))],.cells [.f (.dt .tm L),sV x.2]]⟩,fun x=>x.1≤at_.length∧Qb2 L (keyS (.mk ka na ba da la)) (at_.take x.1)=some x.2,fun x=>at_.length - x.1⟩)],.cons (.refl _) (.cons (.refl _) (.cons (.refl _) (.cons (.refl _) .nil))),rfl,fun _ hsh=>?_⟩
   refine Qab (p:=(QaZ (Tw.mk ka na ba da la)∧(Tw.mk ka na ba da la).fitT∧(keyB (Tw.mk ka na ba da la)).length≤140737488355328)∧∃ (x1:Nat × ByteArray),(((rfB (dP Sh.tm L)∧True)∧(rfB (uV ka)∧rfB (sV na)∧rfB (bV ba)∧rfB (PV.f (Lf.lr da ma))∧rfB (dP Sh.tm la)∧True)∧(rfB (PV.f (Lf.is IntKind.i64 at_))∧True)∧(rfB (uV kb)∧rfB (sV nb)∧rfB (bV bb)∧rfB (PV.f (Lf.lr db mb))∧rfB (dP Sh.tm lb)∧True)∧(rfB (uV 0)∧rfB (sV (ByteArray.mk #[]))∧rfB (bV false)∧rfB (nlP)∧rfB (nlP)∧True)∧(rfB (dP Sh.tm L)∧SubB (sV (keyS (Tw.mk ka na ba da la))) (sV x1.snd)∧True)∧True)∧rfB (PV.bp 0 0)∧rfB (PV.bp 1 0)∧rfB (PV.bp 2 0)∧rfB (PV.bp 3 0)∧rfB (PV.bp 4 0)∧rfB (PV.bp 5 0)∧rfB (PV.f (Lf.is IntKind.i64 at_))∧rfB (iV (↑at_.length:Int))∧SubB (iV 0) (iV (↑x1.fst:Int))∧True)∧(x1.fst≤at_.length∧Qb2 L (keyS (Tw.mk ka na ba da la)) (List.take x1.fst at_)=some x1.snd)∧True∧∀ (z2:Nat × ByteArray),z2.fst≤at_.length∧Qb2 L (keyS (Tw.mk ka na ba da la)) (List.take z2.fst at_)=some z2.snd→True→ifB (decide ((↑z2.fst:Int)<(↑at_.length:Int))) (((0:Int)≤(↑z2.fst:Int)∧(↑z2.fst:Int)<(↑at_.length:Int))∧(∀ (z3:Sh.tm.T),z3∈L→QaZ z3∧Tw.fitT z3∧(keyB z3).length.le 140737488355328)∧∀ (z3:Except Int ByteArray),z3=Qca L z2.snd (at_.getD (↑z2.fst:Int).toNat (0:Int))→ifB (okE z3) (∃ (x4:Nat × ByteArray),(((rfB (dP Sh.tm L)∧True)∧(rfB (uV ka)∧rfB (sV na)∧rfB (bV ba)∧rfB (PV.f (Lf.lr da ma))∧rfB (dP Sh.tm la)∧True)∧(rfB (PV.f (Lf.is IntKind.i64 at_))∧True)∧(rfB (uV kb)∧rfB (sV nb)∧rfB (bV bb)∧rfB (PV.f (Lf.lr db mb))∧rfB (dP Sh.tm lb)∧True)∧(rfB (uV 0)∧rfB (sV (ByteArray.mk #[]))∧rfB (bV false)∧rfB (nlP)∧rfB (nlP)∧True)∧(rfB (dP Sh.tm L)∧SubB (sV (valE (ByteArray.mk #[]) z3)) (sV x4.snd)∧True)∧True)∧rfB (PV.bp 0 0)∧rfB (PV.bp 1 0)∧rfB (PV.bp 2 0)∧rfB (PV.bp 3 0)∧rfB (PV.bp 4 0)∧rfB (PV.bp 5 0)∧rfB (PV.f (Lf.is IntKind.i64 at_))∧rfB (iV (↑at_.length:Int))∧SubB (iV (IntKind.i64.wrap ((↑z2.fst:Int)+(1:Int)))) (iV (↑x4.fst:Int))∧True)∧(x4.fst≤at_.length∧Qb2 L (keyS (Tw.mk ka na ba da la)) (List.take x4.fst at_)=some x4.snd)∧True∧(at_.length - x4.fst).succ.le (at_.length - z2.fst)) (EndU 4 (Out.need (at_.length≤100000000∧(∀ (t:Sh.tm.T),t∈L→QaH t)∧QaH (Tw.mk ka na ba da la)∧QaH (Tw.mk kb nb bb db lb)) (outE Sh.tm.nil tmP (Qbd L (Tw.mk ka na ba da la) (Tw.mk kb nb bb db lb) at_) [PO.cells [dP Sh.tm L],PO.cells [uV ka,sV na,bV ba,PV.f (Lf.lr da ma),dP Sh.tm la],PO.cells [PV.f (Lf.is IntKind.i64 at_)],PO.cells [uV kb,sV nb,bV bb,PV.f (Lf.lr db mb),dP Sh.tm lb]])).fin false (PV.ifc 49 (iV (errE z3))) [PO.cells [dP Sh.tm L],PO.cells [uV ka,sV na,bV ba,PV.f (Lf.lr da ma),dP Sh.tm la],PO.cells [PV.f (Lf.is IntKind.i64 at_)],PO.cells [uV kb,sV nb,bV bb,PV.f (Lf.lr db mb),dP Sh.tm lb],PO.cells zTP,PO.cells [dP Sh.tm L,sV z2.snd]])) ((QaZ (Tw.mk kb nb bb db lb)∧(Tw.mk kb nb bb db lb).fitT∧(keyB (Tw.mk kb nb bb db lb)).length≤140737488355328)∧ifB (z2.snd.toList==(keyS (Tw.mk kb nb bb db lb)).toList) ((2≤100000000∧Qcg [Tw.mk ka na ba da la,Tw.mk kb nb bb db lb])∧EndU 4 (Out.need (at_.length≤100000000∧(∀ (t:Sh.tm.T),t∈L→QaH t)∧QaH (Tw.mk ka na ba da la)∧QaH (Tw.mk kb nb bb db lb)) (outE Sh.tm.nil tmP (Qbd L (Tw.mk ka na ba da la) (Tw.mk kb nb bb db lb) at_) [PO.cells [dP Sh.tm L],PO.cells [uV ka,sV na,bV ba,PV.f (Lf.lr da ma),dP Sh.tm la],PO.cells [PV.f (Lf.is IntKind.i64 at_)],PO.cells [uV kb,sV nb,bV bb,PV.f (Lf.lr db mb),dP Sh.tm lb]])).fin true (PV.agg [uV ((conT (8:Int) [Tw.mk ka na ba da la,Tw.mk kb nb bb db lb]).kind),sV ((conT (8:Int) [Tw.mk ka na ba da la,Tw.mk kb nb bb db lb]).name),bV ((conT (8:Int) [Tw.mk ka na ba da la,Tw.mk kb nb bb db lb]).neg),PV.f (Lf.lr (conT (8:Int) [Tw.mk ka na ba da la,Tw.mk kb nb bb db lb]).digits 0),dP Sh.tm [Tw.mk ka na ba da la,Tw.mk kb nb bb db lb]]) [PO.cells [dP Sh.tm L],PO.cells [uV ka,sV na,bV ba,PV.f (Lf.lr da ma),dP Sh.tm la],PO.cells [PV.f (Lf.is IntKind.i64 at_)],PO.cells [uV kb,sV nb,bV bb,PV.f (Lf.lr db mb),dP Sh.tm lb],PO.cells [uV ((conT (8:Int) [Tw.mk ka na ba da la,Tw.mk kb nb bb db lb]).kind),sV ((conT (8:Int) [Tw.mk ka na ba da la,Tw.mk kb nb bb db lb]).name),bV ((conT (8:Int) [Tw.mk ka na ba da la,Tw.mk kb nb bb db lb]).neg),PV.f (Lf.lr (conT (8:Int) [Tw.mk ka na ba da la,Tw.mk kb nb bb db lb]).digits 0),dP Sh.tm [Tw.mk ka na ba da la,Tw.mk kb nb bb db lb]],PO.cells [dP Sh.tm L,sV z2.snd]]) (EndU 4 (Out.need (at_.length≤100000000∧(∀ (t:Sh.tm.T),t∈L→QaH t)∧QaH (Tw.mk ka na ba da la)∧QaH (Tw.mk kb nb bb db lb)) (outE Sh.tm.nil tmP (Qbd L (Tw.mk ka na ba da la) (Tw.mk kb nb bb db lb) at_) [PO.cells [dP Sh.tm L],PO.cells [uV ka,sV na,bV ba,PV.f (Lf.lr da ma),dP Sh.tm la],PO.cells [PV.f (Lf.is IntKind.i64 at_)],PO.cells [uV kb,sV nb,bV bb,PV.f (Lf.lr db mb),dP Sh.tm lb]])).fin false (PV.ifc 49 (iV 31)) [PO.cells [dP Sh.tm L],PO.cells [uV ka,sV na,bV ba,PV.f (Lf.lr da ma),dP Sh.tm la],PO.cells [PV.f (Lf.is IntKind.i64 at_)],PO.cells [uV kb,sV nb,bV bb,PV.f (Lf.lr db mb),dP Sh.tm lb],PO.cells zTP,PO.cells [dP Sh.tm L,sV z2.snd]]))) ?kr ?_
   case kr=>kernel_rfl
   refine ⟨?s0,⟨?x0,⟨⟨⟨⟨.refl _,trivial⟩,⟨⟨.refl _,⟨.refl _,⟨.refl _,⟨.refl _,⟨.refl _,trivial⟩⟩⟩⟩⟩,⟨⟨.refl _,trivial⟩,⟨⟨.refl _,⟨.refl _,⟨.refl _,⟨.refl _,⟨.refl _,trivial⟩⟩⟩⟩⟩,⟨⟨.refl _,⟨.refl _,⟨.refl _,⟨.refl _,⟨.refl _,trivial⟩⟩⟩⟩⟩,⟨⟨.refl _,⟨?m0,trivial⟩⟩,trivial⟩⟩⟩⟩⟩⟩,⟨.refl _,⟨.refl _,⟨.refl _,⟨.refl _,⟨.refl _,⟨.refl _,⟨.refl _,⟨.refl _,⟨?m1,trivial⟩⟩⟩⟩⟩⟩⟩⟩⟩⟩,⟨?s1,⟨trivial,fun z2=>fun hq0=>fun _=>Qaa.2 ⟨fun hb1=>⟨?s2,⟨fun z3=>fun hq2=>⟨?s3,⟨?s4,?m2⟩⟩,fun z3=>fun hz3=>Qaa.2 ⟨fun hb3=>⟨?x1,⟨⟨⟨⟨.refl _,trivial⟩,⟨⟨.refl _,⟨.refl _,⟨.refl _,⟨.refl _,⟨.refl _,trivial⟩⟩⟩⟩⟩,⟨⟨.refl _,trivial⟩,⟨⟨.refl _,⟨.refl _,⟨.refl _,⟨.refl _,⟨.refl _,trivial⟩⟩⟩⟩⟩,⟨⟨.refl _,⟨.refl _,⟨.refl _,⟨.refl _,⟨.refl _,trivial⟩⟩⟩⟩⟩,⟨⟨.refl _,⟨?m3,trivial⟩⟩,trivial⟩⟩⟩⟩⟩⟩,⟨.refl _,⟨.refl _,⟨.refl _,⟨.refl _,⟨.refl _,⟨.refl _,⟨.refl _,⟨.refl _,⟨?m4,trivial⟩⟩⟩⟩⟩⟩⟩⟩⟩⟩,⟨?s5,⟨trivial,?m5⟩⟩⟩⟩,fun hb3=>?m6⟩⟩⟩,fun hb1=>⟨?s6,Qaa.2 ⟨fun hb4=>⟨?s7,?m7⟩,fun hb4=>?m8⟩⟩⟩⟩⟩⟩⟩⟩
   case x0=>exact (0,keyS (.mk ka na ba da la))
   case x1=>exact (z2.1+1,valE ⟨#[]⟩ z3)
   all_goals try simp only [bs_l,Int.toNat_natCast,decide_eq_true_eq,decide_eq_false_iff_not,Int.ofNat_lt] at *
   case s0=>exact hA
   case m0=>exact .refl _
   case m1=>exact .refl _
   case s1=>exact ⟨Nat.zero_le _,rfl⟩
   case s2=>omega
   case s3=>exact (hL _ hq2).1
   case s4=>exact (hL _ hq2).2.1
   case m2=>exact (hL _ hq2).2.2
   case m3=>exact .refl _
   case m4=>exact Qai (by rw [wJ _ (by omega) (by omega)]; rfl)
   case s5 =>
    obtain ⟨x,rfl⟩:=QjK hb3
    exact ⟨by show z2.1+1≤at_.length; omega,(Qjd hb1 hq0.2).trans (Qro hz3.symm)⟩
   case m5=>exact (by omega:at_.length - (z2.1+1)<at_.length - z2.1)
   case m6 =>
    obtain e | x:=z3
    · obtain ⟨rfl,h1⟩:=Qrp hz3.symm
      exact Qaj (endU (Qav (Qpi (QoX ((Qjd hb1 hq0.2).trans h1)))) (.refl _) rfl rfl rfl)
    · cases hb3
   case s6=>exact hB
   case s7=>exact ⟨by decide,hA.2.1,hB.2.1,trivial⟩
   all_goals have hw:=hq0.2
   all_goals rw [List.take_of_length_le (by omega)] at hw
   case m7=>exact Qaj (endU (Qce (Qt4 (hw.trans (congrArg some hb4)))) (.refl _) rfl rfl rfl)
   case m8=>exact Qaj (endU (Qav (Qpk hw hb4)) (.refl _) rfl rfl rfl)
 · cases hs
theorem tupBs {l m:List PV} (h:SubsB l m):SubB (.tup l) (.tup m):=⟨fun H B v hv=>by
 obtain ⟨vs,rfl,h1⟩:=PRs.of_tup hv
 have h2:=h.prs h1
 exact .tup (by simpa using h2.1) fun i u x hu hx=>h2.2 i u x (by simpa using hu) hx⟩
def QkY:Spec2
 | [.fn 55 [] [.bp 0 0,.bp 1 0,.bp 2 0,.bp 3 0]],[.cells [.f (.dt .tm L)],.cells [.f (.v (.int .u8 ka)),.f (.v (.string na)),.f (.v (.bool ba)),.f (.lr da ma),.f (.dt .tm la)],.cells [.f (.is .i64 at_)],.cells [.f (.v (.int .u8 kb)),.f (.v (.string nb)),.f (.v (.bool bb)),.f (.lr db mb),.f (.dt .tm lb)]] =>
  some (.need (at_.length≤100000000∧(∀ t∈L,QaH t)∧QaH (.mk ka na ba da la)∧QaH (.mk kb nb bb db lb)) (.nm (Except Int Tw) (Qbd L (.mk ka na ba da la) (.mk kb nb bb db lb) at_) fun z=>.ret (.tup [tmP (valE Sh.tm.nil z),iV (errE z)]) [.cells [.f (.dt .tm L)],.cells [.f (.v (.int .u8 ka)),.f (.v (.string na)),.f (.v (.bool ba)),.f (.lr da ma),.f (.dt .tm la)],.cells [.f (.is .i64 at_)],.cells [.f (.v (.int .u8 kb)),.f (.v (.string nb)),.f (.v (.bool bb)),.f (.lr db mb),.f (.dt .tm lb)]]))
 | _,_=>none
theorem Qvl {E:Env} (hU:Up E) (hT:∀ K w H,E K w H→Tab w):Contract2 Tryz.prog E 54 QkY:=by
 refine QbY (cf:=102) [] [(55,Qps)] Tryz.ntmps54 Tryz.func54 rfl (by kernel_rfl) hU trivial ⟨cSame1 hU hT,trivial⟩ rfl rfl rfl rfl rfl rfl Tryz.ntmps102 Tryz.func102 rfl rfl rfl rfl rfl rfl rfl (by kernel_rfl) (by kernel_rfl) (by kernel_rfl) ?_
 intro xs ob o hs hok
 unfold QkY at hs
 split at hs
 · rename_i L ka na ba da ma la at_ kb nb bb db mb lb
   cases hs
   obtain ⟨⟨hn,hL,hA,hB⟩,-⟩:=hok
   refine ⟨[.fn 55 [] [.bp 0 0,.bp 1 0,.bp 2 0,.bp 3 0]],.cons (.refl _) .nil,rfl,?_⟩
   refine Qab (p:=(at_.length≤100000000∧(∀ (t:Sh.tm.T),t∈L→QaH t)∧QaH (Tw.mk ka na ba da la)∧QaH (Tw.mk kb nb bb db lb))∧∀ (z1:Except Int Sh.tm.T),z1=Qbd L (Tw.mk ka na ba da la) (Tw.mk kb nb bb db lb) at_→ifB (okE z1) (EndU 4 (Out.need (at_.length≤100000000∧(∀ (t:Sh.tm.T),t∈L→QaH t)∧QaH (Tw.mk ka na ba da la)∧QaH (Tw.mk kb nb bb db lb)) (Out.nm (Except Int Tw) (Qbd L (Tw.mk ka na ba da la) (Tw.mk kb nb bb db lb) at_) fun (z:Except Int Tw)=>Out.ret (PV.tup [tmP (valE Sh.tm.nil z),iV (errE z)]) [PO.cells [dP Sh.tm L],PO.cells [uV ka,sV na,bV ba,PV.f (Lf.lr da ma),dP Sh.tm la],PO.cells [PV.f (Lf.is IntKind.i64 at_)],PO.cells [uV kb,sV nb,bV bb,PV.f (Lf.lr db mb),dP Sh.tm lb]])).fin true (PV.tup [PV.agg (Qac (tmC (valE Sh.tm.nil z1))),iV 0]) [PO.cells [dP Sh.tm L],PO.cells [uV ka,sV na,bV ba,PV.f (Lf.lr da ma),dP Sh.tm la],PO.cells [PV.f (Lf.is IntKind.i64 at_)],PO.cells [uV kb,sV nb,bV bb,PV.f (Lf.lr db mb),dP Sh.tm lb],PO.cells (Qac (tmC (valE Sh.tm.nil z1))),PO.cells [iV 0]]) (EndU 4 (Out.need (at_.length≤100000000∧(∀ (t:Sh.tm.T),t∈L→QaH t)∧QaH (Tw.mk ka na ba da la)∧QaH (Tw.mk kb nb bb db lb)) (Out.nm (Except Int Tw) (Qbd L (Tw.mk ka na ba da la) (Tw.mk kb nb bb db lb) at_) fun (z:Except Int Tw)=>Out.ret (PV.tup [tmP (valE Sh.tm.nil z),iV (errE z)]) [PO.cells [dP Sh.tm L],PO.cells [uV ka,sV na,bV ba,PV.f (Lf.lr da ma),dP Sh.tm la],PO.cells [PV.f (Lf.is IntKind.i64 at_)],PO.cells [uV kb,sV nb,bV bb,PV.f (Lf.lr db mb),dP Sh.tm lb]])).fin true (PV.tup [PV.agg zTP,iV (errE z1)]) [PO.cells [dP Sh.tm L],PO.cells [uV ka,sV na,bV ba,PV.f (Lf.lr da ma),dP Sh.tm la],PO.cells [PV.f (Lf.is IntKind.i64 at_)],PO.cells [uV kb,sV nb,bV bb,PV.f (Lf.lr db mb),dP Sh.tm lb],PO.cells zTP,PO.cells [iV (errE z1)]])) ?kr ?_
   case kr=>kernel_rfl
   refine ⟨?s0,fun z1=>fun hz1=>Qaa.2 ⟨fun hb0=>?m0,fun hb0=>?m1⟩⟩
   case s0=>exact ⟨hn,hL,hA,hB⟩
   case m0 =>
    obtain ⟨x,rfl⟩:=QjK hb0
    exact endR (pv:=fun z=>.tup [tmP (valE Sh.tm.nil z),iV (errE z)]) hz1 (.refl (.tup [tmP x,iV 0])) rfl rfl rfl
   case m1 =>
    obtain e | x:=z1
    · exact endR (pv:=fun z=>.tup [tmP (valE Sh.tm.nil z),iV (errE z)]) hz1 (tupBs (.cons (QaS (t:=Sh.tm.nil) rfl) (.cons (.refl _) .nil))) rfl rfl rfl
    · cases hb0
 · cases hs
def i64Of:Lf→Option (List Int)
 | .is .i64 l=>some l
 | .row 1 M=>QdI .i64 M
 | _=>none
theorem Qj1 {x:Lf} {l:List Int} (h:i64Of x=some l):SubB (.f x) (.f (.is .i64 l)):=by
 unfold i64Of at h
 split at h
 · cases h; exact .refl _
 · rename_i M
   obtain ⟨h1,h2⟩:=Qc8 h
   exact ⟨fun H B v hv=>.f (Qif (f:=.row 1 M) (f':=.is .i64 l) (k:=1) (n:=M.length) (get:=fun i=>M.getD i []) rfl (by rw [Lf.view,h1]) trivial (Nat.le_refl _) (fun i hi=>(h2 i hi).symm) hv.rd)⟩
 · cases h
def Qmf:Spec
 | [.f x,u,v,.f y]=>match dtOf .tm x,tmOf u,tmOf v,i64Of y with
  | some L,some a,some b,some l=>some (some (l.length≤100000000∧(∀ t∈L,QaH t)∧QaH a∧QaH b),.nm (Except Int Tw) (Qbd L a b l) fun z=>.tup [tmP (valE Sh.tm.nil z),iV (errE z)])
  | _,_,_,_=>none
 | _=>none
theorem Qtp {E:Env} (hU:Up E) (hT:∀ K w H,E K w H→Tab w):Contract Tryz.prog E 22 Qmf:=by
 refine Qad [] [(54,QkY)] Tryz.ntmps22 Tryz.func22 (by kernel_rfl) (by kernel_rfl) hU trivial ⟨Qvl hU hT,trivial⟩ ?_
 intro xs p r hs hp
 unfold Qmf at hs
 split at hs
 · rename_i x u v y
   split at hs
   · rename_i L a b l h1 h2 h3 h4
     cases hs
     obtain ⟨hn,hL,hA,hB⟩:=hp _ rfl
     refine ⟨[.f (.dt .tm L),tmP a,tmP b,.f (.is .i64 l)],[],.cons (Qby h1).sub (.cons (QaS h2).sub (.cons (QaS h3).sub (.cons (Qj1 h4).sub .nil))),rfl,fun _ hsh=>?_⟩
     have h0:=hn
     refine Qab (p:=(l.length≤100000000∧(∀ (t:Sh.tm.T),t∈L→QaH t)∧QaH (etaT a)∧QaH (etaT b))∧∀ (z1:Except Int Tw),z1=Qbd L (etaT a) (etaT b) l→true=true∧Sub (PV.tup [PV.agg (Qac (tmC (valE Sh.tm.nil z1))),iV (errE z1)]) (PV.tup [PV.agg (Qac (tmC (valE Sh.tm.nil (Qbd L a b l)))),iV (errE (Qbd L a b l))])) ?kr ?_
     case kr=>kernel_rfl
     refine ⟨?s0,fun z1=>fun hz1=>⟨rfl,?m0⟩⟩
     all_goals try simp only [etaT] at *
     all_goals try simp only [Tw.eta] at *
     case s0=>exact ⟨hn,hL,hA,hB⟩
     case m0=>subst hz1; exact .refl _
   · cases hs
 · cases hs
end Go.Proofs.YtemhncjjiomppaaGreatDoor
