/- The layer norm: Push. -/
import Derived.Test.YtdjnlgkpnjdchaaDoorFd
namespace Go.Proofs.YtdjnlgkpnjdchaaDoor
open Go.RowKit
set_option linter.unusedVariables false
set_option maxRecDepth 100000
def grownB (p:Int × Int) (is:Bool):Bool:=match is with
 | true=>decide (p.1 > 20000)
 | false=>decide (p.2 > 20000)
def normE (D:List Dat) (S:List Srt) (t:Tw) (is:Bool):Except Int Tw:=match sortT D S t with
 | .error e=>.error e
 | .ok s=>if s≠bBool then .error 23 else if grownB (sizT D S t) is=true then .error 34 else .ok (pushT D S t is)
theorem fin_err {r:Except Int Tw} {e:Int} {x:PV} (h:r=.error e) (hx:tmOf x=some Sh.tm.nil):Sub (.tup [x,iV e]) (.tup [tmP (valE Sh.tm.nil r),iV (errE r)]):=by
 subst h
 exact tup_sub (.cons (tm_sub hx).sub (.cons (.refl _) .nil))
theorem fin_ok {r:Except Int Tw} {t:Tw} (h:r=.ok t):Sub (.tup [tmP t,iV 0]) (.tup [tmP (valE Sh.tm.nil r),iV (errE r)]):=by
 subst h
 exact .refl _
theorem norm_no {D:List Dat} {S:List Srt} {t:Tw} {is:Bool} {e:Int} (h:sortT D S t=.error e):normE D S t is=.error e:=by
 unfold normE; rw [h]
theorem norm_not {D:List Dat} {S:List Srt} {t:Tw} {is:Bool} {s:ByteArray} (h:sortT D S t=.ok s) (hs:¬ s=bBool):normE D S t is=.error 23:=by
 unfold normE; rw [h]; exact if_pos hs
theorem norm_grown {D:List Dat} {S:List Srt} {t:Tw} {is:Bool} (h:sortT D S t=.ok bBool) (hs:grownB (sizT D S t) is=true):normE D S t is=.error 34:=by
 unfold normE; rw [h]; exact (if_neg (fun h=>h rfl)).trans (if_pos hs)
theorem norm_ok {D:List Dat} {S:List Srt} {t:Tw} {is:Bool} (h:sortT D S t=.ok bBool) (hs:grownB (sizT D S t) is=false):normE D S t is=.ok (pushT D S t is):=by
 unfold normE; rw [h]; exact (if_neg (fun h=>h rfl)).trans (if_neg (by rw [hs]; decide))
theorem sort_is {D:List Dat} {S:List Srt} {t:Tw} {z:Except Int ByteArray} (hz:z=sortT D S t) (h:errE z=0):∃ s,z=.ok s:=by
 obtain e | s:=z
 · exact absurd h (sortT_err hz.symm)
 · exact ⟨s,rfl⟩
theorem grown_t {p:Int × Int} {is:Bool} (h:is=true):grownB p is=decide (p.1 > 20000):=by subst h; rfl
theorem grown_f {p:Int × Int} {is:Bool} (h:is=false):grownB p is=decide (p.2 > 20000):=by subst h; rfl
def sNorm:Spec
 | [.f x,.f y,z,.f (.v (.bool is))]=>match dtOf .dat x,dtOf .srt y,tmOf z with
  | some D,some S,some t=>some (some (t.fitT∧t.size≤1000000000000),.nm (Except Int Tw) (normE D S t is) fun e=>.tup [tmP (valE Sh.tm.nil e),iV (errE e)])
  | _,_,_=>none
 | _=>none
theorem cNorm {E:Env} (hU:Up E):Contract Tryd.prog E 15 sNorm:=by
 refine contract_D [(49,sSort),(50,sSizF),(52,sPushF),(51,sOwn)] [] Tryd.ntmps15 Tryd.func15 (by kernel_rfl) (by kernel_rfl) hU ⟨cSort hU,cSizF hU,cPushF hU,cOwn hU,trivial⟩ trivial ?_
 intro xs p r hs hp
 unfold sNorm at hs
 split at hs
 · rename_i x y z is
   split at hs
   · rename_i D S t h1 h2 h3
     cases hs
     obtain ⟨hf,hn⟩:=hp _ rfl
     refine ⟨[.f (.dt .dat D),.f (.dt .srt S),tmP t,bV is],[],.cons (dt_sub h1).sub (.cons (dt_sub h2).sub (.cons (tm_sub h3).sub (.cons (.refl _) .nil))),rfl,fun _ hsh=>?_⟩
     refine cast_rfl (p:=(Tw.mk t.kind t.name t.neg t.digits t.kids).fitT∧∀ (z1:Except Int ByteArray),z1=sortT D S (Tw.mk t.kind t.name t.neg t.digits t.kids)→ifB (errE z1 != (0:Int)) (true=true∧Sub (PV.tup [PV.agg [PV.f (Lf.v (Value.int IntKind.u8 0)),sV (ByteArray.mk #[]),bV false,PV.f (Lf.v (Value.slice none 0 0)),PV.f (Lf.v (Value.slice none 0 0))],iV (errE z1)]) (PV.tup [PV.agg (wrapF (tmC (valE Sh.tm.nil (normE D S t is)))),iV (errE (normE D S t is))])) (ifB (!(valE (ByteArray.mk #[]) z1).toList==(ByteArray.mk #[(98:UInt8),(111:UInt8),(111:UInt8),(108:UInt8)]).toList) (true=true∧Sub (PV.tup [PV.agg [PV.f (Lf.v (Value.int IntKind.u8 0)),sV (ByteArray.mk #[]),bV false,PV.f (Lf.v (Value.slice none 0 0)),PV.f (Lf.v (Value.slice none 0 0))],iV 23]) (PV.tup [PV.agg (wrapF (tmC (valE Sh.tm.nil (normE D S t is)))),iV (errE (normE D S t is))])) (((Tw.mk t.kind t.name t.neg t.digits t.kids).size≤1000000000000∧(Tw.mk t.kind t.name t.neg t.digits t.kids).fitT∧sortT D S (Tw.mk t.kind t.name t.neg t.digits t.kids)=Except.ok bBool)∧∀ (z2:Int × Int),z2=sizT D S (Tw.mk t.kind t.name t.neg t.digits t.kids)→ifB is (ifB (decide (z2.fst > (20000:Int))) (true=true∧Sub (PV.tup [PV.agg [PV.f (Lf.v (Value.int IntKind.u8 0)),sV (ByteArray.mk #[]),bV false,PV.f (Lf.v (Value.slice none 0 0)),PV.f (Lf.v (Value.slice none 0 0))],iV 34]) (PV.tup [PV.agg (wrapF (tmC (valE Sh.tm.nil (normE D S t is)))),iV (errE (normE D S t is))])) (ifB (!is) (ifB (decide (z2.snd > (20000:Int))) (true=true∧Sub (PV.tup [PV.agg [PV.f (Lf.v (Value.int IntKind.u8 0)),sV (ByteArray.mk #[]),bV false,PV.f (Lf.v (Value.slice none 0 0)),PV.f (Lf.v (Value.slice none 0 0))],iV 34]) (PV.tup [PV.agg (wrapF (tmC (valE Sh.tm.nil (normE D S t is)))),iV (errE (normE D S t is))])) (((Tw.mk t.kind t.name t.neg t.digits t.kids).fitT∧sortT D S (Tw.mk t.kind t.name t.neg t.digits t.kids)=Except.ok bBool)∧∀ (z3:Tw),z3=pushT D S (Tw.mk t.kind t.name t.neg t.digits t.kids) is→(Tw.mk z3.kind z3.name z3.neg z3.digits z3.kids).fitT∧true=true∧Sub (PV.tup [PV.agg (wrapF (tmC (Tw.mk z3.kind z3.name z3.neg z3.digits z3.kids))),iV 0]) (PV.tup [PV.agg (wrapF (tmC (valE Sh.tm.nil (normE D S t is)))),iV (errE (normE D S t is))]))) (((Tw.mk t.kind t.name t.neg t.digits t.kids).fitT∧sortT D S (Tw.mk t.kind t.name t.neg t.digits t.kids)=Except.ok bBool)∧∀ (z3:Tw),z3=pushT D S (Tw.mk t.kind t.name t.neg t.digits t.kids) is→(Tw.mk z3.kind z3.name z3.neg z3.digits z3.kids).fitT∧true=true∧Sub (PV.tup [PV.agg (wrapF (tmC (Tw.mk z3.kind z3.name z3.neg z3.digits z3.kids))),iV 0]) (PV.tup [PV.agg (wrapF (tmC (valE Sh.tm.nil (normE D S t is)))),iV (errE (normE D S t is))])))) (ifB (!is) (ifB (decide (z2.snd > (20000:Int))) (true=true∧Sub (PV.tup [PV.agg [PV.f (Lf.v (Value.int IntKind.u8 0)),sV (ByteArray.mk #[]),bV false,PV.f (Lf.v (Value.slice none 0 0)),PV.f (Lf.v (Value.slice none 0 0))],iV 34]) (PV.tup [PV.agg (wrapF (tmC (valE Sh.tm.nil (normE D S t is)))),iV (errE (normE D S t is))])) (((Tw.mk t.kind t.name t.neg t.digits t.kids).fitT∧sortT D S (Tw.mk t.kind t.name t.neg t.digits t.kids)=Except.ok bBool)∧∀ (z3:Tw),z3=pushT D S (Tw.mk t.kind t.name t.neg t.digits t.kids) is→(Tw.mk z3.kind z3.name z3.neg z3.digits z3.kids).fitT∧true=true∧Sub (PV.tup [PV.agg (wrapF (tmC (Tw.mk z3.kind z3.name z3.neg z3.digits z3.kids))),iV 0]) (PV.tup [PV.agg (wrapF (tmC (valE Sh.tm.nil (normE D S t is)))),iV (errE (normE D S t is))]))) (((Tw.mk t.kind t.name t.neg t.digits t.kids).fitT∧sortT D S (Tw.mk t.kind t.name t.neg t.digits t.kids)=Except.ok bBool)∧∀ (z3:Tw),z3=pushT D S (Tw.mk t.kind t.name t.neg t.digits t.kids) is→(Tw.mk z3.kind z3.name z3.neg z3.digits z3.kids).fitT∧true=true∧Sub (PV.tup [PV.agg (wrapF (tmC (Tw.mk z3.kind z3.name z3.neg z3.digits z3.kids))),iV 0]) (PV.tup [PV.agg (wrapF (tmC (valE Sh.tm.nil (normE D S t is)))),iV (errE (normE D S t is))])))))) ?kr ?_
     case kr=>kernel_rfl
     refine ⟨?s0,fun z1=>fun hz1=>ifB_iff.2 ⟨fun hb0=>⟨rfl,?m0⟩,fun hb0=>ifB_iff.2 ⟨fun hb1=>⟨rfl,?m1⟩,fun hb1=>⟨?s1,fun z2=>fun hz2=>ifB_iff.2 ⟨fun hb2=>ifB_iff.2 ⟨fun hb3=>⟨rfl,?m2⟩,fun hb3=>ifB_iff.2 ⟨fun hb4=>ifB_iff.2 ⟨fun hb5=>⟨rfl,?m3⟩,fun hb5=>⟨?s2,fun z3=>fun hz3=>⟨?s3,⟨rfl,?m4⟩⟩⟩⟩,fun hb4=>⟨?s4,fun z3=>fun hz3=>⟨?s5,⟨rfl,?m5⟩⟩⟩⟩⟩,fun hb2=>ifB_iff.2 ⟨fun hb6=>ifB_iff.2 ⟨fun hb7=>⟨rfl,?m6⟩,fun hb7=>⟨?s6,fun z3=>fun hz3=>⟨?s7,⟨rfl,?m7⟩⟩⟩⟩,fun hb6=>⟨?s8,fun z3=>fun hz3=>⟨?s9,⟨rfl,?m8⟩⟩⟩⟩⟩⟩⟩⟩⟩
     all_goals try simp only [Tw.eta,bs_l,Bool.not_eq_true',Bool.not_eq_false',bne_iff_ne,ne_eq,bne_eq_false_iff_eq,decide_eq_true_eq,decide_eq_false_iff_not] at *
     case s0=>exact hf
     case m0=>exact fin_err (r:=normE D S t is) (norm_no (hz1.symm.trans (by obtain e | s:=z1 <;> first | rfl | exact absurd rfl hb0))) rfl
     all_goals obtain ⟨s,rfl⟩:=sort_is hz1 hb0
     case m1=>exact fin_err (r:=normE D S t is) (norm_not hz1.symm hb1) rfl
     all_goals obtain rfl:s=bBool:=hb1
     all_goals have hb:=hz1.symm
     case s1=>exact ⟨hn,hf,hb⟩
     case s2=>exact ⟨hf,hb⟩
     case s4=>exact ⟨hf,hb⟩
     case s6=>exact ⟨hf,hb⟩
     case s8=>exact ⟨hf,hb⟩
     case s3=>rw [hz3]; exact push_fit is hf
     case s5=>rw [hz3]; exact push_fit is hf
     case s7=>rw [hz3]; exact push_fit is hf
     case s9=>rw [hz3]; exact push_fit is hf
     case m2=>exact fin_err (r:=normE D S t is) (norm_grown hb (by rw [grown_t hb2,← hz2]; exact decide_eq_true hb3)) rfl
     case m3=>rw [hb2] at hb4; cases hb4
     case m4=>rw [hb2] at hb4; cases hb4
     case m5=>exact fin_ok (r:=normE D S t is) (hz3 ▸ norm_ok hb (by rw [grown_t hb2,← hz2]; exact decide_eq_false hb3))
     case m6=>exact fin_err (r:=normE D S t is) (norm_grown hb (by rw [grown_f hb2,← hz2]; exact decide_eq_true hb7)) rfl
     case m7=>exact fin_ok (r:=normE D S t is) (hz3 ▸ norm_ok hb (by rw [grown_f hb2,← hz2]; exact decide_eq_false hb7))
     case m8=>rw [hb2] at hb6; cases hb6
   · cases hs
 · cases hs
end Go.Proofs.YtdjnlgkpnjdchaaDoor
