/- The law KindOnce returns true for any type, term and names: PROVED as the given tied card says it, where what it reads is of bulk at most 1048576, in every world that holds the row's listed package variables as the program's own text lays them; no other condition. -/
import Derived.Test.YtijfaigpilfpaaaGreatDoorHz
import Derived.Test.YtijfaigpilfpaaaGreatDoorRowY
import Derived.Test.YtijfaigpilfpaaaGreatDoorRowS
import Derived.Test.YtijfaigpilfpaaaGreatDoorHx
import Derived.LaidMore
import Derived.Carry
import Derived.Deep.DeepWitnessRowRef
set_option linter.unusedSimpArgs false
namespace Go.Proofs.YtijfaigpilfpaaaGreatDoor.rowKindOnce
open Go.ChangeShapes Go.WideShapes Go.ChangeAt Go.RowKit
set_option maxRecDepth 100000 in
theorem contract (H:Type) (enc:TypeId × Value→H) (W:World) (base:Nat) (args:Array Value) (ds gs:List (DataW H)) (before:List MemPlace)
  (hval:∀ (j:Nat) t v,Tryz.f3.params[j]?=some t→args[j]?=some v→Value.okWide Tryz.prog W .any base t v)
  (hW:DataW.Whole enc Tryz.prog Tryz.f3.params.toList Rows.kindOnceSpec.vars false W args.toList ds gs before) (hL:laidMetH Tryz.prog Rows.kindOnceUptoRow.laid W) (hK:Rows.uptoBulkAll (ds++gs)≤1048576) :
  Calls Tryz.prog 3 args W fun e W'=>∃ v,e=.returned v∧Rows.kindOnceSpec.post enc Tryz.prog Tryz.f3 false true false false W args v W':=by
 have hW':=hW
 obtain ⟨p,q,hA0,hV,rfl,_,_⟩:=hW
 have hA:DataW.TrodAll enc Tryz.prog W 0 (fun _=>true) true Tryz.f3.params.toList args.toList ds p:=hA0
 rw [Tryz.params3] at hA hval
 obtain ⟨v0,v1,v2,d0,d1,d2,p0,p1,p2,rfl,rfl,hp,h0,h1,h2⟩:=trodAll_three hA
 obtain ⟨rfl,rfl⟩:=trodVars_none hV
 clear hA0
 subst hp
 simp only [List.append_nil] at hW'
 have hlt:∀ x∈p0++p1++p2,x.block<W.heap.size:=fun x hx=>by simpa using hW'.lt x (by simpa using hx)
 obtain ⟨a0,r0,b0⟩:=ty_atK (hval 0 32 v0 rfl rfl) h0
 obtain ⟨a1,r1,b1⟩:=Qp1 (hval 1 28 v1 rfl rfl) h1
 obtain ⟨a2,r2,b2⟩:=Qsu (hval 2 33 v2 rfl rfl) h2
 simp only [List.append_nil,Rows.uptoBulkAll] at hK
 have htab:Tab W:=tabT rfl hL
 have q0:=Qkx a0 (by omega)
 have q1:QaQ a1:=QhX a1 (by omega)
 have q2:=QkW a2
 have q3:=QsS a0
 refine (cOnce EZ.up EZ.tab (QtI EZ.up) [tyP a0,tmP a1,.f (.dt .str a2)] _ _ rfl (by exact fun q hq=>by cases hq; (try simp only [Tw.eta]); (try simp only [Vw.eta]); (try simp only [Yw.eta]); exact ⟨Qqm q0.1 q1 (by omega),by omega,by omega,by omega,fun n hn=>Nat.le_trans (QkZ hn) (by omega)⟩) W (H0 W) [v0,v1,v2] (fro0 W) (EZ.of htab) (.cons r0 (.cons r1 (.cons r2 .nil)))).mono fun e W' ⟨H',v,he,hx,hv⟩=>?_
 subst he
 have hv':=hv.val
 subst hv'
 have hb:=hx.bel
 refine ⟨_,rfl,_,_,_,[],_,[],hW',trodAll_mk1 (shut_bool Tryz.underlying4 _),trodAll_mk3 (Qeu 32 (by kernel_rfl) (of_decide_eq_true (by kernel_rfl)) h0 (fun x hx=>hlt x (by simp [hx])) hb) (Qeu 28 (by kernel_rfl) (of_decide_eq_true (by kernel_rfl)) h1 (fun x hx=>hlt x (by simp [hx])) hb) (Qeu 33 (by kernel_rfl) (of_decide_eq_true (by kernel_rfl)) h2 (fun x hx=>hlt x (by simp [hx])) hb),rfl,hb.frame _,fun h=>by cases h⟩
theorem laid_met (os:Os):laidMet Tryz.prog Rows.kindOnceUptoRow.laid ((World.doorLaid Tryz.prog 400 os).forCall (fun _ _=>0) ⟨#[],#[.agg #[.bool false,.string ⟨#[]⟩,.int .u8 0,.string ⟨#[]⟩,.bool false,.slice none 0 0,.slice none 0 0,.slice none 0 0,.slice none 0 0],.agg #[.int .u8 0,.string ⟨#[]⟩,.bool false,.slice none 0 0,.slice none 0 0],.slice none 0 0],[]⟩).memory :=
 laidMet_of_run' 8 (by kernel_rfl) (by kernel_rfl)
theorem reads (os:Os) {H:Type} (enc:TypeId × Value→H):∃ places,DataW.whole enc Tryz.prog ((World.doorLaid Tryz.prog 400 os).forCall (fun _ _=>0) ⟨#[],#[.agg #[.bool false,.string ⟨#[]⟩,.int .u8 0,.string ⟨#[]⟩,.bool false,.slice none 0 0,.slice none 0 0,.slice none 0 0,.slice none 0 0],.agg #[.int .u8 0,.string ⟨#[]⟩,.bool false,.slice none 0 0,.slice none 0 0],.slice none 0 0],[]⟩).memory Tryz.f3.params.toList (Rows.OpenSpec.upto Rows.kindOnceSpec).vars false (#[.agg #[.bool false,.string ⟨#[]⟩,.int .u8 0,.string ⟨#[]⟩,.bool false,.slice none 0 0,.slice none 0 0,.slice none 0 0,.slice none 0 0],.agg #[.int .u8 0,.string ⟨#[]⟩,.bool false,.slice none 0 0,.slice none 0 0],.slice none 0 0]:Array Value).toList 8=some ([.agg [.lit (.bool false),.lit (.string []),.agg [.lit (.int .u8 0),.lit (.string []),.agg [.lit (.bool false),.nil],.nil],.nil,.nil],.agg [.lit (.int .u8 0),.lit (.string []),.agg [.lit (.bool false),.nil],.nil],.nil],[],places) :=
 ⟨[],by kernel_rfl⟩
set_option maxRecDepth 100000 in
theorem lifted (os:Os) (started:os.Started) (H:Type) (enc:TypeId × Value→H) (F:Stop.Interp) :
  ReturnsInHanded {} Tryz.checked os 3 .any ((Rows.OpenSpec.upto Rows.kindOnceSpec).preRow enc Tryz.prog Tryz.f3 Rows.kindOnceUptoRow.domain false Rows.kindOnceUptoRow.laid) (((Rows.OpenSpec.upto Rows.kindOnceSpec).at F).post enc Tryz.prog Tryz.f3 false true false false):=by
 obtain ⟨places,hx⟩:=reads os enc
 refine returnsInHanded_of_row (C:=Tryz.checked) (s:=Rows.OpenSpec.upto Rows.kindOnceSpec) own' started (by kernel_rfl) Tryz.func3
  (witness_row_atRef (enc:=enc) (C:=Tryz.checked) false (World.doorLaid Tryz.prog 400 os) #[.agg #[.bool false,.string ⟨#[]⟩,.int .u8 0,.string ⟨#[]⟩,.bool false,.slice none 0 0,.slice none 0 0,.slice none 0 0,.slice none 0 0],.agg #[.int .u8 0,.string ⟨#[]⟩,.bool false,.slice none 0 0,.slice none 0 0],.slice none 0 0] rfl (by kernel_rfl) (by kernel_rfl) (by kernel_rfl)
   (OpenSpec.preRow_of_cond 8 hx (by kernel_rfl) (fun k hk=>by cases hk; rfl) (by kernel_rfl) (laid_met os))) ?_
 intro W base args ds gs before hval hW _ hK _ hL _ _
 exact contract H enc W base args ds gs before hval hW hL (of_decide_eq_true (hK _ rfl))
theorem said:Rows.KindOnceUptoSaid :=
 OpenClaim.holds_of_cond 3 Tryz.f3 rfl rfl rfl rfl rfl rfl rfl ⟨rfl,rfl,rfl,rfl,rfl⟩ rfl rfl rfl rfl rfl (by kernel_rfl) Tryz.func3 (by kernel_rfl)
  (of_decide_eq_true (by kernel_rfl)) (by unfold Func.isWrapper; first | (rw [if_pos (by decide +kernel)]; kernel_rfl) | (rw [if_neg (by decide +kernel)]; exact ⟨rfl,rfl⟩))
  (fun os started H enc _ F=>by rw [OpenClaim.pre_eq_preRow]; exact lifted os started H enc F)
theorem plain (f : FuncId) (fn : Func) (hf : Tryz.pinned.checked.prog.funcNamed "whetstone/whetstonelaw14.KindOnce" = some f) (hfn : Tryz.pinned.checked.prog.funcs[f]? = some fn) :
  true=Tryz.pinned.checked.prog.looks []∧∀ (j:Nat) t,fn.params[j]?=some t→Tryz.pinned.checked.prog.wantsStandIn t=false:=by
 obtain rfl : f = 3 := Option.some.inj ((show Tryz.prog.funcNamed "whetstone/whetstonelaw14.KindOnce" = some 3 by kernel_rfl).symm.trans hf) |>.symm
 obtain rfl:fn=Tryz.f3:=(Option.some.inj (Tryz.func3.symm.trans hfn)).symm
 refine ⟨by kernel_rfl,fun j t ht=>?_⟩
 rw [Tryz.params3] at ht
 have hm:=Array.mem_of_getElem? ht
 simp at hm
 rcases hm with rfl | rfl | rfl
 · exact (show Tryz.prog.wantsStandIn 32=false by kernel_rfl)
 · exact (show Tryz.prog.wantsStandIn 28=false by kernel_rfl)
 · exact (show Tryz.prog.wantsStandIn 33=false by kernel_rfl)
theorem card:Rows.KindOnceUptoCardSaid :=
 Claim7.holds_tied_plain_at .later [] _ _ _ _ said (fun _ h=>by cases h) (by kernel_rfl) (fun _ h=>by cases h) kindOnceUpto_row_tie rfl ⟨rfl,rfl⟩ (by kernel_rfl) rfl plain (by kernel_rfl)
end Go.Proofs.YtijfaigpilfpaaaGreatDoor.rowKindOnce
