/- The law CongSound returns true for any data, scope, values, facts, terms, path and function: PROVED as the given tied card says it, where what it reads is of bulk at most 1048576, in every world that holds the row's listed package variables as the program's own text lays them; no other condition. -/
import Derived.Test.YtemhncjjiomppaaGreatDoorCi
import Derived.Test.YtemhncjjiomppaaGreatDoorRowT
import Derived.Test.YtemhncjjiomppaaGreatDoorRowC
import Derived.Test.YtemhncjjiomppaaGreatDoorRowE
import Derived.LaidMore
import Derived.Carry
import Derived.Deep.DeepWitnessRowRef
set_option linter.unusedSimpArgs false
namespace Go.Proofs.YtemhncjjiomppaaGreatDoor.rowCongSound
open Go.ChangeShapes Go.WideShapes Go.ChangeAt Go.RowKit
set_option maxRecDepth 100000 in
theorem contract (H:Type) (enc:TypeId × Value→H) (W:World) (base:Nat) (args:Array Value) (ds gs:List (DataW H)) (before:List MemPlace)
  (hval:∀ (j:Nat) t v,Tryz.f4.params[j]?=some t→args[j]?=some v→Value.okWide Tryz.prog W .any base t v)
  (hW:DataW.Whole enc Tryz.prog Tryz.f4.params.toList Rows.congSoundSpec.vars false W args.toList ds gs before) (hL:laidMetH Tryz.prog Rows.congSoundUptoRow.laid W) (hK:Rows.uptoBulkAll (ds++gs)≤1048576) :
  Calls Tryz.prog 4 args W fun e W'=>∃ v,e=.returned v∧Rows.congSoundSpec.post enc Tryz.prog Tryz.f4 false true false false W args v W':=by
 have hW':=hW
 obtain ⟨p,q,hA0,hV,rfl,_,_⟩:=hW
 have hA:DataW.TrodAll enc Tryz.prog W 0 (fun _=>true) true Tryz.f4.params.toList args.toList ds p:=hA0
 rw [Tryz.params4] at hA hval
 obtain ⟨v0,v1,v2,v3,v4,v5,v6,v7,d0,d1,d2,d3,d4,d5,d6,d7,p0,p1,p2,p3,p4,p5,p6,p7,rfl,rfl,hp,h0,h1,h2,h3,h4,h5,h6,h7⟩:=QhZ hA
 obtain ⟨rfl,rfl⟩:=trodVars_none hV
 clear hA0
 subst hp
 simp only [List.append_nil] at hW'
 have hlt:∀ x∈p0++p1++p2++p3++p4++p5++p6++p7,x.block<W.heap.size:=fun x hx=>by simpa using hW'.lt x (by simpa using hx)
 obtain ⟨a0,r0,b0⟩:=Qu9 (hval 0 40 v0 rfl rfl) h0
 obtain ⟨a1,r1,b1⟩:=Qt0 (hval 1 41 v1 rfl rfl) h1
 obtain ⟨a2,r2,b2⟩:=QvS (hval 2 42 v2 rfl rfl) h2
 obtain ⟨a3,r3,b3⟩:=Qo3 (hval 3 26 v3 rfl rfl) h3
 obtain ⟨a4,r4,b4⟩:=Ql7 (hval 4 28 v4 rfl rfl) h4
 obtain ⟨a5,r5,b5⟩:=Ql7 (hval 5 28 v5 rfl rfl) h5
 obtain ⟨a6,r6,b6⟩:=QuT (hval 6 43 v6 rfl rfl) h6
 obtain ⟨a7,r7,b7⟩:=str_at (hval 7 9 v7 rfl rfl) h7
 simp only [List.append_nil,Rows.uptoBulkAll] at hK
 have htab:Tab W:=tabT rfl hL
 have q3:QdG a3:=QgR a3 (by omega)
 have q4:QaZ a4:=Qi4 a4 (by omega)
 have q5:QaZ a5:=Qi4 a5 (by omega)
 refine (Qvo [.f (.dt .dat a0),.f (.dt .srt a1),.f (.dt .bnd a2),.f (.dt .tm a3),tmP a4,tmP a5,.f (.is .i64 a6),.f (.v (.string a7))] _ _ rfl (by exact fun q hq=>by cases hq; (try simp only [Tw.eta]); (try simp only [Vw.eta]); exact ⟨⟨by omega,by omega,by omega,by omega,by omega⟩,⟨q3,q4,q5⟩,by omega⟩) W (H0 W) [v0,v1,v2,v3,v4,v5,v6,v7] (fro0 W) (EZ.of htab) (.cons r0 (.cons r1 (.cons r2 (.cons r3 (.cons r4 (.cons r5 (.cons r6 (.cons r7 .nil))))))))).mono fun e W' ⟨H',v,he,hx,hv⟩=>?_
 subst he
 have hv':=hv.val
 subst hv'
 have hb:=hx.bel
 refine ⟨_,rfl,_,_,_,[],_,[],hW',trodAll_mk1 (shut_bool Tryz.underlying4 _),QkP (Qbh 40 (by kernel_rfl) (of_decide_eq_true (by kernel_rfl)) h0 (fun x hx=>hlt x (by simp [hx])) hb) (Qbh 41 (by kernel_rfl) (of_decide_eq_true (by kernel_rfl)) h1 (fun x hx=>hlt x (by simp [hx])) hb) (Qbh 42 (by kernel_rfl) (of_decide_eq_true (by kernel_rfl)) h2 (fun x hx=>hlt x (by simp [hx])) hb) (Qbh 26 (by kernel_rfl) (of_decide_eq_true (by kernel_rfl)) h3 (fun x hx=>hlt x (by simp [hx])) hb) (Qbh 28 (by kernel_rfl) (of_decide_eq_true (by kernel_rfl)) h4 (fun x hx=>hlt x (by simp [hx])) hb) (Qbh 28 (by kernel_rfl) (of_decide_eq_true (by kernel_rfl)) h5 (fun x hx=>hlt x (by simp [hx])) hb) (Qbh 43 (by kernel_rfl) (of_decide_eq_true (by kernel_rfl)) h6 (fun x hx=>hlt x (by simp [hx])) hb) (Qbh 9 (by kernel_rfl) (of_decide_eq_true (by kernel_rfl)) h7 (fun x hx=>hlt x (by simp [hx])) hb),rfl,hb.frame _,fun h=>by cases h⟩
theorem laid_met (os:Os):laidMet Tryz.prog Rows.congSoundUptoRow.laid ((World.doorLaid Tryz.prog 400 os).forCall (fun _ _=>0) ⟨#[],#[.slice none 0 0,.slice none 0 0,.slice none 0 0,.slice none 0 0,.agg #[.int .u8 0,.string ⟨#[]⟩,.bool false,.slice none 0 0,.slice none 0 0],.agg #[.int .u8 0,.string ⟨#[]⟩,.bool false,.slice none 0 0,.slice none 0 0],.slice none 0 0,.string ⟨#[]⟩],[]⟩).memory :=
 laidMet_of_run' 8 (by kernel_rfl) (by kernel_rfl)
theorem reads (os:Os) {H:Type} (enc:TypeId × Value→H):∃ places,DataW.whole enc Tryz.prog ((World.doorLaid Tryz.prog 400 os).forCall (fun _ _=>0) ⟨#[],#[.slice none 0 0,.slice none 0 0,.slice none 0 0,.slice none 0 0,.agg #[.int .u8 0,.string ⟨#[]⟩,.bool false,.slice none 0 0,.slice none 0 0],.agg #[.int .u8 0,.string ⟨#[]⟩,.bool false,.slice none 0 0,.slice none 0 0],.slice none 0 0,.string ⟨#[]⟩],[]⟩).memory Tryz.f4.params.toList (Rows.OpenSpec.upto Rows.congSoundSpec).vars false (#[.slice none 0 0,.slice none 0 0,.slice none 0 0,.slice none 0 0,.agg #[.int .u8 0,.string ⟨#[]⟩,.bool false,.slice none 0 0,.slice none 0 0],.agg #[.int .u8 0,.string ⟨#[]⟩,.bool false,.slice none 0 0,.slice none 0 0],.slice none 0 0,.string ⟨#[]⟩]:Array Value).toList 8=some ([.nil,.nil,.nil,.nil,.agg [.lit (.int .u8 0),.lit (.string []),.agg [.lit (.bool false),.nil],.nil],.agg [.lit (.int .u8 0),.lit (.string []),.agg [.lit (.bool false),.nil],.nil],.nil,.lit (.string [])],[],places) :=
 ⟨[],by kernel_rfl⟩
set_option maxRecDepth 100000 in
theorem lifted (os:Os) (started:os.Started) (H:Type) (enc:TypeId × Value→H) (F:Stop.Interp) :
  ReturnsInHanded {} Tryz.checked os 4 .any ((Rows.OpenSpec.upto Rows.congSoundSpec).preRow enc Tryz.prog Tryz.f4 Rows.congSoundUptoRow.domain false Rows.congSoundUptoRow.laid) (((Rows.OpenSpec.upto Rows.congSoundSpec).at F).post enc Tryz.prog Tryz.f4 false true false false):=by
 obtain ⟨places,hx⟩:=reads os enc
 refine returnsInHanded_of_row (C:=Tryz.checked) (s:=Rows.OpenSpec.upto Rows.congSoundSpec) own' started (by kernel_rfl) Tryz.func4
  (witness_row_atRef (enc:=enc) (C:=Tryz.checked) false (World.doorLaid Tryz.prog 400 os) #[.slice none 0 0,.slice none 0 0,.slice none 0 0,.slice none 0 0,.agg #[.int .u8 0,.string ⟨#[]⟩,.bool false,.slice none 0 0,.slice none 0 0],.agg #[.int .u8 0,.string ⟨#[]⟩,.bool false,.slice none 0 0,.slice none 0 0],.slice none 0 0,.string ⟨#[]⟩] rfl (by kernel_rfl) (by kernel_rfl) (by kernel_rfl)
   (OpenSpec.preRow_of_cond 8 hx (by kernel_rfl) (fun k hk=>by cases hk; rfl) (by kernel_rfl) (laid_met os))) ?_
 intro W base args ds gs before hval hW _ hK _ hL _ _
 exact contract H enc W base args ds gs before hval hW hL (of_decide_eq_true (hK _ rfl))
theorem said:Rows.CongSoundUptoSaid :=
 OpenClaim.holds_of_cond 4 Tryz.f4 rfl rfl rfl rfl rfl rfl rfl ⟨rfl,rfl,rfl,rfl,rfl⟩ rfl rfl rfl rfl rfl (by kernel_rfl) Tryz.func4 (by kernel_rfl)
  (of_decide_eq_true (by kernel_rfl)) (by unfold Func.isWrapper; first | (rw [if_pos (by decide +kernel)]; kernel_rfl) | (rw [if_neg (by decide +kernel)]; exact ⟨rfl,rfl⟩))
  (fun os started H enc _ F=>by rw [OpenClaim.pre_eq_preRow]; exact lifted os started H enc F)
theorem plain (f : FuncId) (fn : Func) (hf : Tryz.pinned.checked.prog.funcNamed "whetstone/whetstonelaw08.CongSound" = some f) (hfn : Tryz.pinned.checked.prog.funcs[f]? = some fn) :
  true=Tryz.pinned.checked.prog.looks []∧∀ (j:Nat) t,fn.params[j]?=some t→Tryz.pinned.checked.prog.wantsStandIn t=false:=by
 obtain rfl : f = 4 := Option.some.inj ((show Tryz.prog.funcNamed "whetstone/whetstonelaw08.CongSound" = some 4 by kernel_rfl).symm.trans hf) |>.symm
 obtain rfl:fn=Tryz.f4:=(Option.some.inj (Tryz.func4.symm.trans hfn)).symm
 refine ⟨by kernel_rfl,fun j t ht=>?_⟩
 rw [Tryz.params4] at ht
 have hm:=Array.mem_of_getElem? ht
 simp at hm
 rcases hm with rfl | rfl | rfl | rfl | rfl | rfl | rfl
 · exact (show Tryz.prog.wantsStandIn 40=false by kernel_rfl)
 · exact (show Tryz.prog.wantsStandIn 41=false by kernel_rfl)
 · exact (show Tryz.prog.wantsStandIn 42=false by kernel_rfl)
 · exact (show Tryz.prog.wantsStandIn 26=false by kernel_rfl)
 · exact (show Tryz.prog.wantsStandIn 28=false by kernel_rfl)
 · exact (show Tryz.prog.wantsStandIn 43=false by kernel_rfl)
 · exact (show Tryz.prog.wantsStandIn 9=false by kernel_rfl)
theorem card:Rows.CongSoundUptoCardSaid :=
 Claim7.holds_tied_plain_at .later [] _ _ _ _ said (fun _ h=>by cases h) (by kernel_rfl) (fun _ h=>by cases h) congSoundUpto_row_tie rfl ⟨rfl,rfl⟩ (by kernel_rfl) rfl plain (by kernel_rfl)
end Go.Proofs.YtemhncjjiomppaaGreatDoor.rowCongSound
