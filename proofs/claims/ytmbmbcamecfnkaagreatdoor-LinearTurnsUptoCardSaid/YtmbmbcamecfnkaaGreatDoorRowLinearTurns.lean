/- The law LinearTurns returns true for any linears and ratios: PROVED as the given tied card says it, where what it reads is of bulk at most 1048576, in every world that holds the row's listed package variables as the program's own text lays them; no other condition. -/
import Derived.Test.YtmbmbcamecfnkaaGreatDoorLx
import Derived.Test.YtmbmbcamecfnkaaGreatDoorRowL
import Derived.LaidMore
import Derived.Carry
import Derived.Deep.DeepWitnessRowRef
set_option linter.unusedSimpArgs false
namespace Go.Proofs.YtmbmbcamecfnkaaGreatDoor.rowLinearTurns
open Go.ChangeShapes Go.WideShapes Go.ChangeAt Go.RowKit
set_option maxRecDepth 100000 in
theorem contract (H:Type) (enc:TypeId × Value→H) (W:World) (base:Nat) (args:Array Value) (ds gs:List (DataW H)) (before:List MemPlace)
  (hval:∀ (j:Nat) t v,Tryz.f4.params[j]?=some t→args[j]?=some v→Value.okWide Tryz.prog W .any base t v)
  (hW:DataW.Whole enc Tryz.prog Tryz.f4.params.toList Rows.linearTurnsSpec.vars false W args.toList ds gs before) (hL:laidMetH Tryz.prog Rows.linearTurnsUptoRow.laid W) (hK:Rows.uptoBulkAll (ds++gs)≤1048576) :
  Calls Tryz.prog 4 args W fun e W'=>∃ v,e=.returned v∧Rows.linearTurnsSpec.post enc Tryz.prog Tryz.f4 false true false false W args v W':=by
 have hW':=hW
 obtain ⟨p,q,hA0,hV,rfl,_,_⟩:=hW
 have hA:DataW.TrodAll enc Tryz.prog W 0 (fun _=>true) true Tryz.f4.params.toList args.toList ds p:=hA0
 rw [Tryz.params4] at hA hval
 obtain ⟨v0,v1,v2,v3,d0,d1,d2,d3,p0,p1,p2,p3,rfl,rfl,hp,h0,h1,h2,h3⟩:=trodAll_four hA
 obtain ⟨rfl,rfl⟩:=trodVars_none hV
 clear hA0
 subst hp
 simp only [List.append_nil] at hW'
 have hlt:∀ x∈p0++p1++p2++p3,x.block<W.heap.size:=fun x hx=>by simpa using hW'.lt x (by simpa using hx)
 obtain ⟨a0,r0,b0⟩:=ln_at (hval 0 50 v0 rfl rfl) h0
 obtain ⟨a1,r1,b1⟩:=ln_at (hval 1 50 v1 rfl rfl) h1
 obtain ⟨a2,r2,b2⟩:=Qss (hval 2 52 v2 rfl rfl) h2
 obtain ⟨a3,r3,b3⟩:=Qss (hval 3 52 v3 rfl rfl) h3
 simp only [List.append_nil,Rows.uptoBulkAll] at hK
 have htab:Tab W:=tabT rfl hL
 have q0:a2.1.2.1.length≤100000000:=by have:=b2.2.1; omega
 have q1:a2.2.2.1.length≤100000000:=by have:=b2.2.2; omega
 have q2:a3.1.2.1.length≤100000000:=by have:=b3.2.1; omega
 have q3:a3.2.2.1.length≤100000000:=by have:=b3.2.2; omega
 refine (Qum [.agg [.f (.dt .str (a0).K),.f (.zs (a0).C),.f (.v (.bool (a0).n)),.f (.lr (a0).l (a0).k)],.agg [.f (.dt .str (a1).K),.f (.zs (a1).C),.f (.v (.bool (a1).n)),.f (.lr (a1).l (a1).k)],.agg [.f (.v (.bool (a2).1.1)),.f (.lr (a2).1.2.1 (a2).1.2.2),.f (.v (.bool (a2).2.1)),.f (.lr (a2).2.2.1 (a2).2.2.2)],.agg [.f (.v (.bool (a3).1.1)),.f (.lr (a3).1.2.1 (a3).1.2.2),.f (.v (.bool (a3).2.1)),.f (.lr (a3).2.2.1 (a3).2.2.2)]] _ _ rfl (by exact fun q hq=>by cases hq; (try simp only [Tw.eta]); (try simp only [Vw.eta]); exact ⟨⟨b0.fit (by omega),b1.fit (by omega)⟩,⟨b0.1,b1.1⟩,⟨b2.1.1,b2.1.2,b3.1.1,b3.1.2⟩,q0,q1,q2,q3⟩) W (H0 W) [v0,v1,v2,v3] (fro0 W) (EZ.of htab) (.cons r0 (.cons r1 (.cons r2 (.cons r3 .nil))))).mono fun e W' ⟨H',v,he,hx,hv⟩=>?_
 subst he
 have hv':=hv.val
 subst hv'
 have hb:=hx.bel
 refine ⟨_,rfl,_,_,_,[],_,[],hW',trodAll_mk1 (shut_bool Tryz.underlying4 _),trodAll_mk4 (Qd4 50 (by kernel_rfl) (of_decide_eq_true (by kernel_rfl)) h0 (fun x hx=>hlt x (by simp [hx])) hb) (Qd4 50 (by kernel_rfl) (of_decide_eq_true (by kernel_rfl)) h1 (fun x hx=>hlt x (by simp [hx])) hb) (Qd4 52 (by kernel_rfl) (of_decide_eq_true (by kernel_rfl)) h2 (fun x hx=>hlt x (by simp [hx])) hb) (Qd4 52 (by kernel_rfl) (of_decide_eq_true (by kernel_rfl)) h3 (fun x hx=>hlt x (by simp [hx])) hb),rfl,hb.frame _,fun h=>by cases h⟩
theorem laid_met (os:Os):laidMet Tryz.prog Rows.linearTurnsUptoRow.laid ((World.doorLaid Tryz.prog 400 os).forCall (fun _ _=>0) ⟨#[],#[.agg #[.slice none 0 0,.slice none 0 0,.bool false,.slice none 0 0],.agg #[.slice none 0 0,.slice none 0 0,.bool false,.slice none 0 0],.agg #[.bool false,.slice none 0 0,.bool false,.slice none 0 0],.agg #[.bool false,.slice none 0 0,.bool false,.slice none 0 0]],[]⟩).memory :=
 laidMet_of_run' 8 (by kernel_rfl) (by kernel_rfl)
theorem reads (os:Os) {H:Type} (enc:TypeId × Value→H):∃ places,DataW.whole enc Tryz.prog ((World.doorLaid Tryz.prog 400 os).forCall (fun _ _=>0) ⟨#[],#[.agg #[.slice none 0 0,.slice none 0 0,.bool false,.slice none 0 0],.agg #[.slice none 0 0,.slice none 0 0,.bool false,.slice none 0 0],.agg #[.bool false,.slice none 0 0,.bool false,.slice none 0 0],.agg #[.bool false,.slice none 0 0,.bool false,.slice none 0 0]],[]⟩).memory Tryz.f4.params.toList (Rows.OpenSpec.upto Rows.linearTurnsSpec).vars false (#[.agg #[.slice none 0 0,.slice none 0 0,.bool false,.slice none 0 0],.agg #[.slice none 0 0,.slice none 0 0,.bool false,.slice none 0 0],.agg #[.bool false,.slice none 0 0,.bool false,.slice none 0 0],.agg #[.bool false,.slice none 0 0,.bool false,.slice none 0 0]]:Array Value).toList 8=some ([.agg [.nil,.nil,.agg [.lit (.bool false),.nil]],.agg [.nil,.nil,.agg [.lit (.bool false),.nil]],.agg [.agg [.lit (.bool false),.nil],.agg [.lit (.bool false),.nil]],.agg [.agg [.lit (.bool false),.nil],.agg [.lit (.bool false),.nil]]],[],places) :=
 ⟨[],by kernel_rfl⟩
set_option maxRecDepth 100000 in
theorem lifted (os:Os) (started:os.Started) (H:Type) (enc:TypeId × Value→H) (F:Stop.Interp) :
  ReturnsInHanded {} Tryz.checked os 4 .any ((Rows.OpenSpec.upto Rows.linearTurnsSpec).preRow enc Tryz.prog Tryz.f4 Rows.linearTurnsUptoRow.domain false Rows.linearTurnsUptoRow.laid) (((Rows.OpenSpec.upto Rows.linearTurnsSpec).at F).post enc Tryz.prog Tryz.f4 false true false false):=by
 obtain ⟨places,hx⟩:=reads os enc
 refine returnsInHanded_of_row (C:=Tryz.checked) (s:=Rows.OpenSpec.upto Rows.linearTurnsSpec) own' started (by kernel_rfl) Tryz.func4
  (witness_row_atRef (enc:=enc) (C:=Tryz.checked) false (World.doorLaid Tryz.prog 400 os) #[.agg #[.slice none 0 0,.slice none 0 0,.bool false,.slice none 0 0],.agg #[.slice none 0 0,.slice none 0 0,.bool false,.slice none 0 0],.agg #[.bool false,.slice none 0 0,.bool false,.slice none 0 0],.agg #[.bool false,.slice none 0 0,.bool false,.slice none 0 0]] rfl (by kernel_rfl) (by kernel_rfl) (by kernel_rfl)
   (OpenSpec.preRow_of_cond 8 hx (by kernel_rfl) (fun k hk=>by cases hk; rfl) (by kernel_rfl) (laid_met os))) ?_
 intro W base args ds gs before hval hW _ hK _ hL _ _
 exact contract H enc W base args ds gs before hval hW hL (of_decide_eq_true (hK _ rfl))
theorem and2 {a b:Bool} (h:a=true) (h1:b=true):(a && b)=true:=by rw [h,h1]; rfl
theorem c9:(Rows.linearTurnsUptoRow.inPlace==Tryz.pinned.checked.prog.inPlace 4)=true:=by kernel_rfl
theorem c10:(Rows.linearTurnsUptoRow.unfollowed==Tryz.pinned.checked.prog.unfollowed 4)=true:=by kernel_rfl
theorem c11:(Rows.linearTurnsUptoRow.recurses==Tryz.pinned.checked.prog.recurses 4)=true:=by kernel_rfl
theorem c12:(Rows.linearTurnsUptoRow.named==Tryz.pinned.checked.prog.varsNamed 4)=true:=by kernel_rfl
theorem closed:joinedFacts Tryz.pinned.checked.prog 4 Tryz.f4 (OpenSpec.bare (Rows.OpenSpec.upto Rows.linearTurnsSpec)) Rows.linearTurnsUptoRow=true :=
 (and2 (and2 (and2 (and2 (and2 (and2 (and2 (and2 (and2 (and2 (and2 (and2 (and2 (and2 (and2 (and2 (and2 (and2 (and2 (and2 (and2 (and2 (and2 (and2 (and2 (and2 (and2 (and2 (and2 (and2 (and2 (by kernel_rfl) (by kernel_rfl)) (by kernel_rfl)) (by kernel_rfl)) (by kernel_rfl)) (by kernel_rfl)) (by kernel_rfl)) (by kernel_rfl)) (by kernel_rfl)) c9) c10) c11) c12) (by kernel_rfl)) (by kernel_rfl)) (by kernel_rfl)) (by kernel_rfl)) (by kernel_rfl)) (by kernel_rfl)) (by kernel_rfl)) (by kernel_rfl)) (by kernel_rfl)) (by kernel_rfl)) (by kernel_rfl)) (by kernel_rfl)) (by kernel_rfl)) (by kernel_rfl)) (by kernel_rfl)) (by kernel_rfl)) (by kernel_rfl)) (by kernel_rfl)) (by kernel_rfl))
theorem said:Rows.LinearTurnsUptoSaid :=
 OpenClaim.holds_of_cond 4 Tryz.f4 rfl rfl rfl rfl rfl rfl rfl ⟨rfl,rfl,rfl,rfl,rfl⟩ rfl rfl rfl rfl rfl (by kernel_rfl) Tryz.func4 closed
  (of_decide_eq_true (by kernel_rfl)) (by unfold Func.isWrapper; first | (rw [if_pos (by decide +kernel)]; kernel_rfl) | (rw [if_neg (by decide +kernel)]; exact ⟨rfl,rfl⟩))
  (fun os started H enc _ F=>by rw [OpenClaim.pre_eq_preRow]; exact lifted os started H enc F)
theorem plain (f : FuncId) (fn : Func) (hf : Tryz.pinned.checked.prog.funcNamed "whetstone/whetstonelaw06.LinearTurns" = some f) (hfn : Tryz.pinned.checked.prog.funcs[f]? = some fn) :
  true=Tryz.pinned.checked.prog.looks []∧∀ (j:Nat) t,fn.params[j]?=some t→Tryz.pinned.checked.prog.wantsStandIn t=false:=by
 obtain rfl : f = 4 := Option.some.inj ((show Tryz.prog.funcNamed "whetstone/whetstonelaw06.LinearTurns" = some 4 by kernel_rfl).symm.trans hf) |>.symm
 obtain rfl:fn=Tryz.f4:=(Option.some.inj (Tryz.func4.symm.trans hfn)).symm
 refine ⟨by kernel_rfl,fun j t ht=>?_⟩
 rw [Tryz.params4] at ht
 have hm:=Array.mem_of_getElem? ht
 simp at hm
 rcases hm with rfl | rfl
 · exact (show Tryz.prog.wantsStandIn 50=false by kernel_rfl)
 · exact (show Tryz.prog.wantsStandIn 52=false by kernel_rfl)
theorem card:Rows.LinearTurnsUptoCardSaid :=
 Claim7.holds_tied_plain_at .later [] _ _ _ _ said (fun _ h=>by cases h) (by kernel_rfl) (fun _ h=>by cases h) linearTurnsUpto_row_tie rfl ⟨rfl,rfl⟩ (by kernel_rfl) rfl plain (by kernel_rfl)
end Go.Proofs.YtmbmbcamecfnkaaGreatDoor.rowLinearTurns
