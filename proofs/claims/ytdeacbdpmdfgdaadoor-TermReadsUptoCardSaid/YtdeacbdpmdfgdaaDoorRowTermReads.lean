/- The law TermReads returns true for any text, term, place and byte: PROVED as the given tied card says it, where what it reads is of bulk at most 1048576, in every world that holds the row's listed package variables as the program's own text lays them; no other condition. -/
import Derived.Test.YtdeacbdpmdfgdaaDoorYm
import Derived.Test.YtdeacbdpmdfgdaaDoorRowX
import Derived.LaidMore
import Derived.Carry
import Derived.Deep.DeepWitnessRowRef
set_option linter.unusedSimpArgs false
namespace Go.Proofs.YtdeacbdpmdfgdaaDoor.rowTermReads
open Go.ChangeShapes Go.WideShapes Go.ChangeAt Go.RowKit
set_option maxRecDepth 100000 in
theorem contract (H:Type) (enc:TypeId × Value→H) (W:World) (base:Nat) (args:Array Value) (ds gs:List (DataW H)) (before:List MemPlace)
  (hval:∀ (j:Nat) t v,Tryd.f4.params[j]?=some t→args[j]?=some v→Value.okWide Tryd.prog W .any base t v)
  (hW:DataW.Whole enc Tryd.prog Tryd.f4.params.toList Rows.termReadsSpec.vars false W args.toList ds gs before) (hL:laidMetH Tryd.prog Rows.termReadsUptoRow.laid W) (hS:W.ShapedOpen Tryd.prog) (hK:Rows.uptoBulkAll (ds++gs)≤1048576) :
  Calls Tryd.prog 4 args W fun e W'=>∃ v,e=.returned v∧Rows.termReadsSpec.post enc Tryd.prog Tryd.f4 false true false false W args v W':=by
 have hW':=hW
 obtain ⟨p,q,hA0,hV,rfl,_,_⟩:=hW
 have hA:DataW.TrodAll enc Tryd.prog W 0 (fun _=>true) true Tryd.f4.params.toList args.toList ds p:=hA0
 rw [Tryd.params4] at hA hval
 obtain ⟨v0,v1,v2,v3,d0,d1,d2,d3,p0,p1,p2,p3,rfl,rfl,hp,h0,h1,h2,h3⟩:=trodAll_four hA
 obtain ⟨rfl,rfl⟩:=trodVars_none hV
 clear hA0
 subst hp
 simp only [List.append_nil] at hW'
 have hlt:∀ x∈p0++p1++p2++p3,x.block<W.heap.size:=fun x hx=>by simpa using hW'.lt x (by simpa using hx)
 obtain ⟨a0,r0,b0⟩:=str_at (hval 0 9 v0 rfl rfl) h0
 obtain ⟨a1,r1,b1⟩:=term_atK (hval 1 28 v1 rfl rfl) h1
 obtain ⟨a2,rfl,rfl,rfl,w2⟩:=open_int Tryd.underlying3 (hval 2 3 v2 rfl rfl) h2
 obtain ⟨a3,rfl,rfl,rfl,w3⟩:=open_int Tryd.underlying5 (hval 3 5 v3 rfl rfl) h3
 simp only [List.append_nil,Rows.uptoBulkAll] at hK
 have htab:Tab W:=tabT rfl hL
 have q1:kindR a1:=bad_kind a1 (by omega)
 refine (cReads [.f (.v (.string a0)),tmP a1,.f (.v (.int .i64 a2)),.f (.v (.int .u8 a3))] _ _ rfl (by exact fun q hq=>by cases hq; (try simp only [Tw.eta]); (try simp only [Vw.eta]); exact ⟨by omega,q1,by omega⟩) W (H0 W) [v0,v1,.int .i64 a2,.int .u8 a3] (fro0 W) ⟨⟨EZ.of htab,max_at hS⟩,errsT rfl rfl hL⟩ (.cons r0 (.cons r1 (.cons (.f (.v _ rfl)) (.cons (.f (.v _ rfl)) .nil))))).mono fun e W' ⟨H',v,he,hx,hv⟩=>?_
 subst he
 have hv':=hv.val
 subst hv'
 have hb:=hx.bel
 refine ⟨_,rfl,_,_,_,[],_,[],hW',trodAll_mk1 (shut_bool Tryd.underlying4 _),trodAll_mk4 (args_keep' 9 (by kernel_rfl) (of_decide_eq_true (by kernel_rfl)) h0 (fun x hx=>hlt x (by simp [hx])) hb) (args_keep' 28 (by kernel_rfl) (of_decide_eq_true (by kernel_rfl)) h1 (fun x hx=>hlt x (by simp [hx])) hb) (shut_int Tryd.underlying3 w2) (shut_int Tryd.underlying5 w3),rfl,hb.frame _,fun h=>by cases h⟩
theorem laid_met (os:Os):laidMet Tryd.prog Rows.termReadsUptoRow.laid ((World.doorLaid Tryd.prog 400 os).forCall (fun _ _=>0) ⟨#[],#[.string ⟨#[]⟩,.agg #[.int .u8 0,.string ⟨#[]⟩,.bool false,.slice none 0 0,.slice none 0 0],.int .i64 0,.int .u8 0],[]⟩).memory :=
 laidMet_of_run' 8 (by kernel_rfl) (by kernel_rfl)
theorem reads (os:Os) {H:Type} (enc:TypeId × Value→H):∃ places,DataW.whole enc Tryd.prog ((World.doorLaid Tryd.prog 400 os).forCall (fun _ _=>0) ⟨#[],#[.string ⟨#[]⟩,.agg #[.int .u8 0,.string ⟨#[]⟩,.bool false,.slice none 0 0,.slice none 0 0],.int .i64 0,.int .u8 0],[]⟩).memory Tryd.f4.params.toList (Rows.OpenSpec.upto Rows.termReadsSpec).vars false (#[.string ⟨#[]⟩,.agg #[.int .u8 0,.string ⟨#[]⟩,.bool false,.slice none 0 0,.slice none 0 0],.int .i64 0,.int .u8 0]:Array Value).toList 8=some ([.lit (.string []),.agg [.lit (.int .u8 0),.lit (.string []),.agg [.lit (.bool false),.nil],.nil],.lit (.int .i64 0),.lit (.int .u8 0)],[],places) :=
 ⟨[],by kernel_rfl⟩
set_option maxRecDepth 100000 in
theorem lifted (os:Os) (started:os.Started) (H:Type) (enc:TypeId × Value→H) (F:Stop.Interp) :
  ReturnsInHanded {} Tryd.checked os 4 .any ((Rows.OpenSpec.upto Rows.termReadsSpec).preRow enc Tryd.prog Tryd.f4 Rows.termReadsUptoRow.domain false Rows.termReadsUptoRow.laid) (((Rows.OpenSpec.upto Rows.termReadsSpec).at F).post enc Tryd.prog Tryd.f4 false true false false):=by
 obtain ⟨places,hx⟩:=reads os enc
 refine returnsInHanded_of_row (C:=Tryd.checked) (s:=Rows.OpenSpec.upto Rows.termReadsSpec) own' started (by kernel_rfl) Tryd.func4
  (witness_row_atRef (enc:=enc) (C:=Tryd.checked) false (World.doorLaid Tryd.prog 400 os) #[.string ⟨#[]⟩,.agg #[.int .u8 0,.string ⟨#[]⟩,.bool false,.slice none 0 0,.slice none 0 0],.int .i64 0,.int .u8 0] rfl (by kernel_rfl) (by kernel_rfl) (by kernel_rfl)
   (OpenSpec.preRow_of_cond 8 hx (by kernel_rfl) (fun k hk=>by cases hk; rfl) (by kernel_rfl) (laid_met os))) ?_
 intro W base args ds gs before hval hW _ hK _ hL hS _
 exact contract H enc W base args ds gs before hval hW hL hS (of_decide_eq_true (hK _ rfl))
theorem said:Rows.TermReadsUptoSaid :=
 OpenClaim.holds_of_cond 4 Tryd.f4 rfl rfl rfl rfl rfl rfl rfl ⟨rfl,rfl,rfl,rfl,rfl⟩ rfl rfl rfl rfl rfl (by kernel_rfl) Tryd.func4 (by kernel_rfl)
  (of_decide_eq_true (by kernel_rfl)) (by unfold Func.isWrapper; first | (rw [if_pos (by decide +kernel)]; kernel_rfl) | (rw [if_neg (by decide +kernel)]; exact ⟨rfl,rfl⟩))
  (fun os started H enc _ F=>by rw [OpenClaim.pre_eq_preRow]; exact lifted os started H enc F)
theorem plain (f : FuncId) (fn : Func) (hf : Tryd.pinned.checked.prog.funcNamed "whetstone/whetstonelaw04.TermReads" = some f) (hfn : Tryd.pinned.checked.prog.funcs[f]? = some fn) :
  true=Tryd.pinned.checked.prog.looks []∧∀ (j:Nat) t,fn.params[j]?=some t→Tryd.pinned.checked.prog.wantsStandIn t=false:=by
 obtain rfl : f = 4 := Option.some.inj ((show Tryd.prog.funcNamed "whetstone/whetstonelaw04.TermReads" = some 4 by kernel_rfl).symm.trans hf) |>.symm
 obtain rfl:fn=Tryd.f4:=(Option.some.inj (Tryd.func4.symm.trans hfn)).symm
 refine ⟨by kernel_rfl,fun j t ht=>?_⟩
 rw [Tryd.params4] at ht
 have hm:=Array.mem_of_getElem? ht
 simp at hm
 rcases hm with rfl | rfl | rfl | rfl
 · exact (show Tryd.prog.wantsStandIn 9=false by kernel_rfl)
 · exact (show Tryd.prog.wantsStandIn 28=false by kernel_rfl)
 · exact (show Tryd.prog.wantsStandIn 3=false by kernel_rfl)
 · exact (show Tryd.prog.wantsStandIn 5=false by kernel_rfl)
theorem card:Rows.TermReadsUptoCardSaid :=
 Claim7.holds_tied_plain_at .later [] _ _ _ _ said (fun _ h=>by cases h) (by kernel_rfl) (fun _ h=>by cases h) termReadsUpto_row_tie rfl ⟨rfl,rfl⟩ (by kernel_rfl) rfl plain (by kernel_rfl)
end Go.Proofs.YtdeacbdpmdfgdaaDoor.rowTermReads
