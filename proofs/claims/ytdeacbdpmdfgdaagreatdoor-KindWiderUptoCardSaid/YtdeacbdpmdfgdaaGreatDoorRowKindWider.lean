/- The law KindWider returns true for any data, kappas, scope, type and name with its sort: PROVED as the given tied card says it, where what it reads is of bulk at most 1048576, in every world that holds the row's listed package variables as the program's own text lays them; no other condition. -/
import Derived.Test.YtdeacbdpmdfgdaaGreatDoorHs
import Derived.Test.YtdeacbdpmdfgdaaGreatDoorRowY
import Derived.LaidMore
import Derived.Carry
import Derived.Deep.DeepWitnessRowRef
set_option linter.unusedSimpArgs false
namespace Go.Proofs.YtdeacbdpmdfgdaaGreatDoor.rowKindWider
open Go.ChangeShapes Go.WideShapes Go.ChangeAt Go.RowKit
theorem QhL {H:Type} {enc:TypeId × Value→H} {P:Program} {w:World} {base:Nat} {spare:Nat→Bool} {held:Bool} {t t' t'' t3 t4:TypeId} {args:Array Value} {ds:List (DataW H)} {ps:List MemPlace} (h:DataW.TrodAll enc P w base spare held [t,t',t'',t3,t4] args.toList ds ps) :
  ∃ v v' v'' v3 v4 d d' d'' d3 d4 p p' p'' p3 p4,args=#[v,v',v'',v3,v4]∧ds=[d,d',d'',d3,d4]∧ps=p++p'++p''++p3++p4∧DataW.Trod enc P w base spare held t v d p∧DataW.Trod enc P w base spare held t' v' d' p'∧DataW.Trod enc P w base spare held t'' v'' d'' p''∧DataW.Trod enc P w base spare held t3 v3 d3 p3∧DataW.Trod enc P w base spare held t4 v4 d4 p4:=by
 obtain ⟨v,vs,d,ds',p,q,hargs,rfl,rfl,hd,hrest⟩:=trodAll_cons h
 obtain ⟨v',vs',d',ds'',p',q',rfl,rfl,rfl,hd',hrest'⟩:=trodAll_cons hrest
 obtain ⟨v'',vs'',d'',ds''',p'',q'',rfl,rfl,rfl,hd'',hrest''⟩:=trodAll_cons hrest'
 obtain ⟨v3,vs3,d3,ds3,p3,q3,rfl,rfl,rfl,hd3,hrest3⟩:=trodAll_cons hrest''
 obtain ⟨v4,vs4,d4,ds4,p4,q4,rfl,rfl,rfl,hd4,hrest4⟩:=trodAll_cons hrest3
 obtain ⟨rfl,rfl,rfl⟩:=trodAll_nil hrest4
 exact ⟨v,v',v'',v3,v4,d,d',d'',d3,d4,p,p',p'',p3,p4,by cases args; simp_all,rfl,by simp,hd,hd',hd'',hd3,hd4⟩
theorem QiM {H:Type} {enc:TypeId × Value→H} {P:Program} {w:World} {base:Nat} {spare:Nat→Bool} {held:Bool} {t t' t'' t3 t4:TypeId} {v v' v'' v3 v4:Value} {d d' d'' d3 d4:DataW H} {p p' p'' p3 p4:List MemPlace} (h:DataW.Trod enc P w base spare held t v d p) (h':DataW.Trod enc P w base spare held t' v' d' p')
  (h'':DataW.Trod enc P w base spare held t'' v'' d'' p'') (h3:DataW.Trod enc P w base spare held t3 v3 d3 p3) (h4:DataW.Trod enc P w base spare held t4 v4 d4 p4):DataW.TrodAll enc P w base spare held [t,t',t'',t3,t4] [v,v',v'',v3,v4] [d,d',d'',d3,d4] (p++(p'++(p''++(p3++p4)))) :=
 ⟨p,p'++(p''++(p3++p4)),h,trodAll_mk4 h' h'' h3 h4,rfl⟩
set_option maxRecDepth 100000 in
theorem contract (H:Type) (enc:TypeId × Value→H) (W:World) (base:Nat) (args:Array Value) (ds gs:List (DataW H)) (before:List MemPlace)
  (hval:∀ (j:Nat) t v,Tryz.f3.params[j]?=some t→args[j]?=some v→Value.okWide Tryz.prog W .any base t v)
  (hW:DataW.Whole enc Tryz.prog Tryz.f3.params.toList Rows.kindWiderSpec.vars false W args.toList ds gs before) (hL:laidMetH Tryz.prog Rows.kindWiderUptoRow.laid W) (hK:Rows.uptoBulkAll (ds++gs)≤1048576) :
  Calls Tryz.prog 3 args W fun e W'=>∃ v,e=.returned v∧Rows.kindWiderSpec.post enc Tryz.prog Tryz.f3 false true false false W args v W':=by
 have hW':=hW
 obtain ⟨p,q,hA0,hV,rfl,_,_⟩:=hW
 have hA:DataW.TrodAll enc Tryz.prog W 0 (fun _=>true) true Tryz.f3.params.toList args.toList ds p:=hA0
 rw [Tryz.params3] at hA hval
 obtain ⟨v0,v1,v2,v3,v4,d0,d1,d2,d3,d4,p0,p1,p2,p3,p4,rfl,rfl,hp,h0,h1,h2,h3,h4⟩:=QhL hA
 obtain ⟨rfl,rfl⟩:=trodVars_none hV
 clear hA0
 subst hp
 simp only [List.append_nil] at hW'
 have hlt:∀ x∈p0++p1++p2++p3++p4,x.block<W.heap.size:=fun x hx=>by simpa using hW'.lt x (by simpa using hx)
 obtain ⟨a0,r0,b0⟩:=QrF (hval 0 22 v0 rfl rfl) h0
 obtain ⟨a1,r1,b1⟩:=Qru (hval 1 23 v1 rfl rfl) h1
 obtain ⟨a2,r2,b2⟩:=QqT (hval 2 24 v2 rfl rfl) h2
 obtain ⟨a3,r3,b3⟩:=ty_atK (hval 3 35 v3 rfl rfl) h3
 obtain ⟨a4,r4,b4⟩:=srt_at (hval 4 37 v4 rfl rfl) h4
 simp only [List.append_nil,Rows.uptoBulkAll] at hK
 have htab:Tab W:=tabT rfl hL
 have q3:=QjO a3 (by omega)
 refine (cWider EZ.up EZ.tab [.f (.dt .dat a0),.f (.dt .kap a1),.f (.dt .srt a2),tyP a3,.agg [.f (.v (.string (a4).name)),.f (.v (.string (a4).sort))]] _ _ rfl (by exact fun q hq=>by cases hq; (try simp only [Tw.eta]); (try simp only [Vw.eta]); (try simp only [Yw.eta]); exact ⟨⟨q3.1,QnA (by omega)⟩,by omega,by omega,by omega,by have:=QiR a2; omega⟩) W (H0 W) [v0,v1,v2,v3,v4] (fro0 W) (EZ.of htab) (.cons r0 (.cons r1 (.cons r2 (.cons r3 (.cons r4 .nil)))))).mono fun e W' ⟨H',v,he,hx,hv⟩=>?_
 subst he
 have hv':=hv.val
 subst hv'
 have hb:=hx.bel
 refine ⟨_,rfl,_,_,_,[],_,[],hW',trodAll_mk1 (shut_bool Tryz.underlying4 _),QiM (QbZ 22 (by kernel_rfl) (of_decide_eq_true (by kernel_rfl)) h0 (fun x hx=>hlt x (by simp [hx])) hb) (QbZ 23 (by kernel_rfl) (of_decide_eq_true (by kernel_rfl)) h1 (fun x hx=>hlt x (by simp [hx])) hb) (QbZ 24 (by kernel_rfl) (of_decide_eq_true (by kernel_rfl)) h2 (fun x hx=>hlt x (by simp [hx])) hb) (QbZ 35 (by kernel_rfl) (of_decide_eq_true (by kernel_rfl)) h3 (fun x hx=>hlt x (by simp [hx])) hb) (QbZ 37 (by kernel_rfl) (of_decide_eq_true (by kernel_rfl)) h4 (fun x hx=>hlt x (by simp [hx])) hb),rfl,hb.frame _,fun h=>by cases h⟩
theorem laid_met (os:Os):laidMet Tryz.prog Rows.kindWiderUptoRow.laid ((World.doorLaid Tryz.prog 400 os).forCall (fun _ _=>0) ⟨#[],#[.slice none 0 0,.slice none 0 0,.slice none 0 0,.agg #[.bool false,.string ⟨#[]⟩,.int .u8 0,.string ⟨#[]⟩,.bool false,.slice none 0 0,.slice none 0 0,.slice none 0 0,.slice none 0 0],.agg #[.string ⟨#[]⟩,.string ⟨#[]⟩]],[]⟩).memory :=
 laidMet_of_run' 8 (by kernel_rfl) (by kernel_rfl)
theorem reads (os:Os) {H:Type} (enc:TypeId × Value→H):∃ places,DataW.whole enc Tryz.prog ((World.doorLaid Tryz.prog 400 os).forCall (fun _ _=>0) ⟨#[],#[.slice none 0 0,.slice none 0 0,.slice none 0 0,.agg #[.bool false,.string ⟨#[]⟩,.int .u8 0,.string ⟨#[]⟩,.bool false,.slice none 0 0,.slice none 0 0,.slice none 0 0,.slice none 0 0],.agg #[.string ⟨#[]⟩,.string ⟨#[]⟩]],[]⟩).memory Tryz.f3.params.toList (Rows.OpenSpec.upto Rows.kindWiderSpec).vars false (#[.slice none 0 0,.slice none 0 0,.slice none 0 0,.agg #[.bool false,.string ⟨#[]⟩,.int .u8 0,.string ⟨#[]⟩,.bool false,.slice none 0 0,.slice none 0 0,.slice none 0 0,.slice none 0 0],.agg #[.string ⟨#[]⟩,.string ⟨#[]⟩]]:Array Value).toList 8=some ([.nil,.nil,.nil,.agg [.lit (.bool false),.lit (.string []),.agg [.lit (.int .u8 0),.lit (.string []),.agg [.lit (.bool false),.nil],.nil],.nil,.nil],.agg [.lit (.string []),.lit (.string [])]],[],places) :=
 ⟨[],by kernel_rfl⟩
set_option maxRecDepth 100000 in
theorem lifted (os:Os) (started:os.Started) (H:Type) (enc:TypeId × Value→H) (F:Stop.Interp) :
  ReturnsInHanded {} Tryz.checked os 3 .any ((Rows.OpenSpec.upto Rows.kindWiderSpec).preRow enc Tryz.prog Tryz.f3 Rows.kindWiderUptoRow.domain false Rows.kindWiderUptoRow.laid) (((Rows.OpenSpec.upto Rows.kindWiderSpec).at F).post enc Tryz.prog Tryz.f3 false true false false):=by
 obtain ⟨places,hx⟩:=reads os enc
 refine returnsInHanded_of_row (C:=Tryz.checked) (s:=Rows.OpenSpec.upto Rows.kindWiderSpec) own' started (by kernel_rfl) Tryz.func3
  (witness_row_atRef (enc:=enc) (C:=Tryz.checked) false (World.doorLaid Tryz.prog 400 os) #[.slice none 0 0,.slice none 0 0,.slice none 0 0,.agg #[.bool false,.string ⟨#[]⟩,.int .u8 0,.string ⟨#[]⟩,.bool false,.slice none 0 0,.slice none 0 0,.slice none 0 0,.slice none 0 0],.agg #[.string ⟨#[]⟩,.string ⟨#[]⟩]] rfl (by kernel_rfl) (by kernel_rfl) (by kernel_rfl)
   (OpenSpec.preRow_of_cond 8 hx (by kernel_rfl) (fun k hk=>by cases hk; rfl) (by kernel_rfl) (laid_met os))) ?_
 intro W base args ds gs before hval hW _ hK _ hL _ _
 exact contract H enc W base args ds gs before hval hW hL (of_decide_eq_true (hK _ rfl))
theorem said:Rows.KindWiderUptoSaid :=
 OpenClaim.holds_of_cond 3 Tryz.f3 rfl rfl rfl rfl rfl rfl rfl ⟨rfl,rfl,rfl,rfl,rfl⟩ rfl rfl rfl rfl rfl (by kernel_rfl) Tryz.func3 (by kernel_rfl)
  (of_decide_eq_true (by kernel_rfl)) (by unfold Func.isWrapper; first | (rw [if_pos (by decide +kernel)]; kernel_rfl) | (rw [if_neg (by decide +kernel)]; exact ⟨rfl,rfl⟩))
  (fun os started H enc _ F=>by rw [OpenClaim.pre_eq_preRow]; exact lifted os started H enc F)
theorem plain (f : FuncId) (fn : Func) (hf : Tryz.pinned.checked.prog.funcNamed "whetstone/whetstonelaw14.KindWider" = some f) (hfn : Tryz.pinned.checked.prog.funcs[f]? = some fn) :
  true=Tryz.pinned.checked.prog.looks []∧∀ (j:Nat) t,fn.params[j]?=some t→Tryz.pinned.checked.prog.wantsStandIn t=false:=by
 obtain rfl : f = 3 := Option.some.inj ((show Tryz.prog.funcNamed "whetstone/whetstonelaw14.KindWider" = some 3 by kernel_rfl).symm.trans hf) |>.symm
 obtain rfl:fn=Tryz.f3:=(Option.some.inj (Tryz.func3.symm.trans hfn)).symm
 refine ⟨by kernel_rfl,fun j t ht=>?_⟩
 rw [Tryz.params3] at ht
 have hm:=Array.mem_of_getElem? ht
 simp at hm
 rcases hm with rfl | rfl | rfl | rfl | rfl
 · exact (show Tryz.prog.wantsStandIn 22=false by kernel_rfl)
 · exact (show Tryz.prog.wantsStandIn 23=false by kernel_rfl)
 · exact (show Tryz.prog.wantsStandIn 24=false by kernel_rfl)
 · exact (show Tryz.prog.wantsStandIn 35=false by kernel_rfl)
 · exact (show Tryz.prog.wantsStandIn 37=false by kernel_rfl)
theorem card:Rows.KindWiderUptoCardSaid :=
 Claim7.holds_tied_plain_at .later [] _ _ _ _ said (fun _ h=>by cases h) (by kernel_rfl) (fun _ h=>by cases h) kindWiderUpto_row_tie rfl ⟨rfl,rfl⟩ (by kernel_rfl) rfl plain (by kernel_rfl)
end Go.Proofs.YtdeacbdpmdfgdaaGreatDoor.rowKindWider
