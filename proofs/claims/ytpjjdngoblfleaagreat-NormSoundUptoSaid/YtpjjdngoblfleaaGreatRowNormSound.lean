/- The law NormSound returns true for any data, scope, values, formula and way: PROVED as the given statement says it, where what it reads is of bulk at most 1048576; no other condition. -/
import Derived.Test.YtpjjdngoblfleaaGreatNo
import Derived.Test.YtpjjdngoblfleaaGreatRowI
import Derived.LaidMore
import Derived.Carry
import Derived.Deep.DeepWitnessRowRef
namespace Go.Proofs.YtpjjdngoblfleaaGreat.rowNormSound
open Go.ChangeShapes Go.WideShapes Go.ChangeAt Go.RowKit
theorem trodAll_five {H:Type} {enc:TypeId × Value→H} {P:Program} {w:World} {base:Nat} {spare:Nat→Bool} {held:Bool} {t t' t'' t3 t4:TypeId} {args:Array Value} {ds:List (DataW H)} {ps:List MemPlace} (h:DataW.TrodAll enc P w base spare held [t,t',t'',t3,t4] args.toList ds ps) :
  ∃ v v' v'' v3 v4 d d' d'' d3 d4 p p' p'' p3 p4,args=#[v,v',v'',v3,v4]∧ds=[d,d',d'',d3,d4]∧ps=p++p'++p''++p3++p4∧DataW.Trod enc P w base spare held t v d p∧DataW.Trod enc P w base spare held t' v' d' p'∧DataW.Trod enc P w base spare held t'' v'' d'' p''∧DataW.Trod enc P w base spare held t3 v3 d3 p3∧DataW.Trod enc P w base spare held t4 v4 d4 p4:=by
 obtain ⟨v,vs,d,ds',p,q,hargs,rfl,rfl,hd,hrest⟩:=trodAll_cons h
 obtain ⟨v',vs',d',ds'',p',q',rfl,rfl,rfl,hd',hrest'⟩:=trodAll_cons hrest
 obtain ⟨v'',vs'',d'',ds''',p'',q'',rfl,rfl,rfl,hd'',hrest''⟩:=trodAll_cons hrest'
 obtain ⟨v3,vs3,d3,ds3,p3,q3,rfl,rfl,rfl,hd3,hrest3⟩:=trodAll_cons hrest''
 obtain ⟨v4,vs4,d4,ds4,p4,q4,rfl,rfl,rfl,hd4,hrest4⟩:=trodAll_cons hrest3
 obtain ⟨rfl,rfl,rfl⟩:=trodAll_nil hrest4
 exact ⟨v,v',v'',v3,v4,d,d',d'',d3,d4,p,p',p'',p3,p4,by cases args; simp_all,rfl,by simp,hd,hd',hd'',hd3,hd4⟩
theorem trodAll_mk5 {H:Type} {enc:TypeId × Value→H} {P:Program} {w:World} {base:Nat} {spare:Nat→Bool} {held:Bool} {t t' t'' t3 t4:TypeId} {v v' v'' v3 v4:Value} {d d' d'' d3 d4:DataW H} {p p' p'' p3 p4:List MemPlace} (h:DataW.Trod enc P w base spare held t v d p) (h':DataW.Trod enc P w base spare held t' v' d' p')
  (h'':DataW.Trod enc P w base spare held t'' v'' d'' p'') (h3:DataW.Trod enc P w base spare held t3 v3 d3 p3) (h4:DataW.Trod enc P w base spare held t4 v4 d4 p4):DataW.TrodAll enc P w base spare held [t,t',t'',t3,t4] [v,v',v'',v3,v4] [d,d',d'',d3,d4] (p++(p'++(p''++(p3++p4)))) :=
 ⟨p,p'++(p''++(p3++p4)),h,trodAll_mk4 h' h'' h3 h4,rfl⟩
set_option maxRecDepth 100000 in
theorem contract (H:Type) (enc:TypeId × Value→H) (W:World) (base:Nat) (args:Array Value) (ds gs:List (DataW H)) (before:List MemPlace)
  (hval:∀ (j:Nat) t v,Tryz.f5.params[j]?=some t→args[j]?=some v→Value.okWide Tryz.prog W .any base t v)
  (hW:DataW.Whole enc Tryz.prog Tryz.f5.params.toList Rows.normSoundSpec.vars false W args.toList ds gs before) (hK:Rows.uptoBulkAll (ds++gs)≤1048576) :
  Calls Tryz.prog 5 args W fun e W'=>∃ v,e=.returned v∧Rows.normSoundSpec.post enc Tryz.prog Tryz.f5 false true false false W args v W':=by
 have hW':=hW
 obtain ⟨p,q,hA0,hV,rfl,_,_⟩:=hW
 have hA:DataW.TrodAll enc Tryz.prog W 0 (fun _=>true) true Tryz.f5.params.toList args.toList ds p:=hA0
 rw [Tryz.params5] at hA hval
 obtain ⟨v0,v1,v2,v3,v4,d0,d1,d2,d3,d4,p0,p1,p2,p3,p4,rfl,rfl,hp,h0,h1,h2,h3,h4⟩:=trodAll_five hA
 obtain ⟨rfl,rfl⟩:=trodVars_none hV
 clear hA0
 subst hp
 simp only [List.append_nil] at hW'
 have hlt:∀ x∈p0++p1++p2++p3++p4,x.block<W.heap.size:=fun x hx=>by simpa using hW'.lt x (by simpa using hx)
 obtain ⟨a0,r0,b0⟩:=dats_at (hval 0 22 v0 rfl rfl) h0
 obtain ⟨a1,r1,b1⟩:=srts_at (hval 1 38 v1 rfl rfl) h1
 obtain ⟨a2,r2,b2⟩:=vals_at (hval 2 27 v2 rfl rfl) h2
 obtain ⟨a3,r3,b3⟩:=term_at (hval 3 42 v3 rfl rfl) h3
 obtain ⟨a4,rfl,rfl,rfl⟩:=open_bool Tryz.underlying4 (hval 4 4 v4 rfl rfl) h4
 simp only [List.append_nil,Rows.uptoBulkAll] at hK
 refine (cLawT E0_up [.f (.dt .dat a0),.f (.dt .srt a1),.f (.dt .vl a2),tmP a3,.f (.v (.bool a4))] _ _ rfl (by exact fun q hq=>by cases hq; (try simp only [Tw.eta]); (try simp only [Vw.eta]); exact ⟨by omega,by omega,by omega⟩) W (H0 W) [v0,v1,v2,v3,.bool a4] (fro0 W) trivial (.cons r0 (.cons r1 (.cons r2 (.cons r3 (.cons (.f (.v _ rfl)) .nil)))))).mono fun e W' ⟨H',v,he,hx,hv⟩=>?_
 subst he
 have hv':=hv.val
 subst hv'
 have hb:=hx.bel
 refine ⟨_,rfl,_,_,_,[],_,[],hW',trodAll_mk1 (shut_bool Tryz.underlying4 _),trodAll_mk5 (args_keep' 22 (by kernel_rfl) (of_decide_eq_true (by kernel_rfl)) h0 (fun x hx=>hlt x (by simp [hx])) hb) (args_keep' 38 (by kernel_rfl) (of_decide_eq_true (by kernel_rfl)) h1 (fun x hx=>hlt x (by simp [hx])) hb) (args_keep' 27 (by kernel_rfl) (of_decide_eq_true (by kernel_rfl)) h2 (fun x hx=>hlt x (by simp [hx])) hb) (args_keep' 42 (by kernel_rfl) (of_decide_eq_true (by kernel_rfl)) h3 (fun x hx=>hlt x (by simp [hx])) hb) (shut_bool Tryz.underlying4 _),rfl,hb.frame _,fun h=>by cases h⟩
theorem laid_none (W:World):laidMetH Tryz.prog [] W:=⟨[],(by first | rfl | exact ⟨0,rfl⟩),List.nodup_nil,fun b off h=>by cases h⟩
theorem reads (os:Os) {H:Type} (enc:TypeId × Value→H):∃ places,DataW.whole enc Tryz.prog ((World.doorLaid Tryz.prog 400 os).forCall (fun _ _=>0) ⟨#[],#[.slice none 0 0,.slice none 0 0,.slice none 0 0,.agg #[.int .u8 0,.string ⟨#[]⟩,.bool false,.slice none 0 0,.slice none 0 0],.bool false],[]⟩).memory Tryz.f5.params.toList (Rows.OpenSpec.upto Rows.normSoundSpec).vars false (#[.slice none 0 0,.slice none 0 0,.slice none 0 0,.agg #[.int .u8 0,.string ⟨#[]⟩,.bool false,.slice none 0 0,.slice none 0 0],.bool false]:Array Value).toList 8=some ([.nil,.nil,.nil,.agg [.lit (.int .u8 0),.lit (.string []),.agg [.lit (.bool false),.nil],.nil],.lit (.bool false)],[],places) :=
 ⟨[],by kernel_rfl⟩
set_option maxRecDepth 100000 in
theorem lifted (os:Os) (started:os.Started) (H:Type) (enc:TypeId × Value→H) (F:Stop.Interp) :
  ReturnsInHanded {} Tryz.checked os 5 .any ((Rows.OpenSpec.upto Rows.normSoundSpec).preRow enc Tryz.prog Tryz.f5 Rows.normSoundUptoRow.domain false Rows.normSoundUptoRow.laid) (((Rows.OpenSpec.upto Rows.normSoundSpec).at F).post enc Tryz.prog Tryz.f5 false true false false):=by
 obtain ⟨places,hx⟩:=reads os enc
 refine returnsInHanded_of_row (C:=Tryz.checked) (s:=Rows.OpenSpec.upto Rows.normSoundSpec) own' started (by kernel_rfl) Tryz.func5
  (witness_row_atRef (enc:=enc) (C:=Tryz.checked) false (World.doorLaid Tryz.prog 400 os) #[.slice none 0 0,.slice none 0 0,.slice none 0 0,.agg #[.int .u8 0,.string ⟨#[]⟩,.bool false,.slice none 0 0,.slice none 0 0],.bool false] rfl (by kernel_rfl) (by kernel_rfl) (by kernel_rfl)
   (OpenSpec.preRow_of_cond 8 hx (by kernel_rfl) (fun k hk=>by cases hk; rfl) (by kernel_rfl) (laid_none _))) ?_
 intro W base args ds gs before hval hW _ hK _ _ _ _
 exact contract H enc W base args ds gs before hval hW (of_decide_eq_true (hK _ rfl))
theorem said:Rows.NormSoundUptoSaid :=
 OpenClaim.holds_of_cond 5 Tryz.f5 rfl rfl rfl rfl rfl rfl rfl ⟨rfl,rfl,rfl,rfl,rfl⟩ rfl rfl rfl rfl rfl (by kernel_rfl) Tryz.func5 (by kernel_rfl)
  (of_decide_eq_true (by kernel_rfl)) (by unfold Func.isWrapper; first | (rw [if_pos (by decide +kernel)]; kernel_rfl) | (rw [if_neg (by decide +kernel)]; exact ⟨rfl,rfl⟩))
  (fun os started H enc _ F=>by rw [OpenClaim.pre_eq_preRow]; exact lifted os started H enc F)
end Go.Proofs.YtpjjdngoblfleaaGreat.rowNormSound
