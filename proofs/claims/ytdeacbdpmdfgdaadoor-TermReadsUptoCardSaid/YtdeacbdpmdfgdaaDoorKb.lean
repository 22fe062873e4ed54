/- strings.Builder within an object of the call's own: its contracts. -/
import Derived.Test.YtdeacbdpmdfgdaaDoorChecked
import Derived.Test.YtdeacbdpmdfgdaaDoorVr
import Derived.Shelf.Strings.BuilderX
import Derived.Shelf.RegionOpenPlain
import Derived.Lib.UnsafeStr
import Derived.Laws.Externs
namespace Go.Proofs.YtdeacbdpmdfgdaaDoor
open Go.RowKit
set_option linter.unusedVariables false
theorem Tryd.sizeBuilderW:(Tryd.prog.info? 68).map (·.size)=some 2:=by kernel_rfl
theorem Tryd.liesWriter:liesAt Tryd.prog Tryd.prog.depth 70 (2 / Tryd.prog.cellsOf 70) 0 68 1=true:=by kernel_rfl
theorem Tryd.infoU8W:(Tryd.prog.info? 5).map (fun i=>(i.zero,i.size,i.bytes))=some (some (.int .u8 0),1,1):=by kernel_rfl
theorem real0 {K:Nat→Prop} {w:World} {g:Gh} {ob:List PO} (hK:∀ b,K b→b<w.heap.size) (hO:Obs K ob g w) (hf:∀ i,i<ob.length→∃ u,g.B i=some u):Real ⟨K,w,g.B,[]⟩ g.H 0 ⟨[],ob⟩ g ⟨#[],[]⟩ w :=
 ⟨ExtK.refl hO.fro hK,hO,hf,fun d x hx=>by simp [look] at hx,rfl,rfl,fun o p hp=>hp.1⟩
theorem real_bld {w0:Cx} {H0:Hp} {m:Nat} {s:PS} {g:Gh} {a:Act} {w w':World} (h:Real w0 H0 m s g a w) {o b:Nat} {T:TypeId} {y y':PV} {p' v':Value} (ho:s.ob[o]?=some (.bld T y)) (hB:g.B o=some (.pointer (some ⟨b,0,none⟩)))
  (hw:w'.heap[b]?=some (.cells #[p',v'] T (0,0))) (hp:p'=.pointer none∨p'=.pointer (some ⟨b,0,none⟩)) (hv:PR g.H g.B v' y') (hgr:w.grownBy w' (some b)) (hsz:w'.heap.size=w.heap.size) :
  Real w0 H0 m ⟨s.env,setL s.ob o (.bld T y')⟩ g a w':=by
 have hoth:∀ k,k≠b→w'.heap[k]?=w.heap[k]?:=fun k hk=>by
  by_cases hl:k<w.heap.size
  · exact hgr.block k hl (fun hc=>hk (by cases hc; rfl))
  · rw [Array.getElem?_eq_none (by omega),Array.getElem?_eq_none (by omega)]
 obtain ⟨b',p,v,e0,e1,e2,e3,e4,e5⟩:=h.obs.hold o _ _ ho hB
 cases e0
 have hfro:Fro g.H w':=by
  intro k j y hy
  have hk:k≠b:=by rintro rfl; rw [e5 j] at hy; cases hy
  exact (World.cell?_of_block (a:=⟨k,j,none⟩) (hoth k hk)).trans (h.obs.fro k j y hy)
 have hne:∀ o' u',o'≠o→g.B o'=some u'→blk u'≠some b:=fun o' u' hne hu' hbk=>h.obs.apart o o' _ u' b (fun h=>hne h.symm) hB hu' rfl hbk
 refine ⟨h.ext.grown hgr (fun b' hb'=>by cases hb'; exact h.obs.kept o _ b hB rfl) h.ext.le hfro h.ext.new,⟨hfro,fun o' u' b' h1' h2'=>by rw [hsz]; exact h.obs.lt o' u' b' h1' h2',fun o' x' u' hx' hu'=>?_,h.obs.apart,fun o' u' hu'=>by simp only [setL_len]; exact h.obs.dom o' u' hu',h.obs.kept⟩,fun o' ho'=>by simp only [setL_len] at ho'; exact h.full o' ho',h.env,h.sz,h.dfr,h.ptr⟩
 rw [setL_eq,List.getElem?_set] at hx'
 by_cases hoo:o=o'
 · subst hoo
   rw [if_pos rfl] at hx'
   split at hx'
   · cases hx'
     rw [hB] at hu'
     cases hu'
     exact ⟨b,p',v',rfl,hw,hp,hv,Nat.zero_le _,e5⟩
   · cases hx'
 · rw [if_neg hoo] at hx'
   exact PO.other (h.obs.hold o' x' u' hx' hu') (hne o' u' (fun h=>hoo h.symm) hu') hoth hsz
set_option maxHeartbeats 1000000 in
set_option maxRecDepth 100000 in
theorem copyCheckW_used (b:Nat) (w:World) (h0:w.cell? ⟨b,0,none⟩=some (.pointer (some ⟨b,0,none⟩))) :
  Calls Tryd.prog 102 #[.pointer (some ⟨b,0,none⟩)] w fun e w'=>e=.returned (.tuple #[])∧w'=w:=by
 obtain ⟨j,hj,_⟩:=Option.map_eq_some_iff.1 Tryd.sizeBuilderW
 go_enter Tryd.func102,Tryd.ntmps102
 go_wp2
 rw [Lib.run_neq_ptr_same w _ Tryd.underlying66 hj]
 go_wp2
 go_end0
 exact ⟨rfl,rfl⟩
set_option maxHeartbeats 1000000 in
set_option maxRecDepth 100000 in
theorem copyCheckW_fresh (b:Nat) (w:World) (h0:w.cell? ⟨b,0,none⟩=some (.pointer none)) (hsh:w.shape? b=some (70,2)) (hfz:w.frozen? ⟨b,0,none⟩=false) :
  Calls Tryd.prog 102 #[.pointer (some ⟨b,0,none⟩)] w fun e w'=>e=.returned (.tuple #[])∧w'=w.setCell ⟨b,0,none⟩ (.pointer (some ⟨b,0,none⟩)):=by
 obtain ⟨j,hj,hjs⟩:=Option.map_eq_some_iff.1 Tryd.sizeBuilderW
 go_enter Tryd.func102,Tryd.ntmps102
 go_wp2
 rw [Lib.run_to_unsafe w ⟨b,0,none⟩ Tryd.underlying66 Tryd.underlying195 hj (by rw [hjs]; decide) hsh (Nat.zero_lt_succ 1)]
 simp only [Result.andThen]
 rw [Oper.upon_value]
 go_wp2
 go_outline
 rw [run_callFunc_extern Tryd.func114 (by kernel_rfl) (by kernel_rfl) (by kernel_rfl) (e:=Extern.AbiNoEscape.same) (by kernel_rfl)]
 rw [Lib.run_noEscape]
 simp only [Result.andThen]
 rw [Oper.upon_value]
 go_wp2
 rw [Lib.run_from_unsafe w ⟨b,0,none⟩ Tryd.underlying195 Tryd.underlying66 hj hsh Tryd.liesWriter]
 simp only [Result.andThen]
 rw [Oper.upon_value]
 go_wp2
 go_end0
 exact ⟨rfl,rfl⟩
theorem setCell_grown (w:World) (b j:Nat) (v:Value):w.grownBy (w.setCell ⟨b,j,none⟩ v) (some b) :=
 ⟨rfl,rfl,rfl,by simp [World.setCell],fun k _ hk=>Below.heap_setCell _ _ _ _ (fun e=>hk (by simp [e]))⟩
theorem copyCheckW (b:Nat) (p v:Value) (w:World) (hb:w.heap[b]?=some (.cells #[p,v] 70 (0,0))) (hp:p=.pointer none∨p=.pointer (some ⟨b,0,none⟩)) :
  Calls Tryd.prog 102 #[.pointer (some ⟨b,0,none⟩)] w fun e w'=>e=.returned (.tuple #[])∧(w'.heap[b]?=some (.cells #[.pointer (some ⟨b,0,none⟩),v] 70 (0,0))∧w.grownBy w' (some b)∧w'.heap.size=w.heap.size):=by
 rcases hp with rfl | rfl
 · refine (copyCheckW_fresh b w (by rw [Lib.cell_of_heap hb]; rfl) (by simp [World.shape?,hb]) (Lib.frozen_of_heap hb 0)).mono ?_
   rintro e w' ⟨rfl,rfl⟩
   exact ⟨rfl,by simp [World.setCell,Array.getElem?_modify,hb],setCell_grown _ _ _ _,by simp [World.setCell]⟩
 · refine (copyCheckW_used b w (by rw [Lib.cell_of_heap hb]; rfl)).mono ?_
   rintro e w' ⟨rfl,rfl⟩
   exact ⟨rfl,hb,⟨rfl,rfl,rfl,Nat.le_refl _,fun _ _ _=>rfl⟩,rfl⟩
theorem wpList_append_at {P:Program} {w:World} {ops:Array Oper} {rest:List Oper} {o:Oper} {a:Act} {Q:Exit→Act→World→Prop} (hgd:o.guard=none) (sl x:Operand) (t u:TypeId)
  (ho:o.op=.call { callee:=.builtin .append,args:=#[sl,x],argTypes:=#[t,u] }) {v xv v':Value} {w':World} (hs:a.eval sl=v) (hx:a.eval x=xv) (hr:(Builtin.append_ #[t,u] o.type #[v,xv]).run P w=.ok v' w')
  (h:wpList P ops Q rest (a.put o.dst v') w'):wpList P ops Q (o::rest) a w:=by
 refine wpList_plain hgd fun K hK=>?_
 unfold Oper.wp execOp
 simp only [ho,resolve,invoke,builtin,Sem.run_bind,Sem.run_pure,Result.andThen_ok,List.map_toArray,List.map_cons,List.map_nil,hs,hx,hr]
 exact hK _ _ h
def sWriteS:Spec2
 | [.bp 0 0,.f (.v (.string s))],[.bld T (.tl 1 (.is .u8 l)),.tail e 1]=>match Nat.beq T 70 && Nat.beq e 5 with
  | true=>some (.need (l.length+s.size≤140737488355328) (.ret (.tup [.f (.v (.int .i64 s.size)),.f (.v .nilIface)]) [.bld T (.tl 1 (.is .u8 (l++strI s))),.tail e 1]))
  | false=>none
 | _,_=>none
set_option maxHeartbeats 1000000 in
set_option maxRecDepth 100000 in
theorem cWriteS {E:Env}:Contract2 Tryd.prog E 84 sWriteS:=by
 intro xs ob o ho hok K w g vs hK hO hf hE hxs
 unfold sWriteS at ho
 split at ho
 · rename_i s T l e
   split at ho
   · rename_i hT
     cases ho
     have hlen:l.length+s.size≤140737488355328:=hok.1
     rw [Bool.and_eq_true] at hT
     obtain rfl:=Nat.eq_of_beq_eq_true hT.1
     obtain rfl:=Nat.eq_of_beq_eq_true hT.2
     obtain ⟨i0,hi,hz0,hz1,hz2⟩:=info_parts Tryd.infoU8W
     obtain ⟨v0,v1,rfl⟩:∃ v0 v1,vs=[v0,v1]:=by
      match vs,hxs.1 with
      | [v0,v1],_=>exact ⟨v0,v1,rfl⟩
     have q0:=hxs.2 0 _ _ rfl rfl
     have q1:=(hxs.2 1 _ _ rfl rfl).val
     subst q1
     cases q0 with
     | @bp _ _ b hB0 =>
     have hR:=real0 hK hO hf
     obtain ⟨b',p,v,e0,h1,h2,h3,h4,h5⟩:=hO.hold 0 _ _ rfl hB0
     cases e0
     cases h3 with
     | tl hrd hB1 =>
     have HL:=Lib.hid hlen
     clear hlen hok
     go_enter Tryd.func84,Tryd.ntmps84
     go_wp2_with (go_at_call 102; refine (copyCheckW b p v _ h1 h2).mono ?_)
     rintro e w1 ⟨rfl,hb1,hg1,hs1⟩
     have hR1:=real_bld hR (o:=0) rfl hB0 hb1 (.inr rfl) (.tl hrd hB1) hg1 hs1
     have c1:w1.cell? ⟨b,1,none⟩=some v:=by rw [Lib.cell_of_heap hb1]; rfl
     obtain ⟨v',w2,g2,hrun,hR2,hv'⟩:=append_real_s hR1 (o:=1) (lf:=.is .u8 l) (c:=.is .u8 (l++strI s)) (n:=l.length) 40 9 40 i0 s Tryd.underlying40 Tryd.underlying9 hi hz0 hz1 hz2 (.tl hrd hB1) rfl rfl rfl
      (by rw [strI_len]; have:=HL.out; unfold maxLen; omega) (by rw [strI_len]; exact HL.out) rfl rfl
     go_wp2_with (at_builtin; refine wpList_append_at rfl _ _ 40 9 rfl rfl rfl hrun ?_)
     have hB2:g2.B 0=some (.pointer (some ⟨b,0,none⟩)):=hR2.ptr 0 _ ⟨hB0,rfl⟩
     obtain ⟨b',p2,v2,e0,k1,k2,k3,k4,k5⟩:=hR2.obs.hold 0 _ _ rfl hB2
     cases e0
     have d1:w2.cell? ⟨b,1,none⟩=some v2:=by rw [Lib.cell_of_heap k1]; rfl
     have f1:w2.frozen? ⟨b,1,none⟩=false:=Lib.frozen_of_heap k1 1
     obtain ⟨ao,n',cap,rfl⟩:∃ ao n' cap,v'=.slice ao n' cap:=by
      cases hv' with
      | tl h _ =>
       obtain ⟨ao,cap,_,h,_⟩:=rd_row h (x:=.is .u8 (l++strI s)) rfl
       exact ⟨_,_,_,h⟩
     have hst:(storeCells ⟨b,1,none⟩ [.slice ao n' cap]).run Tryd.prog w2=.ok () (w2.setCell ⟨b,1,none⟩ (.slice ao n' cap)) :=
      run_storeCells_cells (P:=Tryd.prog) b 1 [.slice ao n' cap] 0 w2 (fun j hj=>by
       obtain rfl:j=0:=by simpa using hj
       rw [show w2.cell? ⟨b,1+0+0,none⟩=some v2 from d1]; rfl) (fun j hj=>by
       obtain rfl:j=0:=by simpa using hj
       exact f1) (fun u hu=>by rw [List.mem_singleton.1 hu]; rfl)
     go_wp2
     rw [hst]
     simp only [Result.andThen]
     rw [Oper.upon_skip]
     go_wp2
     go_ret2
     have hR3:=real_bld hR2 (o:=0) rfl hB2 (y':=.tl 1 (.is .u8 (l++strI s))) (w':=w2.setCell ⟨b,1,none⟩ (.slice ao n' cap)) (p':=p2) (v':=.slice ao n' cap) (by simp [World.setCell,Array.getElem?_modify,k1]) k2 hv' (setCell_grown _ _ _ _) (by simp [World.setCell])
     refine ⟨g2,_,hR3.ext,hR3.obs,hR3.full,hR3.ptr,?_,rfl⟩
     exact .tup (l:=[_,_]) rfl fun i v x hv hx=>by
      match i with
      | 0=>cases hv; cases hx; exact .f (.v _ rfl)
      | 1=>cases hv; cases hx; exact .f (.v _ rfl)
      | i+2=>cases hx
   · cases ho
 · cases ho
set_option maxHeartbeats 2000000 in
set_option maxRecDepth 100000 in
theorem stringW (B b:Nat) (p v:Value) (l:List UInt8) (w:World) (hbk:w.heap[b]?=some (.cells #[p,v] 70 (0,0))) (hown:w.ownsRow B 5 1 v l.length (Lib.byteCells l)) (h0:l≠[]) :
  Calls Tryd.prog 28 #[.pointer (some ⟨b,0,none⟩)] w fun e w'=>e=.returned (.string ⟨l.toArray⟩)∧Below B w w':=by
 have hl0:l.length≠0:=by simpa using h0
 obtain ⟨g,cap,cur,rfl,hbg,hg,hnc,hcm,hcs,htake⟩:∃ g cap cur,v=.slice (some ⟨g,0,none⟩) l.length cap∧B≤g∧w.heap[g]?=some (.cells cur 5 (0,0))∧l.length≤cap∧cap≤maxLen∧cur.size=cap * 1∧cur.toList.take (l.length * 1)=Lib.byteCells l:=by
  rcases hown.2 with ⟨_,hz⟩ | ⟨g,cap,cur,hv,r⟩
  · exact absurd hz hl0
  · exact ⟨g,cap,cur,hv,r⟩
 have c1:w.drew.cell? ⟨b,1,none⟩=some (.slice (some ⟨g,0,none⟩) l.length cap):=by
  have:w.drew.heap[b]?=some (.cells #[p,.slice (some ⟨g,0,none⟩) l.length cap] 70 (0,0)):=hbk
  rw [Lib.cell_of_heap this]; rfl
 have hSD:(Builtin.unsafeSliceData_ #[40] 134 #[.slice (some ⟨g,0,none⟩) l.length cap]).run Tryd.prog w.drew=.ok (.pointer (some ⟨g,0,none⟩)) w.drew :=
  Lib.run_unsafeSliceData_row _ _ _ _ _ _ (by omega)
 have hUS:(Builtin.unsafeString_ #[134,3] 9 #[.pointer (some ⟨g,0,none⟩),.int .i64 l.length]).run Tryd.prog w.drew=.ok (.string ⟨l.toArray⟩) (w.drew.freeze ⟨g,0,none⟩ l.length):=by
  refine Lib.run_unsafeString_row w.drew 134 3 9 5 Tryd.underlying134 (by kernel_rfl) g cur.size (by have hg':w.drew.heap[g]?=some (.cells cur 5 (0,0)):=hg; simp [World.shape?,hg']) l h0 (by omega) (by unfold maxLen at hcm; omega) ?_
  intro j x hx
  have:=hown.cells (g:=g) rfl j (.int .u8 x.toNat) (by simp [Lib.byteCells,hx])
  exact this
 have mixed:Tryd.prog.follows .mixedOrders=true:=by kernel_rfl
 go_enter Tryd.func28,Tryd.ntmps28
 go_wp2
 go_region_o
 all_goals (go_wp2; go_ret; exact ⟨rfl,Lib.below_freeze (Below.drew (Below.refl B w)) (p:=⟨g,0,none⟩) hbg _⟩)
end Go.Proofs.YtdeacbdpmdfgdaaDoor
