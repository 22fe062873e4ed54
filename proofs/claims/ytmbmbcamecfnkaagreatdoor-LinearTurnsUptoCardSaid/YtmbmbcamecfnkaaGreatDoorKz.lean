/- The reference: a term's text. -/
import Derived.Test.YtmbmbcamecfnkaaGreatDoorChecked
import Derived.Test.YtmbmbcamecfnkaaGreatDoorVr
import Derived.Shelf.Strings.BuilderX
import Derived.Shelf.RegionOpenPlain
import Derived.Lib.UnsafeStr
import Derived.Laws.Externs
import Derived.Test.YtmbmbcamecfnkaaGreatDoorKx
import Derived.Test.YtmbmbcamecfnkaaGreatDoorEz
import Derived.Test.YtmbmbcamecfnkaaGreatDoorTf
set_option linter.unusedSimpArgs false
namespace Go.Proofs.YtmbmbcamecfnkaaGreatDoor
open Go.RowKit
set_option linter.unusedVariables false
theorem Tryz.sizeBuilderW:(Tryz.prog.info? 240).map (·.size)=some 2:=by kernel_rfl
theorem Tryz.liesWriter:liesAt Tryz.prog Tryz.prog.depth 242 (2 / Tryz.prog.cellsOf 242) 0 240 1=true:=by kernel_rfl
theorem Tryz.infoU8W:(Tryz.prog.info? 5).map (fun i=>(i.zero,i.size,i.bytes))=some (some (.int .u8 0),1,1):=by kernel_rfl
theorem real0 {K:Nat→Prop} {w:World} {g:Gh} {ob:List PO} (hK:∀ b,K b→b<w.heap.size) (hO:Obs K ob g w) (hf:∀ i,i<ob.length→∃ u,g.B i=some u):Real ⟨K,w,g.B,[]⟩ g.H 0 ⟨[],ob⟩ g ⟨#[],[]⟩ w :=
 ⟨ExtK.refl hO.fro hK,hO,hf,fun d x hx=>by simp [look] at hx,rfl,rfl,fun o p hp=>hp.1⟩
theorem Qml {w0:Cx} {H0:Hp} {m:Nat} {s:PS} {g:Gh} {a:Act} {w w':World} (h:Real w0 H0 m s g a w) {o b:Nat} {T:TypeId} {y y':PV} {p' v':Value} (ho:s.ob[o]?=some (.bld T y)) (hB:g.B o=some (.pointer (some ⟨b,0,none⟩)))
  (hw:w'.heap[b]?=some (.cells #[p',v'] T (0,0))) (hp:p'=.pointer none∨p'=.pointer (some ⟨b,0,none⟩)) (hv:PR g.H g.B v' y') (hgr:w.grownBy w' (some b)) (hsz:w'.heap.size=w.heap.size) :
  Real w0 H0 m ⟨s.env,setL s.ob o (.bld T y')⟩ g a w':=by
 have hoth:∀ k,k≠b→w'.heap[k]?=w.heap[k]?:=fun k hk=>by
  by_cases hl:k<w.heap.size
  · exact hgr.block k hl (fun hc=>hk (by cases hc; rfl))
  · rw [Array.getElem?_eq_none (by omega),Array.getElem?_eq_none (by omega)]
 obtain ⟨b',p,v,e0,e1,e2,e3,e4,e5⟩:=h.obs.hold o _ _ ho hB
 cases e0
 have hfro:Fro g.H w':=by
  intro k j y hy
  have hk:k≠b:=by rintro rfl; rw [e5 j] at hy; cases hy
  exact (World.cell?_of_block (a:=⟨k,j,none⟩) (hoth k hk)).trans (h.obs.fro k j y hy)
 have hne:∀ o' u',o'≠o→g.B o'=some u'→blk u'≠some b:=fun o' u' hne hu' hbk=>h.obs.apart o o' _ u' b (fun h=>hne h.symm) hB hu' rfl hbk
 refine ⟨h.ext.grown hgr (fun b' hb'=>by cases hb'; exact h.obs.kept o _ b hB rfl) h.ext.le hfro h.ext.new,⟨hfro,fun o' u' b' h1' h2'=>by rw [hsz]; exact h.obs.lt o' u' b' h1' h2',fun o' x' u' hx' hu'=>?_,h.obs.apart,fun o' u' hu'=>by simp only [QaR]; exact h.obs.dom o' u' hu',h.obs.kept⟩,fun o' ho'=>by simp only [QaR] at ho'; exact h.full o' ho',h.env,h.sz,h.dfr,h.ptr⟩
 rw [Qcw,List.getElem?_set] at hx'
 by_cases hoo:o=o'
 · subst hoo
   rw [if_pos rfl] at hx'
   split at hx'
   · cases hx'
     rw [hB] at hu'
     cases hu'
     exact ⟨b,p',v',rfl,hw,hp,hv,Nat.zero_le _,e5⟩
   · cases hx'
 · rw [if_neg hoo] at hx'
   exact PO.other (h.obs.hold o' x' u' hx' hu') (hne o' u' (fun h=>hoo h.symm) hu') hoth hsz
set_option maxHeartbeats 1000000 in
set_option maxRecDepth 100000 in
theorem Qg5 (b:Nat) (w:World) (h0:w.cell? ⟨b,0,none⟩=some (.pointer (some ⟨b,0,none⟩))) :
  Calls Tryz.prog 335 #[.pointer (some ⟨b,0,none⟩)] w fun e w'=>e=.returned (.tuple #[])∧w'=w:=by
 obtain ⟨j,hj,_⟩:=Option.map_eq_some_iff.1 Tryz.sizeBuilderW
 go_enter Tryz.func335,Tryz.ntmps335
 go_wp2
 rw [Lib.run_neq_ptr_same w _ Tryz.underlying238 hj]
 go_wp2
 go_end0
 exact ⟨rfl,rfl⟩
set_option maxHeartbeats 1000000 in
set_option maxRecDepth 100000 in
theorem QfI (b:Nat) (w:World) (h0:w.cell? ⟨b,0,none⟩=some (.pointer none)) (hsh:w.shape? b=some (242,2)) (hfz:w.frozen? ⟨b,0,none⟩=false) :
  Calls Tryz.prog 335 #[.pointer (some ⟨b,0,none⟩)] w fun e w'=>e=.returned (.tuple #[])∧w'=w.setCell ⟨b,0,none⟩ (.pointer (some ⟨b,0,none⟩)):=by
 obtain ⟨j,hj,hjs⟩:=Option.map_eq_some_iff.1 Tryz.sizeBuilderW
 go_enter Tryz.func335,Tryz.ntmps335
 go_wp2
 rw [Lib.run_to_unsafe w ⟨b,0,none⟩ Tryz.underlying238 Tryz.underlying401 hj (by rw [hjs]; decide) hsh (Nat.zero_lt_succ 1)]
 simp only [Result.andThen]
 rw [Oper.upon_value]
 go_wp2
 go_outline
 rw [run_callFunc_extern Tryz.func378 (by kernel_rfl) (by kernel_rfl) (by kernel_rfl) (e:=Extern.AbiNoEscape.same) (by kernel_rfl)]
 rw [Lib.run_noEscape]
 simp only [Result.andThen]
 rw [Oper.upon_value]
 go_wp2
 rw [Lib.run_from_unsafe w ⟨b,0,none⟩ Tryz.underlying401 Tryz.underlying238 hj hsh Tryz.liesWriter]
 simp only [Result.andThen]
 rw [Oper.upon_value]
 go_wp2
 go_end0
 exact ⟨rfl,rfl⟩
theorem Qew (w:World) (b j:Nat) (v:Value):w.grownBy (w.setCell ⟨b,j,none⟩ v) (some b) :=
 ⟨rfl,rfl,rfl,by simp [World.setCell],fun k _ hk=>Below.heap_setCell _ _ _ _ (fun e=>hk (by simp [e]))⟩
theorem Qof (b:Nat) (p v:Value) (w:World) (hb:w.heap[b]?=some (.cells #[p,v] 242 (0,0))) (hp:p=.pointer none∨p=.pointer (some ⟨b,0,none⟩)) :
  Calls Tryz.prog 335 #[.pointer (some ⟨b,0,none⟩)] w fun e w'=>e=.returned (.tuple #[])∧(w'.heap[b]?=some (.cells #[.pointer (some ⟨b,0,none⟩),v] 242 (0,0))∧w.grownBy w' (some b)∧w'.heap.size=w.heap.size):=by
 rcases hp with rfl | rfl
 · refine (QfI b w (by rw [Lib.cell_of_heap hb]; rfl) (by simp [World.shape?,hb]) (Lib.frozen_of_heap hb 0)).mono ?_
   rintro e w' ⟨rfl,rfl⟩
   exact ⟨rfl,by simp [World.setCell,Array.getElem?_modify,hb],Qew _ _ _ _,by simp [World.setCell]⟩
 · refine (Qg5 b w (by rw [Lib.cell_of_heap hb]; rfl)).mono ?_
   rintro e w' ⟨rfl,rfl⟩
   exact ⟨rfl,hb,⟨rfl,rfl,rfl,Nat.le_refl _,fun _ _ _=>rfl⟩,rfl⟩
theorem QfH {P:Program} {w:World} {ops:Array Oper} {rest:List Oper} {o:Oper} {a:Act} {Q:Exit→Act→World→Prop} (hgd:o.guard=none) (sl x:Operand) (t u:TypeId)
  (ho:o.op=.call { callee:=.builtin .append,args:=#[sl,x],argTypes:=#[t,u] }) {v xv v':Value} {w':World} (hs:a.eval sl=v) (hx:a.eval x=xv) (hr:(Builtin.append_ #[t,u] o.type #[v,xv]).run P w=.ok v' w')
  (h:wpList P ops Q rest (a.put o.dst v') w'):wpList P ops Q (o::rest) a w:=by
 refine wpList_plain hgd fun K hK=>?_
 unfold Oper.wp execOp
 simp only [ho,resolve,invoke,builtin,Sem.run_bind,Sem.run_pure,Result.andThen_ok,List.map_toArray,List.map_cons,List.map_nil,hs,hx,hr]
 exact hK _ _ h
def QkF:Spec2
 | [.bp 0 0,.f (.v (.string s))],[.bld T (.tl 1 (.is .u8 l)),.tail e 1]=>match Nat.beq T 242 && Nat.beq e 5 with
  | true=>some (.need (l.length+s.size≤140737488355328) (.ret (.tup [.f (.v (.int .i64 s.size)),.f (.v .nilIface)]) [.bld T (.tl 1 (.is .u8 (l++strI s))),.tail e 1]))
  | false=>none
 | _,_=>none
set_option maxHeartbeats 1000000 in
set_option maxRecDepth 100000 in
theorem Qul {E:Env}:Contract2 Tryz.prog E 285 QkF:=by
 intro xs ob o ho hok K w g vs hK hO hf hE hxs
 unfold QkF at ho
 split at ho
 · rename_i s T l e
   split at ho
   · rename_i hT
     cases ho
     have hlen:l.length+s.size≤140737488355328:=hok.1
     rw [Bool.and_eq_true] at hT
     obtain rfl:=Nat.eq_of_beq_eq_true hT.1
     obtain rfl:=Nat.eq_of_beq_eq_true hT.2
     obtain ⟨i0,hi,hz0,hz1,hz2⟩:=info_parts Tryz.infoU8W
     obtain ⟨v0,v1,rfl⟩:∃ v0 v1,vs=[v0,v1]:=by
      match vs,hxs.1 with
      | [v0,v1],_=>exact ⟨v0,v1,rfl⟩
     have q0:=hxs.2 0 _ _ rfl rfl
     have q1:=(hxs.2 1 _ _ rfl rfl).val
     subst q1
     cases q0 with
     | @bp _ _ b hB0 =>
     have hR:=real0 hK hO hf
     obtain ⟨b',p,v,e0,h1,h2,h3,h4,h5⟩:=hO.hold 0 _ _ rfl hB0
     cases e0
     cases h3 with
     | tl hrd hB1 =>
     have HL:=Lib.hid hlen
     clear hlen hok
     go_enter Tryz.func285,Tryz.ntmps285
     go_wp2_with (go_at_call 335; refine (Qof b p v _ h1 h2).mono ?_)
     rintro e w1 ⟨rfl,hb1,hg1,hs1⟩
     have hR1:=Qml hR (o:=0) rfl hB0 hb1 (.inr rfl) (.tl hrd hB1) hg1 hs1
     have c1:w1.cell? ⟨b,1,none⟩=some v:=by rw [Lib.cell_of_heap hb1]; rfl
     obtain ⟨v',w2,g2,hrun,hR2,hv'⟩:=Qi6 hR1 (o:=1) (lf:=.is .u8 l) (c:=.is .u8 (l++strI s)) (n:=l.length) 36 9 36 i0 s Tryz.underlying36 Tryz.underlying9 hi hz0 hz1 hz2 (.tl hrd hB1) rfl rfl rfl
      (by rw [QdO]; have:=HL.out; unfold maxLen; omega) (by rw [QdO]; exact HL.out) rfl rfl
     go_wp2_with (at_builtin; refine QfH rfl _ _ 36 9 rfl rfl rfl hrun ?_)
     have hB2:g2.B 0=some (.pointer (some ⟨b,0,none⟩)):=hR2.ptr 0 _ ⟨hB0,rfl⟩
     obtain ⟨b',p2,v2,e0,k1,k2,k3,k4,k5⟩:=hR2.obs.hold 0 _ _ rfl hB2
     cases e0
     have d1:w2.cell? ⟨b,1,none⟩=some v2:=by rw [Lib.cell_of_heap k1]; rfl
     have f1:w2.frozen? ⟨b,1,none⟩=false:=Lib.frozen_of_heap k1 1
     obtain ⟨ao,n',cap,rfl⟩:∃ ao n' cap,v'=.slice ao n' cap:=by
      cases hv' with
      | tl h _ =>
       obtain ⟨ao,cap,_,h,_⟩:=Qfy h (x:=.is .u8 (l++strI s)) rfl
       exact ⟨_,_,_,h⟩
     have hst:(storeCells ⟨b,1,none⟩ [.slice ao n' cap]).run Tryz.prog w2=.ok () (w2.setCell ⟨b,1,none⟩ (.slice ao n' cap)) :=
      run_storeCells_cells (P:=Tryz.prog) b 1 [.slice ao n' cap] 0 w2 (fun j hj=>by
       obtain rfl:j=0:=by simpa using hj
       rw [show w2.cell? ⟨b,1+0+0,none⟩=some v2 from d1]; rfl) (fun j hj=>by
       obtain rfl:j=0:=by simpa using hj
       exact f1) (fun u hu=>by rw [List.mem_singleton.1 hu]; rfl)
     go_wp2
     rw [hst]
     simp only [Result.andThen]
     rw [Oper.upon_skip]
     go_wp2
     go_ret2
     have hR3:=Qml hR2 (o:=0) rfl hB2 (y':=.tl 1 (.is .u8 (l++strI s))) (w':=w2.setCell ⟨b,1,none⟩ (.slice ao n' cap)) (p':=p2) (v':=.slice ao n' cap) (by simp [World.setCell,Array.getElem?_modify,k1]) k2 hv' (Qew _ _ _ _) (by simp [World.setCell])
     refine ⟨g2,_,hR3.ext,hR3.obs,hR3.full,hR3.ptr,?_,rfl⟩
     exact .tup (l:=[_,_]) rfl fun i v x hv hx=>by
      match i with
      | 0=>cases hv; cases hx; exact .f (.v _ rfl)
      | 1=>cases hv; cases hx; exact .f (.v _ rfl)
      | i+2=>cases hx
   · cases ho
 · cases ho
set_option maxHeartbeats 2000000 in
set_option maxRecDepth 100000 in
theorem Qti (B b:Nat) (p v:Value) (l:List UInt8) (w:World) (hbk:w.heap[b]?=some (.cells #[p,v] 242 (0,0))) (hown:w.ownsRow B 5 1 v l.length (Lib.byteCells l)) (h0:l≠[]) :
  Calls Tryz.prog 185 #[.pointer (some ⟨b,0,none⟩)] w fun e w'=>e=.returned (.string ⟨l.toArray⟩)∧Below B w w':=by
 have hl0:l.length≠0:=by simpa using h0
 obtain ⟨g,cap,cur,rfl,hbg,hg,hnc,hcm,hcs,htake⟩:∃ g cap cur,v=.slice (some ⟨g,0,none⟩) l.length cap∧B≤g∧w.heap[g]?=some (.cells cur 5 (0,0))∧l.length≤cap∧cap≤maxLen∧cur.size=cap * 1∧cur.toList.take (l.length * 1)=Lib.byteCells l:=by
  rcases hown.2 with ⟨_,hz⟩ | ⟨g,cap,cur,hv,r⟩
  · exact absurd hz hl0
  · exact ⟨g,cap,cur,hv,r⟩
 have c1:w.drew.cell? ⟨b,1,none⟩=some (.slice (some ⟨g,0,none⟩) l.length cap):=by
  have:w.drew.heap[b]?=some (.cells #[p,.slice (some ⟨g,0,none⟩) l.length cap] 242 (0,0)):=hbk
  rw [Lib.cell_of_heap this]; rfl
 have hSD:(Builtin.unsafeSliceData_ #[36] 312 #[.slice (some ⟨g,0,none⟩) l.length cap]).run Tryz.prog w.drew=.ok (.pointer (some ⟨g,0,none⟩)) w.drew :=
  Lib.run_unsafeSliceData_row _ _ _ _ _ _ (by omega)
 have hUS:(Builtin.unsafeString_ #[312,3] 9 #[.pointer (some ⟨g,0,none⟩),.int .i64 l.length]).run Tryz.prog w.drew=.ok (.string ⟨l.toArray⟩) (w.drew.freeze ⟨g,0,none⟩ l.length):=by
  refine Lib.run_unsafeString_row w.drew 312 3 9 5 Tryz.underlying312 (by kernel_rfl) g cur.size (by have hg':w.drew.heap[g]?=some (.cells cur 5 (0,0)):=hg; simp [World.shape?,hg']) l h0 (by omega) (by unfold maxLen at hcm; omega) ?_
  intro j x hx
  have:=hown.cells (g:=g) rfl j (.int .u8 x.toNat) (by simp [Lib.byteCells,hx])
  exact this
 have mixed:Tryz.prog.follows .mixedOrders=true:=by kernel_rfl
 go_enter Tryz.func185,Tryz.ntmps185
 go_wp2
 go_region_o
 all_goals (go_wp2; go_ret; exact ⟨rfl,Lib.below_freeze (Below.drew (Below.refl B w)) (p:=⟨g,0,none⟩) hbg _⟩)
end Go.Proofs.YtmbmbcamecfnkaaGreatDoor
namespace Go.Proofs.YtmbmbcamecfnkaaGreatDoor
open Go.RowKit
set_option linter.unusedVariables false
set_option maxRecDepth 100000
def bA (l:List UInt8):ByteArray:=⟨l.toArray⟩
theorem bA_sz (l:List UInt8):(bA l).size=l.length:=rfl
theorem Qei {a b:ByteArray} (h:a=b):SubB (sV a) (sV b):=by subst h; exact .refl _
def numS (n:Nat):ByteArray:=⟨(Lib.decDigits n).toArray⟩
def Qrc:Spec
 | [.f (.v (.int .i64 n))]=>some (some (0≤n∧n≤9223372036854775807),.one (sV (numS n.toNat)))
 | _=>none
theorem cItoa {E:Env} (hT:∀ K w H,E K w H→Tab w):Contract Tryz.prog E 133 Qrc:=by
 intro xs p r hs hp w H vs hfro hE hvs
 unfold Qrc at hs
 split at hs
 · rename_i n
   cases hs
   obtain ⟨h0,h1⟩:=hp _ rfl
   obtain ⟨v0,rfl⟩:∃ v0,vs=[v0]:=by
    match vs,hvs.1 with
    | [v0],_=>exact ⟨v0,rfl⟩
   have q0:=(hvs.2 0 _ _ rfl rfl).val
   subst q0
   refine (Tryz.strconv_Itoa n (by omega) h1 w (hT _ _ _ hE)).mono ?_
   rintro e w' ⟨rfl,k,os,rfl⟩
   have hb:=Lib.below_grow w.heap.size w (Nat.le_refl _) k os
   refine ⟨H,_,rfl,⟨hb,H.le_refl,fun b j v hv=>(hb.cell (p:=⟨b,j,none⟩) (hfro.lt hv)).trans (hfro b j v hv),fun b j v h1 h2=>by rw [h1] at h2; cases h2⟩,?_⟩
   have e:Lib.itoa n=Lib.decDigits n.toNat:=if_neg (by omega)
   rw [e]
   exact .f (.v _ rfl)
 · cases hs
theorem Qjh {o:Nat} {k:IntKind} {l m:List Int} (h:l=m):SubB (.tl o (.is k l)) (.tl o (.is k m)):=by subst h; exact .refl _
def wsI:List ByteArray→List Int
 | []=>[]
 | s::l=>strI s++wsI l
theorem QqY (l:List ByteArray) (s:ByteArray):wsI (l++[s])=wsI l++strI s:=by
 induction l with
 | nil=>simp [wsI]
 | cons a l ih=>simp [wsI,ih]
theorem Qjb {l:List ByteArray} {i:Nat} (h:i<l.length):(wsI (l.take i)).length+(l.getD i ⟨#[]⟩).size≤(wsI l).length:=by
 induction l generalizing i with
 | nil=>simp at h
 | cons a l ih =>
  cases i with
  | zero=>simp [wsI,QdO]
  | succ i =>
   have:=ih (i:=i) (by simpa using h)
   simp only [List.take_succ_cons,wsI,List.length_append,List.getD_cons_succ]
   omega
def bldO (l:List Int):List PO:=[.bld 242 (.tl 1 (.is .u8 l)),.tail 5 1]
def Qtr:Spec2
 | [.bp 0 0,.f x],[.bld T (.tl 1 (.is .u8 l)),.tail e 1]=>match dtOf .str x,Nat.beq T 242 && Nat.beq e 5 with
  | some ws,true=>some (.need (l.length+(wsI ws).length≤140737488355328) (.ret (.tup []) (bldO (l++wsI ws))))
  | _,_=>none
 | _,_=>none
theorem cPutW {E:Env} (hU:Up E):Contract2 Tryz.prog E 259 Qtr:=by
 refine contract2 [] [(285,QkF)] Tryz.ntmps259 Tryz.func259 (by kernel_rfl) (by kernel_rfl) hU trivial ⟨Qul,trivial⟩ ?_
 intro xs ob o hs hok
 unfold Qtr at hs
 split at hs
 · rename_i x T l e
   split at hs
   · rename_i ws hx hT
     cases hs
     rw [Bool.and_eq_true] at hT
     obtain rfl:=Nat.eq_of_beq_eq_true hT.1
     obtain rfl:=Nat.eq_of_beq_eq_true hT.2
     have hn:=hok.1
     refine ⟨[.bp 0 0,.f (.dt .str ws)],[(1,.s ⟨Nat,fun i=>⟨[(0,.bp 0 0),(6,.f (.dt .str ws)),(7,iV ws.length),(8,iV i)],bldO (l++wsI (ws.take i))⟩,fun i=>i≤ws.length,fun i=>ws.length - i⟩)],.cons (.refl _) (.cons ⟨fun H B v hv=>.f (Qcz hx _ _ hv.rd)⟩ .nil),rfl,fun _ hsh=>?_⟩
     refine Qag (p:=∃ (x1:Nat),((SubB (PV.tl 1 (Lf.is IntKind.u8 l)) (PV.tl 1 (Lf.is IntKind.u8 (l++wsI (List.take x1 ws))))∧True)∧rfB (PV.bp 0 0)∧rfB (dP Sh.str ws)∧rfB (iV (↑ws.length:Int))∧SubB (iV 0) (iV (↑x1:Int))∧True)∧x1≤ws.length∧True∧∀ (z2:Nat),z2≤ws.length→True→ifB (decide ((↑z2:Int)<(↑ws.length:Int))) (((0:Int)≤(↑z2:Int)∧(↑z2:Int)<(↑ws.length:Int))∧(l++wsI (List.take z2 ws)).length+ByteArray.size (ws.getD (↑z2:Int).toNat Sh.str.nil)≤140737488355328∧∃ (x3:Nat),((SubB (PV.tl 1 (Lf.is IntKind.u8 (l++wsI (List.take z2 ws)++strI (ws.getD (↑z2:Int).toNat Sh.str.nil)))) (PV.tl 1 (Lf.is IntKind.u8 (l++wsI (List.take x3 ws))))∧True)∧rfB (PV.bp 0 0)∧rfB (dP Sh.str ws)∧rfB (iV (↑ws.length:Int))∧SubB (iV (IntKind.i64.wrap ((↑z2:Int)+(1:Int)))) (iV (↑x3:Int))∧True)∧x3≤ws.length∧True∧(ws.length - x3).succ.le (ws.length - z2)) (EndU 2 (Out.need (l.length+(wsI ws).length≤140737488355328) (Out.ret (PV.tup []) (bldO (l++wsI ws)))).fin true (PV.tup []) [PO.bld 242 (PV.tl 1 (Lf.is IntKind.u8 (l++wsI (List.take z2 ws)))),PO.tail 5 1])) ?kr ?_
     case kr=>kernel_rfl
     refine ⟨?x0,⟨⟨⟨?m0,trivial⟩,⟨.refl _,⟨.refl _,⟨.refl _,⟨?m1,trivial⟩⟩⟩⟩⟩,⟨?s0,⟨trivial,fun z2=>fun hq0=>fun _=>Qae.2 ⟨fun hb1=>⟨?s1,⟨?s2,⟨?x1,⟨⟨⟨?m2,trivial⟩,⟨.refl _,⟨.refl _,⟨.refl _,⟨?m3,trivial⟩⟩⟩⟩⟩,⟨?s3,⟨trivial,?m4⟩⟩⟩⟩⟩⟩,fun hb1=>?m5⟩⟩⟩⟩⟩
     case x0=>exact 0
     case x1=>exact z2+1
     all_goals try simp only [Int.toNat_natCast,decide_eq_true_eq,decide_eq_false_iff_not,Int.ofNat_lt] at *
     case m0=>exact Qjh (by rw [List.take_zero]; exact (List.append_nil l).symm)
     case m1=>exact .refl _
     case s0=>exact Nat.zero_le _
     case m5=>rw [List.take_of_length_le (by omega)]; exact QaA (endU (ob:=bldO (l++wsI ws)) (r:=[]) rfl (.refl _) rfl rfl rfl)
     all_goals have hz:z2<ws.length:=by omega
     case s1=>omega
     case s2 =>
      have h1:=Qjb hz
      have h2:(ws.getD z2 Sh.str.nil).size=(ws.getD z2 ⟨#[]⟩).size:=rfl
      rw [List.length_append,h2]
      omega
     case m2=>exact Qjh (by rw [List.take_add_one,List.getElem?_eq_getElem hz,Option.toList_some,QqY,List.append_assoc,List.getD_eq_getElem?_getD,List.getElem?_eq_getElem hz]; rfl)
     case m3=>exact QaM (by rw [wJ _ (by omega) (by have:=Qgq hsh.2.1; omega)]; rfl)
     case s3=>omega
     case m4=>exact (by omega:ws.length - (z2+1)<ws.length - z2)
   · cases hs
 · cases hs
def w1 (t:Tw):List ByteArray:=[numS t.kind.toNat,⟨#[32]⟩,numS t.name.size,⟨#[58]⟩,t.name,⟨#[32]⟩]
def ngI (t:Tw):List Int:=if t.neg=true then [45] else []
def dgI (l:List Nat):List Int:=(Qes l).map fun b=>(b.toNat:Int)
def w3 (t:Tw):List ByteArray:=[⟨#[32]⟩,numS t.kids.length,⟨#[59]⟩]
def kdI (l:List Tw):List Int:=(Qdx l).map fun b=>(b.toNat:Int)
theorem QlX (n:Nat):strI (numS n)=(Lib.decDigits n).map fun b=>(b.toNat:Int):=by simp [strI,numS]
theorem Qt0 (t:Tw):keyI t=wsI (w1 t)++(ngI t++(dgI t.digits++(wsI (w3 t)++kdI t.kids))):=by
 unfold keyI
 rw [Qlb]
 simp only [w1,w3,wsI,QlX,List.map_append,List.map_cons,dgI,kdI,List.append_nil,List.append_assoc]
 unfold ngI
 have h1:(if t.neg=true then [(45:UInt8)] else []).map (fun b=>(b.toNat:Int))=if t.neg=true then [45] else []:=by split <;> rfl
 rw [h1]
 rfl
theorem Qg3 (l m:List Nat):Qes (l++m)=Qes l++Qes m:=by
 induction l with
 | nil=>rfl
 | cons d l ih=>simp only [List.cons_append,Qes,ih,List.append_assoc]
theorem QmY {l:List Nat} {i:Nat} (h:i<l.length):dgI (l.take (i+1))=dgI (l.take i)++wsI [numS (l.getD i 0),⟨#[46]⟩]:=by
 rw [List.take_add_one,List.getElem?_eq_getElem h,Option.toList_some,List.getD_eq_getElem?_getD,List.getElem?_eq_getElem h]
 unfold dgI
 rw [Qg3,List.map_append]
 simp only [wsI,QlX,Qes,List.map_append,List.map_cons,List.append_nil]
 rfl
theorem QgX (l m:List Tw):Qdx (l++m)=Qdx l++Qdx m:=by
 induction l with
 | nil=>rfl
 | cons d l ih=>simp only [List.cons_append,Qdx,ih,List.append_assoc]
theorem QmH {l:List Tw} {i:Nat} (h:i<l.length):kdI (l.take (i+1))=kdI (l.take i)++keyI (l.getD i Sh.tm.nil):=by
 rw [List.take_add_one,List.getElem?_eq_getElem h,Option.toList_some,List.getD_eq_getElem?_getD,List.getElem?_eq_getElem h]
 unfold kdI keyI
 rw [QgX,List.map_append]
 simp only [Qdx,List.append_nil]
 rfl
theorem QhS {l:List Nat} (i:Nat):(Qes (l.take i)).length≤(Qes l).length:=by
 conv=>rhs; rw [← List.take_append_drop i l,Qg3,List.length_append]
 omega
theorem QhN {l:List Tw} (i:Nat):(Qdx (l.take i)).length≤(Qdx l).length:=by
 conv=>rhs; rw [← List.take_append_drop i l,QgX,List.length_append]
 omega
theorem Qdz {l:List Nat} {i:Nat} (h:i<l.length):l.getD i 0∈l:=by
 rw [List.getD_eq_getElem?_getD,List.getElem?_eq_getElem h]; exact List.getElem_mem h
theorem QoK:∀ {l:List Tw} {a:Tw},a∈l→a.size≤szL l
 | t::l,a,h=>by
  have e:szL (t::l)=t.size+szL l:=rfl
  rcases List.mem_cons.1 h with rfl | h
  · omega
  · have:=QoK h; omega
theorem QmE (t:Tw):(keyI t).length=(keyB t).length:=by simp [keyI]
def Qjt (n:Nat):Spec2
 | [.bp 0 0,x],[.bld T (.tl 1 (.is .u8 l)),.tail e 1]=>match tmOf x,Nat.beq T 242 && Nat.beq e 5 with
  | some t,true=>some (.need (t.size<n∧QbN t∧t.fitT∧l.length+(keyB t).length≤140737488355328) (.ret (.tup []) (bldO (l++keyI t))))
  | _,_=>none
 | _,_=>none
theorem QsR {E:Env} (hU:Up E) (hT:∀ K w H,E K w H→Tab w):∀ n,Contract2 Tryz.prog E 184 (Qjt n)
 | 0=>by
  intro xs ob o hs hok
  unfold Qjt at hs
  split at hs
  · split at hs
    · cases hs
      exact absurd hok.1.1 (Nat.not_lt_zero _)
    · cases hs
  · cases hs
 | n+1=>by
  refine contract2 [(133,Qrc)] [(259,Qtr),(184,Qjt n)] Tryz.ntmps184 Tryz.func184 (by kernel_rfl) (by kernel_rfl) hU ⟨cItoa hT,trivial⟩ ⟨cPutW hU,QsR hU hT n,trivial⟩ ?_
  intro xs ob o hs hok
  unfold Qjt at hs
  split at hs
  · rename_i x T l e
    split at hs
    · rename_i t ht hT2
      cases hs
      rw [Bool.and_eq_true] at hT2
      obtain rfl:=Nat.eq_of_beq_eq_true hT2.1
      obtain rfl:=Nat.eq_of_beq_eq_true hT2.2
      obtain ⟨⟨hn,hk,hf,hl⟩,-⟩:=hok
      have f2:=(Tw.fitT_eq t).1 hf
      have k2:=(QmD t).1 hk
      have e2:=Qt0 t
      have e3:=congrArg List.length e2
      simp only [List.length_append,QmE] at e3
      have wk:IntKind.i64.wrap t.kind=t.kind:=wJ _ (by omega) (by omega)
      refine ⟨[.bp 0 0,tmP t],[(1000004,.s ⟨Unit,fun _=>⟨[(0,.bp 0 0),(3,.bp 2 0)],[.bld 242 (.tl 1 (.is .u8 (l++(wsI (w1 t)++ngI t)))),.tail 5 1,.cells (QaU (tmC t))]⟩,fun _=>True,fun _=>0⟩),
       (5,.s ⟨Nat,fun i=>⟨[(0,.bp 0 0),(3,.bp 2 0),(29,.f (.lr t.digits t.digits.length)),(30,iV t.digits.length),(31,iV i)],[.bld 242 (.tl 1 (.is .u8 (l++(wsI (w1 t)++(ngI t++dgI (t.digits.take i)))))),.tail 5 1,.cells (QaU (tmC t))]⟩,fun i=>i≤t.digits.length,fun i=>t.digits.length - i⟩),
       (11,.s ⟨Nat,fun i=>⟨[(0,.bp 0 0),(3,.bp 2 0),(50,.f (.dt .tm t.kids)),(51,iV t.kids.length),(52,iV i)],[.bld 242 (.tl 1 (.is .u8 (l++(wsI (w1 t)++(ngI t++(dgI t.digits++(wsI (w3 t)++kdI (t.kids.take i)))))))),.tail 5 1,.cells (QaU (tmC t))]⟩,fun i=>i≤t.kids.length,fun i=>t.kids.length - i⟩)],.cons (.refl _) (.cons (Qfs ht) .nil),rfl,fun _ hsh=>?_⟩
      refine Qag (p:=let A0:=rfB (uV t.kind)∧rfB (sV t.name)∧rfB (bV t.neg)∧rfB (PV.f (Lf.lr t.digits t.digits.length))∧rfB (dP Sh.tm t.kids)∧True; let A2:=(↑t.kids.length:Int); let A3:=fun (z5:Nat)=>(etaT (t.kids.getD (↑z5:Int).toNat Sh.tm.nil)); let A4:=fun (z5:Nat)=>(wsI (w1 t)++(ngI t++(dgI t.digits++(wsI (w3 t)++kdI (List.take z5 t.kids))))); let A5:=fun (z3:Nat)=>(wsI (w1 t)++(ngI t++dgI (List.take z3 t.digits))); let A6:=PV.tl 1 (Lf.is IntKind.u8 (l++(wsI (w1 t)++ngI t))); let A7:=fun (z3:Nat)=>(↑(t.digits.getD (↑z3:Int).toNat 0):Int); let A8:=(↑t.name.size:Int); let A9:=(9223372036854775807:Int); let A1:=l++wsI [numS (IntKind.i64.wrap t.kind).toNat,ByteArray.mk #[(32:UInt8)],numS A8.toNat,ByteArray.mk #[(58:UInt8)],t.name,ByteArray.mk #[(32:UInt8)]]; ((0:Int)≤IntKind.i64.wrap t.kind∧IntKind.i64.wrap t.kind≤A9)∧((0:Int)≤A8∧A8≤A9)∧l.length+(wsI [numS (IntKind.i64.wrap t.kind).toNat,ByteArray.mk #[(32:UInt8)],numS A8.toNat,ByteArray.mk #[(58:UInt8)],t.name,ByteArray.mk #[(32:UInt8)]]).length≤140737488355328∧ifB t.neg (A1.length+1≤140737488355328∧∃ (x1:Unit),((SubB (PV.tl 1 (Lf.is IntKind.u8 (l++wsI [numS (IntKind.i64.wrap t.kind).toNat,ByteArray.mk #[(32:UInt8)],numS A8.toNat,ByteArray.mk #[(58:UInt8)],t.name,ByteArray.mk #[(32:UInt8)]]++wsI [ByteArray.mk #[(45:UInt8)]]))) A6∧A0∧True)∧rfB (PV.bp 0 0)∧rfB (PV.bp 2 0)∧True)∧True) (∃ (x1:Unit),((SubB (PV.tl 1 (Lf.is IntKind.u8 A1)) A6∧A0∧True)∧rfB (PV.bp 0 0)∧rfB (PV.bp 2 0)∧True)∧True)∧∀ (z1:Unit),True→∃ (x2:Nat),((SubB A6 (PV.tl 1 (Lf.is IntKind.u8 (l++(wsI (w1 t)++(ngI t++dgI (List.take x2 t.digits))))))∧A0∧True)∧rfB (PV.bp 0 0)∧rfB (PV.bp 2 0)∧rfB (PV.f (Lf.lr t.digits t.digits.length))∧rfB (iV (↑t.digits.length:Int))∧SubB (iV 0) (iV (↑x2:Int))∧True)∧x2≤t.digits.length∧True∧∀ (z3:Nat),z3≤t.digits.length→True→ifB (decide ((↑z3:Int)<(↑t.digits.length:Int))) (((0:Int)≤(↑z3:Int)∧(↑z3:Int)<(↑t.digits.length:Int))∧((0:Int)≤IntKind.i64.wrap (A7 z3)∧IntKind.i64.wrap (A7 z3)≤A9)∧(l++(A5 z3)).length+(wsI [numS (IntKind.i64.wrap (A7 z3)).toNat,ByteArray.mk #[(46:UInt8)]]).length≤140737488355328∧∃ (x4:Nat),((SubB (PV.tl 1 (Lf.is IntKind.u8 (l++(A5 z3)++wsI [numS (IntKind.i64.wrap (A7 z3)).toNat,ByteArray.mk #[(46:UInt8)]]))) (PV.tl 1 (Lf.is IntKind.u8 (l++(wsI (w1 t)++(ngI t++dgI (List.take x4 t.digits))))))∧A0∧True)∧rfB (PV.bp 0 0)∧rfB (PV.bp 2 0)∧rfB (PV.f (Lf.lr t.digits t.digits.length))∧rfB (iV (↑t.digits.length:Int))∧SubB (iV (IntKind.i64.wrap ((↑z3:Int)+(1:Int)))) (iV (↑x4:Int))∧True)∧x4≤t.digits.length∧True∧(t.digits.length - x4).succ.le (t.digits.length - z3)) (((0:Int)≤A2∧A2≤A9)∧(l++(A5 z3)).length+(wsI [ByteArray.mk #[(32:UInt8)],numS A2.toNat,ByteArray.mk #[(59:UInt8)]]).length≤140737488355328∧∃ (x4:Nat),((SubB (PV.tl 1 (Lf.is IntKind.u8 (l++(A5 z3)++wsI [ByteArray.mk #[(32:UInt8)],numS A2.toNat,ByteArray.mk #[(59:UInt8)]]))) (PV.tl 1 (Lf.is IntKind.u8 (l++(wsI (w1 t)++(ngI t++(dgI t.digits++(wsI (w3 t)++kdI (List.take x4 t.kids))))))))∧A0∧True)∧rfB (PV.bp 0 0)∧rfB (PV.bp 2 0)∧rfB (dP Sh.tm t.kids)∧rfB (iV A2)∧SubB (iV 0) (iV (↑x4:Int))∧True)∧x4≤t.kids.length∧True∧∀ (z5:Nat),z5≤t.kids.length→True→ifB (decide ((↑z5:Int)<A2)) (((0:Int)≤(↑z5:Int)∧(↑z5:Int)<A2)∧((A3 z5).size<n∧QbN (A3 z5)∧(A3 z5).fitT∧(l++(A4 z5)).length+(keyB (A3 z5)).length≤140737488355328)∧∃ (x6:Nat),((SubB (PV.tl 1 (Lf.is IntKind.u8 (l++(A4 z5)++keyI (A3 z5)))) (PV.tl 1 (Lf.is IntKind.u8 (l++(wsI (w1 t)++(ngI t++(dgI t.digits++(wsI (w3 t)++kdI (List.take x6 t.kids))))))))∧A0∧True)∧rfB (PV.bp 0 0)∧rfB (PV.bp 2 0)∧rfB (dP Sh.tm t.kids)∧rfB (iV A2)∧SubB (iV (IntKind.i64.wrap ((↑z5:Int)+(1:Int)))) (iV (↑x6:Int))∧True)∧x6≤t.kids.length∧True∧(t.kids.length - x6).succ.le (t.kids.length - z5)) (EndU 2 (Out.need (t.size<n+1∧QbN t∧t.fitT∧l.length+(keyB t).length≤140737488355328) (Out.ret (PV.tup []) (bldO (l++keyI t)))).fin true (PV.tup []) [PO.bld 242 (PV.tl 1 (Lf.is IntKind.u8 (l++(A4 z5)))),PO.tail 5 1,PO.cells (QaU (tmC t))]))) ?kr ?_
      case kr=>kernel_rfl
      conv=>zeta
      refine ⟨?s0,⟨?s1,⟨?s2,⟨Qae.2 ⟨fun hb0=>⟨?s3,⟨?x0,⟨⟨⟨?m0,⟨⟨.refl _,⟨.refl _,⟨.refl _,⟨.refl _,⟨.refl _,trivial⟩⟩⟩⟩⟩,trivial⟩⟩,⟨.refl _,⟨.refl _,trivial⟩⟩⟩,trivial⟩⟩⟩,fun hb0=>⟨?x1,⟨⟨⟨?m1,⟨⟨.refl _,⟨.refl _,⟨.refl _,⟨.refl _,⟨.refl _,trivial⟩⟩⟩⟩⟩,trivial⟩⟩,⟨.refl _,⟨.refl _,trivial⟩⟩⟩,trivial⟩⟩⟩,fun z1=>fun _=>⟨?x2,⟨⟨⟨?m2,⟨⟨.refl _,⟨.refl _,⟨.refl _,⟨.refl _,⟨.refl _,trivial⟩⟩⟩⟩⟩,trivial⟩⟩,⟨.refl _,⟨.refl _,⟨.refl _,⟨.refl _,⟨?m3,trivial⟩⟩⟩⟩⟩⟩,⟨?s4,⟨trivial,fun z3=>fun hq1=>fun _=>Qae.2 ⟨fun hb2=>⟨?s5,⟨?s6,⟨?s7,⟨?x3,⟨⟨⟨?m4,⟨⟨.refl _,⟨.refl _,⟨.refl _,⟨.refl _,⟨.refl _,trivial⟩⟩⟩⟩⟩,trivial⟩⟩,⟨.refl _,⟨.refl _,⟨.refl _,⟨.refl _,⟨?m5,trivial⟩⟩⟩⟩⟩⟩,⟨?s8,⟨trivial,?m6⟩⟩⟩⟩⟩⟩⟩,fun hb2=>⟨?s9,⟨?s10,⟨?x4,⟨⟨⟨?m7,⟨⟨.refl _,⟨.refl _,⟨.refl _,⟨.refl _,⟨.refl _,trivial⟩⟩⟩⟩⟩,trivial⟩⟩,⟨.refl _,⟨.refl _,⟨.refl _,⟨?m8,⟨?m9,trivial⟩⟩⟩⟩⟩⟩,⟨?s11,⟨trivial,fun z5=>fun hq3=>fun _=>Qae.2 ⟨fun hb4=>⟨?s12,⟨?s13,⟨?x5,⟨⟨⟨?m10,⟨⟨.refl _,⟨.refl _,⟨.refl _,⟨.refl _,⟨.refl _,trivial⟩⟩⟩⟩⟩,trivial⟩⟩,⟨.refl _,⟨.refl _,⟨.refl _,⟨.refl _,⟨?m11,trivial⟩⟩⟩⟩⟩⟩,⟨?s14,⟨trivial,?m12⟩⟩⟩⟩⟩⟩,fun hb4=>?m13⟩⟩⟩⟩⟩⟩⟩⟩⟩⟩⟩⟩⟩⟩⟩⟩
      all_goals try simp only [etaT] at *
      case x0=>exact ()
      case x1=>exact ()
      case x2=>exact 0
      case x3=>exact z3+1
      case x4=>exact 0
      case x5=>exact z5+1
      all_goals try simp only [wk,Int.toNat_natCast,decide_eq_true_eq,decide_eq_false_iff_not,Int.ofNat_lt,Tw.eta] at *
      case s0=>omega
      case s1=>omega
      case s2=>show l.length+(wsI (w1 t)).length≤_; omega
      case s3 =>
       have h1:(ngI t).length=1:=by unfold ngI; rw [if_pos hb0]; rfl
       rw [List.length_append]
       show l.length+(wsI (w1 t)).length+1≤_
       omega
      case m0=>exact Qjh (by unfold ngI; rw [if_pos hb0,List.append_assoc]; rfl)
      case m1=>exact Qjh (by unfold ngI; rw [if_neg (by rw [hb0]; decide),List.append_nil]; rfl)
      case m2=>exact Qjh (by rw [List.take_zero]; show _=l++(wsI (w1 t)++(ngI t++[])); rw [List.append_nil])
      case m3=>exact .refl _
      case s4=>exact Nat.zero_le _
      case s5=>omega
      case m8=>exact .refl _
      case m9=>exact .refl _
      case s9=>omega
      case s11=>exact Nat.zero_le _
      case s12=>omega
      case m13 =>
       refine QaA (endU (ob:=bldO (l++keyI t)) (r:=[.cells (QaU (tmC t))]) rfl (.refl _) rfl rfl ?_)
       rw [List.take_of_length_le (by omega),← e2]; rfl
      case s13 =>
       have hz:z5<t.kids.length:=by omega
       have hm:t.kids.getD z5 Sh.tm.nil∈t.kids:=by rw [List.getD_eq_getElem?_getD,List.getElem?_eq_getElem hz]; exact List.getElem_mem hz
       have h1:=congrArg List.length (QmH hz)
       have h2:=QhN (l:=t.kids) (z5+1)
       simp only [List.length_append,QmE,kdI,List.length_map] at h1 e3 ⊢
       have h3:=QoK hm
       have h4:=t.size_eq
       exact ⟨by omega,Qfj k2.2 hm,QiU _ f2.2.2.2 hz,by omega⟩
      case s14=>omega
      case m10=>exact Qjh (by rw [QmH (by omega)]; simp only [List.append_assoc])
      case m11=>exact QaM (by rw [wJ _ (by omega) (by omega)]; rfl)
      case m12=>exact (by omega:t.kids.length - (z5+1)<t.kids.length - z5)
      case s10 =>
       rw [List.take_of_length_le (by omega)]
       simp only [List.length_append] at e3 ⊢
       show l.length+((wsI (w1 t)).length+((ngI t).length+(dgI t.digits).length))+(wsI (w3 t)).length≤_
       omega
      case m7=>exact Qjh (by rw [List.take_of_length_le (by omega),List.take_zero]; show _=l++(wsI (w1 t)++(ngI t++(dgI t.digits++(wsI (w3 t)++[])))); simp only [List.append_assoc,List.append_nil]; rfl)
      all_goals have hz:z3<t.digits.length:=by omega
      all_goals have hd:t.digits.getD z3 0<4294967296:=k2.1.2 _ (Qdz hz)
      all_goals have wd:IntKind.i64.wrap (t.digits.getD z3 0:Int)=(t.digits.getD z3 0:Int):=wJ _ (by omega) (by omega)
      all_goals try simp only [wd,Int.toNat_natCast] at *
      case s6=>omega
      case s7 =>
       have h1:=congrArg List.length (QmY hz)
       have h2:=QhS (l:=t.digits) (z3+1)
       simp only [List.length_append,dgI,List.length_map] at h1 e3 ⊢
       omega
      case m4=>exact Qjh (by rw [QmY hz]; simp only [List.append_assoc])
      case m5=>exact QaM (by rw [wJ _ (by omega) (by omega)]; rfl)
      case s8=>omega
      case m6=>exact (by omega:t.digits.length - (z3+1)<t.digits.length - z3)
    · cases hs
  · cases hs
def Qsq:Spec2
 | [.bp 0 0,x],[.bld T (.tl 1 (.is .u8 l)),.tail e 1]=>match tmOf x,Nat.beq T 242 && Nat.beq e 5 with
  | some t,true=>some (.need (QbN t∧t.fitT∧l.length+(keyB t).length≤140737488355328) (.ret (.tup []) (bldO (l++keyI t))))
  | _,_=>none
 | _,_=>none
theorem cTermW {E:Env} (hU:Up E) (hT:∀ K w H,E K w H→Tab w):Contract2 Tryz.prog E 184 Qsq:=by
 intro xs ob o hs hok
 unfold Qsq at hs
 split at hs
 · rename_i x T l e
   split at hs
   · rename_i t ht hT2
     cases hs
     refine QsR hU hT (t.size+1) [.bp 0 0,x] [.bld T (.tl 1 (.is .u8 l)),.tail e 1] (.need (t.size<t.size+1∧QbN t∧t.fitT∧l.length+(keyB t).length≤140737488355328) (.ret (.tup []) (bldO (l++keyI t)))) ?_ ⟨⟨Nat.lt_succ_self _,hok.1⟩,hok.2⟩
     simp only [Qjt,ht,hT2]
   · cases hs
 · cases hs
end Go.Proofs.YtmbmbcamecfnkaaGreatDoor
namespace Go.Proofs.YtmbmbcamecfnkaaGreatDoor
open Go.RowKit
set_option linter.unusedVariables false
set_option maxRecDepth 100000
theorem Qt1:∀ t:Tw,keyB t≠[]
 | .mk k n b d l=>by
  rw [keyB]
  intro h
  exact Qug _ (List.append_eq_nil_iff.1 h).1
def sKey:Spec
 | [x]=>match tmOf x with
  | some t=>some (some (QbN t∧t.fitT∧(keyB t).length≤140737488355328),.one (sV (keyS t)))
  | none=>none
 | _=>none
theorem Qsc {l:List UInt8}:QbR 1 (l.map fun b=>(b.toNat:Int)).length (fun q _=>.int .u8 ((l.map fun b=>(b.toNat:Int)).getD q 0))=Lib.byteCells l:=by
 apply List.ext_getElem?
 intro j
 unfold QbR Lib.byteCells
 simp only [Nat.mul_one,List.getElem?_map,List.length_map,Nat.div_one]
 by_cases hj:j<l.length
 · rw [List.getElem?_range hj,List.getElem?_eq_getElem hj]
   simp only [Option.map_some,List.getD_eq_getElem?_getD,List.getElem?_map,List.getElem?_eq_getElem hj,Option.getD_some]
 · rw [List.getElem?_eq_none (by simpa using hj),List.getElem?_eq_none (by simpa using hj)]
   rfl
def keyW (w:World) (u0 u1 u2 u3 u4:Value):World:=(w.alloc (.cells #[u0,u1,u2,u3,u4] 29)).alloc (.cells #[.pointer none,.slice none 0 0] 242)
theorem Qfk (w:World) (o:Obj):(w.alloc o).heap.size=w.heap.size+1:=by simp
theorem QrD (w:World) (u0 u1 u2 u3 u4:Value):(keyW w u0 u1 u2 u3 u4).heap[w.heap.size+1]?=some (.cells #[.pointer none,.slice none 0 0] 242 (0,0)):=by
 have:=heap_alloc_new (w.alloc (.cells #[u0,u1,u2,u3,u4] 29)) (.cells #[.pointer none,.slice none 0 0] 242)
 rw [Qfk] at this
 exact this
theorem QrC (w:World) (u0 u1 u2 u3 u4:Value):(keyW w u0 u1 u2 u3 u4).heap[w.heap.size]?=some (.cells #[u0,u1,u2,u3,u4] 29 (0,0)):=by
 refine (heap_alloc_old (w.alloc (.cells #[u0,u1,u2,u3,u4] 29)) _ ?_).trans (heap_alloc_new w _)
 rw [Qfk]; omega
set_option maxHeartbeats 2000000 in
theorem cKey {E:Env} (hU:Up E) (hT:∀ K w H,E K w H→Tab w):Contract Tryz.prog E 98 sKey:=by
 intro xs p r hs hp w H vs hfro hE hvs
 unfold sKey at hs
 split at hs
 · rename_i x
   split at hs
   · rename_i t ht
     cases hs
     obtain ⟨hk,hf,hl⟩:=hp _ rfl
     obtain ⟨v0,rfl⟩:∃ v0,vs=[v0]:=by
      match vs,hvs.1 with
      | [v0],_=>exact ⟨v0,rfl⟩
     have q0:=(Qfs ht).out _ _ _ (hvs.2 0 _ _ rfl rfl)
     obtain ⟨us,rfl,hus⟩:=PRs.of_agg q0
     obtain ⟨u0,u1,u2,u3,u4,rfl⟩:∃ u0 u1 u2 u3 u4,us=[u0,u1,u2,u3,u4]:=by
      have hl5:=hus.1
      match us,hl5 with
      | [u0,u1,u2,u3,u4],_=>exact ⟨u0,u1,u2,u3,u4,rfl⟩
     have hfz:∀ j,H (w.heap.size+1) j=none:=fun j=>by
      cases hh:H (w.heap.size+1) j with
      | none=>rfl
      | some u=>have:=hfro.lt hh; omega
     have hbel:Below w.heap.size w (keyW w u0 u1 u2 u3 u4):=((Below.refl _ _).alloc (Nat.le_refl _) _).alloc (by rw [Qfk]; omega) _
     have hfro1:Fro H (keyW w u0 u1 u2 u3 u4):=fun b j v hv=>(hbel.cell (p:=⟨b,j,none⟩) (hfro.lt hv)).trans (hfro b j v hv)
     have hext:Ext w H (keyW w u0 u1 u2 u3 u4) H:=⟨hbel,H.le_refl,hfro1,fun b j v h1 h2=>by rw [h1] at h2; cases h2⟩
     have hE1:=hU.go (Cx.of w) H _ H ((ExtK.refl (c:=Cx.of w) hfro (fun b hb=>hb)).trans hext) hE
     have hnew:=QrD w u0 u1 u2 u3 u4
     have hold:=QrC w u0 u1 u2 u3 u4
     let g:Gh:=⟨H,fun o=>match o with | 0=>some (.pointer (some ⟨w.heap.size+1,0,none⟩)) | 1=>some (.slice none 0 0) | _=>none⟩
     have hO:Obs (Cx.of w).K [.bld 242 (.tl 1 (.is .u8 [])),.tail 5 1] g (keyW w u0 u1 u2 u3 u4):=by
      have key:∀ o u,g.B o=some u→(o=0∧u=.pointer (some ⟨w.heap.size+1,0,none⟩))∨(o=1∧u=.slice none 0 0):=fun o u hu=>by
       match o with
       | 0=>cases hu; exact .inl ⟨rfl,rfl⟩
       | 1=>cases hu; exact .inr ⟨rfl,rfl⟩
       | o+2=>cases hu
      refine ⟨hfro1,fun o u b hu hb=>?_,fun o x u hx hu=>?_,fun o o' u u' b hne hu hu' hb hb'=>?_,fun o u hu=>?_,fun o u b hu hb=>?_⟩
      · rcases key o u hu with ⟨rfl,rfl⟩ | ⟨rfl,rfl⟩
        · cases hb
          exact (Array.getElem?_eq_some_iff.1 hnew).1
        · cases hb
      · rcases key o u hu with ⟨rfl,rfl⟩ | ⟨rfl,rfl⟩
        · cases hx
          exact ⟨w.heap.size+1,.pointer none,.slice none 0 0,rfl,hnew,.inl rfl,.tl (.slf (fun _=>rfl) (f:=.is .u8 []) rfl trivial (Nat.le_refl _) (by unfold maxLen; omega) (fun _=>rfl) 0 0 (fun _ _=>undef) (fun hc=>absurd hc (Nat.lt_irrefl 0)) (fun i hi=>absurd hi (Nat.not_lt_zero i)) (fun i hi=>absurd hi (Nat.not_lt_zero i)) (fun i hi=>absurd hi (Nat.not_lt_zero i))) rfl,Nat.zero_le _,hfz⟩
        · cases hx
          exact .inl rfl
      · rcases key o u hu with ⟨rfl,rfl⟩ | ⟨rfl,rfl⟩ <;> rcases key o' u' hu' with ⟨rfl,rfl⟩ | ⟨rfl,rfl⟩
        · exact hne rfl
        · cases hb'
        · cases hb
        · exact hne rfl
      · rcases key o u hu with ⟨rfl,rfl⟩ | ⟨rfl,rfl⟩ <;> decide
      · rcases key o u hu with ⟨rfl,rfl⟩ | ⟨rfl,rfl⟩
        · cases hb
          exact Nat.not_lt.2 (Nat.le_succ _)
        · cases hb
     have hterm:=cTermW hU hT [.bp 0 0,tmP t] [.bld 242 (.tl 1 (.is .u8 [])),.tail 5 1] _ rfl (by
       rw [Tw.eta]
       exact ⟨⟨hk,hf,by simpa using hl⟩,trivial⟩) (Cx.of w).K (keyW w u0 u1 u2 u3 u4) g [.pointer (some ⟨w.heap.size+1,0,none⟩),.agg [u0,u1,u2,u3,u4].toArray]
      (fun b hb=>Nat.lt_of_lt_of_le hb hbel.size) hO (fun i hi=>by
       match i with
       | 0=>exact ⟨_,rfl⟩
       | 1=>exact ⟨_,rfl⟩) hE1 (.cons (.bp rfl) (.cons ((PRs.agg hus).mono H.le_refl (B0.le _)) .nil))
     rw [Tw.eta] at hterm
     have HT:=Lib.hid hterm
     clear hterm
     have c0:((w.alloc (.cells #[u0,u1,u2,u3,u4] 29)).alloc (.cells #[.pointer none,.slice none 0 0] 242)).cell? ⟨w.heap.size,0,none⟩=some u0:=Lib.cell_of_heap hold 0
     have c1:((w.alloc (.cells #[u0,u1,u2,u3,u4] 29)).alloc (.cells #[.pointer none,.slice none 0 0] 242)).cell? ⟨w.heap.size,1,none⟩=some u1:=Lib.cell_of_heap hold 1
     have c2:((w.alloc (.cells #[u0,u1,u2,u3,u4] 29)).alloc (.cells #[.pointer none,.slice none 0 0] 242)).cell? ⟨w.heap.size,2,none⟩=some u2:=Lib.cell_of_heap hold 2
     have c3:((w.alloc (.cells #[u0,u1,u2,u3,u4] 29)).alloc (.cells #[.pointer none,.slice none 0 0] 242)).cell? ⟨w.heap.size,3,none⟩=some u3:=Lib.cell_of_heap hold 3
     have c4:((w.alloc (.cells #[u0,u1,u2,u3,u4] 29)).alloc (.cells #[.pointer none,.slice none 0 0] 242)).cell? ⟨w.heap.size,4,none⟩=some u4:=Lib.cell_of_heap hold 4
     go_enter Tryz.func98,Tryz.ntmps98
     go_wp2_with (go_at_call 184; refine HT.out.mono ?_)
     rintro e w2 ⟨g2,v,hx2,hO2,hf2,hp2,hv2,rfl⟩
     obtain ⟨us,rfl,hus⟩:=PRs.of_tup hv2
     have hus0:us=[]:=List.length_eq_zero_iff.1 hus.1
     subst hus0
     have hB2:g2.B 0=some (.pointer (some ⟨w.heap.size+1,0,none⟩)):=hp2 0 _ ⟨rfl,rfl⟩
     obtain ⟨b',p,v,e0,k1,k2,k3,k4,k5⟩:=hO2.hold 0 _ _ rfl hB2
     cases e0
     have hown:w2.ownsRow w.heap.size 5 1 v (keyB t).length (Lib.byteCells (keyB t)):=by
      cases k3 with
      | tl hrd hB =>
       have hh:=hO2.hold 1 _ _ rfl hB
       obtain ⟨ao,cap,val,rfl,hcap,h0,hl1,hr1,b1,o1,hb1,hcell1⟩:=Qfy hrd rfl
       have hval:∀ q,q<([]++keyI t:List Int).length→val q 0=.int .u8 (([]++keyI t:List Int).getD q 0):=fun q hq=>(hr1 q hq 0 _ rfl).val rfl
       have hfl:QbR 1 ([]++keyI t:List Int).length val=Lib.byteCells (keyB t):=by
        rw [← Qsc]
        apply List.ext_getElem?
        intro j
        by_cases hj:j<([]++keyI t:List Int).length * 1
        · rw [QcH hj]
          have hj':j<((keyB t).map fun b=>(b.toNat:Int)).length * 1:=hj
          rw [QcH hj',Nat.mod_one,Nat.div_one,hval j (by omega)]; rfl
        · rw [List.getElem?_eq_none (by rw [QaY]; omega),List.getElem?_eq_none (by rw [QaY]; exact Nat.le_of_not_lt hj)]
       have hlen:([]++keyI t:List Int).length=(keyB t).length:=by simp [keyI]
       have h5:=Qjn (k:=1) (v:=.slice ao ([]++keyI t:List Int).length cap) (n:=([]++keyI t:List Int).length) (olds:=Lib.byteCells (keyB t)) hO2.fro hh (by rw [Lib.byteCells_length,hlen,Nat.mul_one]) (by
        rcases hh with hn | ⟨gb,n2,cap2,cur,he,g1,g2,g3,g4,g5,g6⟩
        · left; injection hn with e1 e2 e3; exact ⟨by rw [e1,e2,e3],e2⟩
        · right
          cases he
          refine ⟨gb,cap,rfl,fun j hj=>?_⟩
          obtain ⟨_,q2,_⟩:=Qb4 hj
          have hbb:=hb1 (Nat.lt_of_le_of_lt (Nat.zero_le _) q2)
          cases hbb
          have:=hcell1 j hj
          rw [Nat.zero_add,hfl] at this
          exact this)
       rw [hlen] at h5 ⊢
       refine ⟨h5.1,?_⟩
       rcases h5.2 with h6 | ⟨gb,cap2,cur,he,g1,g2⟩
       · exact .inl h6
       · refine .inr ⟨gb,cap2,cur,he,Nat.le_of_not_lt (fun hc=>hO2.kept 1 _ gb hB (by rw [hlen,he]; rfl) hc),g2⟩
     go_wp2_with (go_at_call 185; refine (Qti w.heap.size (w.heap.size+1) p v (keyB t) _ k1 hown (Qt1 t)).mono ?_)
     rintro e w3 ⟨rfl,hb3⟩
     go_wp2
     go_ret
     have hb2:Below w.heap.size w w3:=by
      have h7:Below w.heap.size w w2:=by
       refine ⟨hx2.os.trans hbel.os,hx2.tape.trans hbel.tape,hx2.output.trans hbel.output,Nat.le_trans hbel.size hx2.size,fun k hk=>(hx2.block k hk).trans (hbel.block k hk)⟩
      exact h7.trans hb3
     exact ⟨H,_,rfl,⟨hb2,H.le_refl,fun b j v hv=>(hb2.cell (p:=⟨b,j,none⟩) (hfro.lt hv)).trans (hfro b j v hv),fun b j v h1 h2=>by rw [h1] at h2; cases h2⟩,.f (.v _ rfl)⟩
   · cases hs
 · cases hs
end Go.Proofs.YtmbmbcamecfnkaaGreatDoor
namespace Go.Proofs.YtmbmbcamecfnkaaGreatDoor
open Go.RowKit
set_option linter.unusedVariables false
set_option maxRecDepth 100000
theorem Qtg (s:ByteArray):(s.data.toList.length:Int)=s.size:=by rw [Array.length_toList]; rfl
theorem Qh1 (a b:List UInt8):bA a++bA b=bA (a++b):=by
 apply ByteArray.ext
 rw [ByteArray.data_append]
 exact List.append_toArray a b
def kA (t:Tw):List UInt8:=Lib.decDigits t.kind.toNat++32::(Lib.decDigits t.name.size++58::(t.name.data.toList++[32]))
def kB (t:Tw):List UInt8:=kA t++if t.neg=true then [45] else []
def kC (t:Tw) (i:Nat):List UInt8:=kB t++Qes (t.digits.take i)
def kD (t:Tw) (i:Nat):List UInt8:=kC t t.digits.length++32::(Lib.decDigits t.kids.length++59::Qdx (t.kids.take i))
theorem Qp5 (t:Tw):kD t t.kids.length=keyB t:=by
 rw [kD,kC,kB,kA,List.take_length,List.take_length,Qlb]
 simp only [List.append_assoc,List.cons_append,List.nil_append]
theorem Qt3 {t:Tw} {i:Nat} (h:i<t.digits.length):kC t (i+1)=kC t i++(Lib.decDigits (t.digits.getD i 0)++[46]):=by
 rw [kC,kC,List.take_add_one,List.getElem?_eq_getElem h,Option.toList_some,Qg3,List.getD_eq_getElem?_getD,List.getElem?_eq_getElem h,List.append_assoc]
 rfl
theorem Qp4 {t:Tw} {i:Nat} (h:i<t.kids.length):kD t (i+1)=kD t i++keyB (t.kids.getD i Sh.tm.nil):=by
 rw [kD,kD,List.take_add_one,List.getElem?_eq_getElem h,Option.toList_some,QgX,List.getD_eq_getElem?_getD,List.getElem?_eq_getElem h,List.append_assoc,List.cons_append,List.append_assoc,List.cons_append]
 simp only [Qdx,List.append_nil]
 rfl
theorem kD_le (t:Tw) (i:Nat):(kD t i).length≤(keyB t).length:=by
 have h:=QhN (l:=t.kids) i
 rw [← Qp5,kD,kD]
 simp only [List.length_append,List.length_cons,List.take_length]
 omega
theorem kC_le (t:Tw) (i:Nat):(kC t i).length+2≤(keyB t).length:=by
 have h:=QhS (l:=t.digits) i
 rw [← Qp5,kD,kC,kC]
 simp only [List.length_append,List.length_cons,List.take_length]
 omega
theorem bs_1 (x:UInt8):(ByteArray.mk #[x]).size=1:=rfl
theorem Qdu {n:Nat} (h:n≤9000000000000000000):(numS n).size≤19:=by
 have h1:=Qd2 18 n (by omega)
 exact h1
theorem kA_eq (t:Tw):numS t.kind.toNat++ByteArray.mk #[(32:UInt8)]++numS t.name.size++ByteArray.mk #[(58:UInt8)]++t.name++ByteArray.mk #[(32:UInt8)]=bA (kA t):=by
 show bA _++bA [32]++bA _++bA [58]++bA t.name.data.toList++bA [32]=_
 simp only [Qh1]
 apply congrArg
 simp [kA]
theorem kB_t {t:Tw} (h:t.neg=true):numS t.kind.toNat++ByteArray.mk #[(32:UInt8)]++numS t.name.size++ByteArray.mk #[(58:UInt8)]++t.name++ByteArray.mk #[(32:UInt8)]++ByteArray.mk #[(45:UInt8)]=bA (kB t):=by
 rw [kA_eq,kB,if_pos h]
 exact Qh1 _ [45]
theorem kB_f {t:Tw} (h:t.neg=false):numS t.kind.toNat++ByteArray.mk #[(32:UInt8)]++numS t.name.size++ByteArray.mk #[(58:UInt8)]++t.name++ByteArray.mk #[(32:UInt8)]=bA (kB t):=by
 rw [kA_eq,kB,h]
 simp
theorem kC_go {t:Tw} {i:Nat} (h:i<t.digits.length):bA (kC t i)++numS (t.digits.getD i 0)++ByteArray.mk #[(46:UInt8)]=bA (kC t (i+1)):=by
 show bA _++bA _++bA [46]=_
 rw [Qh1,Qh1,Qt3 h,List.append_assoc]
theorem Qt2 (t:Tw):bA (kC t t.digits.length)++ByteArray.mk #[(32:UInt8)]++numS t.kids.length++ByteArray.mk #[(59:UInt8)]=bA (kD t 0):=by
 show bA _++bA [32]++bA _++bA [59]=_
 simp only [Qh1]
 apply congrArg
 simp [kD,Qdx]
theorem kD_go {t:Tw} {i:Nat} (h:i<t.kids.length):bA (kD t i)++bA (keyB (t.kids.getD i Sh.tm.nil))=bA (kD t (i+1)):=by
 rw [Qh1,Qp4 h]
theorem QsA {t:Tw} {i:Nat} (h:i<t.kids.length):(kD t i).length+(keyB (t.kids.getD i Sh.tm.nil)).length≤(keyB t).length:=by
 have h1:=kD_le t (i+1)
 rw [Qp4 h,List.length_append] at h1
 exact h1
theorem QtT (t:Tw):t.name.size≤(keyB t).length:=by
 have h:=Qtg t.name
 rw [Qlb]
 simp only [List.length_append,List.length_cons]
 omega
def Qjw (n:Nat):Spec
 | [x]=>match tmOf x with
  | some t=>some (some (t.size<n∧QbN t∧t.fitT∧(keyB t).length≤140737488355328),.one (sV (bA (keyB t))))
  | none=>none
 | _=>none
set_option maxHeartbeats 4000000 in
theorem QsX {E:Env} (hU:Up E) (hT:∀ K w H,E K w H→Tab w):∀ n,Contract Tryz.prog E 57 (Qjw n)
 | 0=>by
  intro xs p r hs hp
  unfold Qjw at hs
  split at hs
  · split at hs
    · cases hs
      exact absurd (hp _ rfl).1 (Nat.not_lt_zero _)
    · cases hs
  · cases hs
 | n+1=>by
  refine Qan [(133,Qrc),(57,Qjw n)] [] Tryz.ntmps57 Tryz.func57 (by kernel_rfl) (by kernel_rfl) hU ⟨cItoa hT,QsX hU hT n,trivial⟩ trivial ?_
  intro xs p r hs hp
  unfold Qjw at hs
  split at hs
  · rename_i x
    split at hs
    · rename_i t ht
      cases hs
      obtain ⟨hn,hk,hf,hl⟩:=hp _ rfl
      refine ⟨[tmP t],[
       (1000004,.s ⟨Unit,fun _=>⟨[(1,.bp 0 0),(3,sV (bA (kB t)))],[.cells [.f (.v (.int .u8 t.kind)),sV t.name,bV t.neg,.f (.lr t.digits t.digits.length),.f (.dt .tm t.kids)]]⟩,fun _=>True,fun _=>0⟩),
       (5,.s ⟨Nat,fun i=>⟨[(1,.bp 0 0),(3,sV (bA (kC t i))),(4,iV i)],[.cells [.f (.v (.int .u8 t.kind)),sV t.name,bV t.neg,.f (.lr t.digits t.digits.length),.f (.dt .tm t.kids)]]⟩,fun i=>i≤t.digits.length,fun i=>t.digits.length - i⟩),
       (10,.s ⟨Nat,fun i=>⟨[(1,.bp 0 0),(3,sV (bA (kD t i))),(5,iV i)],[.cells [.f (.v (.int .u8 t.kind)),sV t.name,bV t.neg,.f (.lr t.digits t.digits.length),.f (.dt .tm t.kids)]]⟩,fun i=>i≤t.kids.length,fun i=>t.kids.length - i⟩)],.cons (Qfs ht).sub .nil,rfl,fun _ hsh=>?_⟩
      have h0:=hn
      refine Qag (p:=let A0:=(rfB (uV t.kind)∧rfB (sV t.name)∧rfB (bV t.neg)∧rfB (PV.f (Lf.lr t.digits t.digits.length))∧rfB (dP Sh.tm t.kids)∧True)∧True; let A1:=fun (z5:Nat)=>(etaT (t.kids.getD (↑z5:Int).toNat Sh.tm.nil)); let A3:=(↑t.name.size:Int); let A4:=fun (z3:Nat)=>(↑(t.digits.getD (↑z3:Int).toNat 0):Int); let A5:=IntKind.i64.wrap t.kind; let A6:=(↑t.kids.length:Int); let A7:=(9223372036854775807:Int); let A2:=numS A5.toNat++ByteArray.mk #[(32:UInt8)]++numS A3.toNat++ByteArray.mk #[(58:UInt8)]++t.name++ByteArray.mk #[(32:UInt8)]; ((0:Int)≤IntKind.i64.wrap t.kind∧IntKind.i64.wrap t.kind≤A7)∧(↑((numS A5.toNat).size+1):Int)≤IntKind.i64.max∧((0:Int)≤A3∧A3≤A7)∧(↑((numS A5.toNat++ByteArray.mk #[(32:UInt8)]).size+(numS A3.toNat).size):Int)≤IntKind.i64.max∧(↑((numS A5.toNat++ByteArray.mk #[(32:UInt8)]++numS A3.toNat).size+1):Int)≤IntKind.i64.max∧(↑((numS A5.toNat++ByteArray.mk #[(32:UInt8)]++numS A3.toNat++ByteArray.mk #[(58:UInt8)]).size+t.name.size):Int)≤IntKind.i64.max∧(↑((numS A5.toNat++ByteArray.mk #[(32:UInt8)]++numS A3.toNat++ByteArray.mk #[(58:UInt8)]++t.name).size+1):Int)≤IntKind.i64.max∧ifB t.neg ((↑(A2.size+1):Int)≤IntKind.i64.max∧∃ (x1:Unit),(A0∧rfB (PV.bp 0 0)∧SubB (sV (numS A5.toNat++ByteArray.mk #[(32:UInt8)]++numS A3.toNat++ByteArray.mk #[(58:UInt8)]++t.name++ByteArray.mk #[(32:UInt8)]++ByteArray.mk #[(45:UInt8)])) (sV (bA (kB t)))∧True)∧True) (∃ (x1:Unit),(A0∧rfB (PV.bp 0 0)∧SubB (sV A2) (sV (bA (kB t)))∧True)∧True)∧∀ (z1:Unit),True→∃ (x2:Nat),(A0∧rfB (PV.bp 0 0)∧SubB (sV (bA (kB t))) (sV (bA (kC t x2)))∧SubB (iV 0) (iV (↑x2:Int))∧True)∧x2≤t.digits.length∧True∧∀ (z3:Nat),z3≤t.digits.length→True→ifB (decide ((↑z3:Int)<(↑t.digits.length:Int))) (((0:Int)≤(↑z3:Int)∧(↑z3:Int)<(↑t.digits.length:Int))∧((0:Int)≤IntKind.i64.wrap (A4 z3)∧IntKind.i64.wrap (A4 z3)≤A7)∧(↑((bA (kC t z3)).size+(numS (IntKind.i64.wrap (A4 z3)).toNat).size):Int)≤IntKind.i64.max∧(↑((bA (kC t z3)++numS (IntKind.i64.wrap (A4 z3)).toNat).size+1):Int)≤IntKind.i64.max∧∃ (x4:Nat),(A0∧rfB (PV.bp 0 0)∧SubB (sV (bA (kC t z3)++numS (IntKind.i64.wrap (A4 z3)).toNat++ByteArray.mk #[(46:UInt8)])) (sV (bA (kC t x4)))∧SubB (iV (IntKind.i64.wrap ((↑z3:Int)+(1:Int)))) (iV (↑x4:Int))∧True)∧x4≤t.digits.length∧True∧(t.digits.length - x4).succ.le (t.digits.length - z3)) ((↑((bA (kC t z3)).size+1):Int)≤IntKind.i64.max∧((0:Int)≤A6∧A6≤A7)∧(↑((bA (kC t z3)++ByteArray.mk #[(32:UInt8)]).size+(numS A6.toNat).size):Int)≤IntKind.i64.max∧(↑((bA (kC t z3)++ByteArray.mk #[(32:UInt8)]++numS A6.toNat).size+1):Int)≤IntKind.i64.max∧∃ (x4:Nat),(A0∧rfB (PV.bp 0 0)∧SubB (sV (bA (kC t z3)++ByteArray.mk #[(32:UInt8)]++numS A6.toNat++ByteArray.mk #[(59:UInt8)])) (sV (bA (kD t x4)))∧SubB (iV 0) (iV (↑x4:Int))∧True)∧x4≤t.kids.length∧True∧∀ (z5:Nat),z5≤t.kids.length→True→ifB (decide ((↑z5:Int)<A6)) (((0:Int)≤(↑z5:Int)∧(↑z5:Int)<A6)∧((A1 z5).size<n∧QbN (A1 z5)∧(A1 z5).fitT∧(keyB (A1 z5)).length≤140737488355328)∧(↑((bA (kD t z5)).size+(bA (keyB (A1 z5))).size):Int)≤IntKind.i64.max∧∃ (x6:Nat),(A0∧rfB (PV.bp 0 0)∧SubB (sV (bA (kD t z5)++bA (keyB (A1 z5)))) (sV (bA (kD t x6)))∧SubB (iV (IntKind.i64.wrap ((↑z5:Int)+(1:Int)))) (iV (↑x6:Int))∧True)∧x6≤t.kids.length∧True∧(t.kids.length - x6).succ.le (t.kids.length - z5)) (true=true∧Sub (sV (bA (kD t z5))) (sV (bA (keyB t)))))) ?kr ?_
      case kr=>kernel_rfl
      conv=>zeta
      refine ⟨?s0,⟨?s1,⟨?s2,⟨?s3,⟨?s4,⟨?s5,⟨?s6,⟨Qae.2 ⟨fun hb0=>⟨?s7,⟨?x0,⟨⟨⟨⟨.refl _,⟨.refl _,⟨.refl _,⟨.refl _,⟨.refl _,trivial⟩⟩⟩⟩⟩,trivial⟩,⟨.refl _,⟨?m0,trivial⟩⟩⟩,trivial⟩⟩⟩,fun hb0=>⟨?x1,⟨⟨⟨⟨.refl _,⟨.refl _,⟨.refl _,⟨.refl _,⟨.refl _,trivial⟩⟩⟩⟩⟩,trivial⟩,⟨.refl _,⟨?m1,trivial⟩⟩⟩,trivial⟩⟩⟩,fun z1=>fun _=>⟨?x2,⟨⟨⟨⟨.refl _,⟨.refl _,⟨.refl _,⟨.refl _,⟨.refl _,trivial⟩⟩⟩⟩⟩,trivial⟩,⟨.refl _,⟨?m2,⟨?m3,trivial⟩⟩⟩⟩,⟨?s8,⟨trivial,fun z3=>fun hq1=>fun _=>Qae.2 ⟨fun hb2=>⟨?s9,⟨?s10,⟨?s11,⟨?s12,⟨?x3,⟨⟨⟨⟨.refl _,⟨.refl _,⟨.refl _,⟨.refl _,⟨.refl _,trivial⟩⟩⟩⟩⟩,trivial⟩,⟨.refl _,⟨?m4,⟨?m5,trivial⟩⟩⟩⟩,⟨?s13,⟨trivial,?m6⟩⟩⟩⟩⟩⟩⟩⟩,fun hb2=>⟨?s14,⟨?s15,⟨?s16,⟨?s17,⟨?x4,⟨⟨⟨⟨.refl _,⟨.refl _,⟨.refl _,⟨.refl _,⟨.refl _,trivial⟩⟩⟩⟩⟩,trivial⟩,⟨.refl _,⟨?m7,⟨?m8,trivial⟩⟩⟩⟩,⟨?s18,⟨trivial,fun z5=>fun hq3=>fun _=>Qae.2 ⟨fun hb4=>⟨?s19,⟨?s20,⟨?s21,⟨?x5,⟨⟨⟨⟨.refl _,⟨.refl _,⟨.refl _,⟨.refl _,⟨.refl _,trivial⟩⟩⟩⟩⟩,trivial⟩,⟨.refl _,⟨?m9,⟨?m10,trivial⟩⟩⟩⟩,⟨?s22,⟨trivial,?m11⟩⟩⟩⟩⟩⟩⟩,fun hb4=>⟨rfl,?m12⟩⟩⟩⟩⟩⟩⟩⟩⟩⟩⟩⟩⟩⟩⟩⟩⟩⟩⟩⟩⟩⟩⟩
      all_goals try simp only [etaT] at *
      case x0=>exact ()
      case x1=>exact ()
      case x2=>exact 0
      case x3=>exact z3+1
      case x4=>exact 0
      case x5=>exact z5+1
      all_goals have hk':=(QmD t).1 hk
      all_goals have hf':=(Tw.fitT_eq t).1 hf
      all_goals have hnm:=QtT t
      all_goals have e8:IntKind.i64.wrap t.kind=t.kind:=wJ _ (by omega) (by omega)
      all_goals have emx:IntKind.i64.max=9223372036854775807:=by decide
      all_goals have n1:=Qdu (n:=t.kind.toNat) (by omega)
      all_goals have n2:=Qdu (n:=t.name.size) (by omega)
      all_goals have n3:=Qdu (n:=t.kids.length) (by omega)
      all_goals try simp only [e8,emx,ByteArray.size_append,bs_1,bA_sz,Tw.eta,Int.toNat_natCast,decide_eq_true_eq,decide_eq_false_iff_not,Int.ofNat_lt] at *
      case s0=>omega
      case s1=>omega
      case s2=>omega
      case s3=>omega
      case s4=>omega
      case s5=>omega
      case s6=>omega
      case s7=>omega
      case m0=>exact Qei (kB_t hb0)
      case m1=>exact Qei (kB_f hb0)
      case m2=>exact Qei (by rw [kC,List.take_zero,Qes,List.append_nil])
      case m3=>exact .refl _
      case s8=>exact Nat.zero_le _
      case m8=>exact .refl _
      case s18=>exact Nat.zero_le _
      all_goals have q3:=kC_le t z3
      case s9=>exact ⟨by omega,by assumption⟩
      case s14=>omega
      case s15=>omega
      case s16=>omega
      case s17=>omega
      case m7 =>
       obtain rfl:z3=t.digits.length:=by omega
       exact Qei (Qt2 t)
      case s13=>omega
      case m6=>exact (by omega:t.digits.length - (z3+1)<t.digits.length - z3)
      case m5=>exact QaM (by rw [wJ _ (by omega) (by omega)]; rfl)
      case s10 =>
       have h9:=hk'.1.2 _ (Qdz hb2)
       rw [wJ _ (by omega) (by omega)]; omega
      case s11 =>
       have h9:=hk'.1.2 _ (Qdz hb2)
       rw [wJ _ (by omega) (by omega),Int.toNat_natCast]
       have h10:=Qdu (n:=t.digits.getD z3 0) (by omega)
       omega
      case s12 =>
       have h9:=hk'.1.2 _ (Qdz hb2)
       rw [wJ _ (by omega) (by omega),Int.toNat_natCast]
       have h10:=Qdu (n:=t.digits.getD z3 0) (by omega)
       omega
      case m4 =>
       have h9:=hk'.1.2 _ (Qdz hb2)
       rw [wJ _ (by omega) (by omega),Int.toNat_natCast]
       exact Qei (kC_go hb2)
      case s19=>exact ⟨by omega,by assumption⟩
      case s20 =>
       have hm:t.kids.getD z5 Sh.tm.nil∈t.kids:=by
        rw [List.getD_eq_getElem?_getD,List.getElem?_eq_getElem hb4]; exact List.getElem_mem hb4
       have h8:=QsA hb4
       have h9:=QoK hm
       have h10:=t.size_eq
       exact ⟨by omega,Qfj hk'.2 hm,QiU _ hf'.2.2.2 hb4,by omega⟩
      case s21 =>
       have h8:=QsA hb4
       omega
      case m9=>exact Qei (kD_go hb4)
      case m10=>exact QaM (by rw [wJ _ (by omega) (by omega)]; rfl)
      case s22=>omega
      case m11=>exact (by omega:t.kids.length - (z5+1)<t.kids.length - z5)
      case m12 =>
       obtain rfl:z5=t.kids.length:=by omega
       exact (Qei (by rw [Qp5])).sub
    · cases hs
  · cases hs
def Qtz:Spec
 | [x]=>match tmOf x with
  | some t=>some (some (QbN t∧t.fitT∧(keyB t).length≤140737488355328),.one (sV (bA (keyB t))))
  | none=>none
 | _=>none
theorem cKeyR {E:Env} (hU:Up E) (hT:∀ K w H,E K w H→Tab w):Contract Tryz.prog E 57 Qtz:=by
 intro xs p r hs hp
 unfold Qtz at hs
 split at hs
 · rename_i x
   split at hs
   · rename_i t ht
     cases hs
     refine QsX hU hT (t.size+1) [x] (some (t.size<t.size+1∧QbN t∧t.fitT∧(keyB t).length≤140737488355328)) (.one (sV (bA (keyB t)))) ?_ fun q hq=>by cases hq; exact ⟨Nat.lt_succ_self _,hp _ rfl⟩
     unfold Qjw
     dsimp only
     rw [ht]
   · cases hs
 · cases hs
end Go.Proofs.YtmbmbcamecfnkaaGreatDoor
