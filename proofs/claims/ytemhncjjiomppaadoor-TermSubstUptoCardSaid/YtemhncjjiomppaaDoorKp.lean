/- The law TermSubst. -/
import Derived.Test.YtemhncjjiomppaaDoorKn
set_option linter.unusedSimpArgs false
namespace Go.Proofs.YtemhncjjiomppaaDoor
open Go.RowKit
set_option linter.unusedVariables false
set_option maxRecDepth 100000
def gotT (l:List ByteArray) (ts:List Tw) (t:Tw):Tw:=valE Sh.tm.nil (Qaz l ts t)
def ownN (l:List ByteArray):List Tw:=l.map varN
open Classical in
noncomputable def touchB (t:Tw) (l:List ByteArray) (i:Nat):Bool:=decide (∃ j,j<i∧l.getD j Sh.str.nil∈Qah (Qab t))
theorem Qgr:∀ {l:List Tw} {t:Tw},t∈l→cntT t≤QaB l
 | u::l,t,h=>by
  rw [QaB]
  rcases List.mem_cons.1 h with rfl | h
  · omega
  · have:=Qgr h; omega
theorem Qi8:(Sh.tm.nil).fitT:=⟨by decide,Nat.zero_le _,Nat.zero_le _,trivial⟩
theorem QlO {l:List ByteArray} {ts:List Tw} {t:Tw} (h:t.fitT) (hts:∀ u∈ts,u.fitT):(gotT l ts t).fitT:=by
 unfold gotT Qaz
 split
 · exact QgS hts t h
 · exact Qi8
theorem QlP {l:List ByteArray} {ts:List Tw} {t:Tw} (h:¬ errE (Qaz l ts t)=0):Qaz l ts t=.error 34:=by
 unfold Qaz at h ⊢
 split at h
 · exact absurd rfl h
 · rename_i hc; rw [if_neg hc]
theorem Qjh {l:List ByteArray} {ts:List Tw} {t:Tw} (h:errE (Qaz l ts t)=0):gotT l ts t=Qac l ts t∧(Qac l ts t).size≤20000:=by
 unfold gotT
 unfold Qaz at h ⊢
 split at h
 · rename_i hc; rw [if_pos hc]; exact ⟨rfl,hc⟩
 · cases h
theorem own_ok {l:List ByteArray} {t:Tw} (h:t.size≤3000):errE (Qaz l (ownN l) t)=0:=by
 unfold Qaz
 rw [if_pos (show (Qac l (ownN l) t).size≤20000 from Nat.le_trans (Qi1 t) (by omega))]
 rfl
theorem Qh3 (l:List ByteArray):(ownN l).length=l.length:=List.length_map _
theorem QoG {l:List ByteArray} {n:Nat} (h:l.length≤n):(ownN l).take n=ownN l:=List.take_of_length_le (by rw [Qh3]; exact h)
theorem QmY {l:List ByteArray} {n:Nat} (h:n<l.length):(ownN l).take (n+1)=(ownN l).take n++[varN (l.getD n Sh.str.nil)]:=by
 rw [List.take_add_one,List.getElem?_eq_getElem (by rw [Qh3]; exact h),List.getD_eq_getElem?_getD,List.getElem?_eq_getElem h]
 simp [ownN]
theorem Qi2 {l:List ByteArray} (h:∀ s∈l,ByteArray.size s≤4611686018427387904):∀ u∈ownN l,u.fitT:=fun u hu=>by
 obtain ⟨s,hs,rfl⟩:=List.mem_map.1 hu
 exact QbL (h s hs)
theorem Qb4 {t:Tw} {l:List ByteArray} {i:Nat}:touchB t l i=true↔∃ j,j<i∧l.getD j Sh.str.nil∈Qah (Qab t):=by simp [touchB]
theorem QiB {t:Tw} {l:List ByteArray} {i:Nat} (h:¬ ∃ j,j<i∧l.getD j Sh.str.nil∈Qah (Qab t)):false=touchB t l i:=by
 cases hc:touchB t l i with
 | false=>rfl
 | true=>exact absurd (Qb4.1 hc) h
theorem QgM {t:Tw} {l:List ByteArray} {i:Nat} (h:touchB t l i=false):¬ ∃ j,j<i∧l.getD j Sh.str.nil∈Qah (Qab t):=fun c=>by
 rw [Qb4.2 c] at h; cases h
theorem QjL {t:Tw} {l:List ByteArray}:false=touchB t l 0:=QiB fun ⟨j,hj,_⟩=>Nat.not_lt_zero j hj
theorem QmD {t:Tw} {l:List ByteArray} {i:Nat} (h:touchB t l i=true):true=touchB t l (i+1):=by
 obtain ⟨j,hj,hm⟩:=Qb4.1 h
 exact (Qb4.2 ⟨j,by omega,hm⟩).symm
theorem QgN {t:Tw} {l:List ByteArray} {i:Nat} (h:touchB t l i=false):(met0 t (Qah (Qab t)).length (l.getD i Sh.str.nil)).getD false=touchB t l (i+1):=by
 have h1:=QgM h
 unfold met0
 rw [List.take_length,putSt]
 by_cases hm:l.getD i Sh.str.nil∈Qah (Qab t)
 · rw [if_pos hm]
   exact (Qb4.2 ⟨i,Nat.lt_succ_self i,hm⟩).symm
 · rw [if_neg hm]
   refine QiB ?_
   rintro ⟨j,hj,hmj⟩
   by_cases hji:j=i
   · subst hji; exact hm hmj
   · exact h1 ⟨j,by omega,hmj⟩
theorem Qfg {t:Tw} {l:List ByteArray} {ts:List Tw} {i:Nat} (h:touchB t l i=false) (hi:l.length≤i):Qac l ts t=t:=by
 have h1:=QgM h
 exact Qfi t fun j hj hm=>h1 ⟨j,by omega,Qc5.2 hm⟩
theorem QkC {t:Tw} {l:List ByteArray} {i:Nat} (h:touchB t l i=false) (hf:hasF (met0 t (Qah (Qab t)).length) (l.getD i Sh.str.nil)=false):false=touchB t l (i+1):=by
 rw [← QgN h,QlN hf]; rfl
noncomputable def sLaw4:Spec
 | [.f x,.f y,u,.f z,.f w]=>match dtOf .dat x,dtOf .srt y,tmOf u,dtOf .str z,dtOf .tm w with
  | some D,some S,some t,some l,some ts=>some (some ((cntD D≤4000000∧cntT t≤1200000∧QaB ts≤4000000)∧∀ s∈l,ByteArray.size s≤4611686018427387904),.one (bV true))
  | _,_,_,_,_=>none
 | _=>none
set_option maxHeartbeats 4000000 in
theorem cLaw4 {E:Env} (hU:Up E) (hT:∀ K w H,E K w H→Tab w):Contract Tryd.prog E 3 sLaw4:=by
 refine Qaq [(6,QkW),(7,QhX),(9,sSameT),(8,QiK),(10,sV4),(11,QmN),(12,QkZ),(13,QhR),(14,QoA)] [] Tryd.ntmps3 Tryd.func3 (by kernel_rfl) (by kernel_rfl) hU ⟨Qpo hU hT,Qpm hU,Qn7 hU,Qn4 hU,cV4 hU,cFree hU,cPlain hU,Qpg hU,cMet4 hU,trivial⟩ trivial ?_
 intro xs p r hs hp
 unfold sLaw4 at hs
 split at hs
 · rename_i x y u z w
   split at hs
   · rename_i D S t l ts h1 h2 h3 h4 h5
     cases hs
     obtain ⟨⟨nD,nt,nts⟩,hns⟩:=hp _ rfl
     refine ⟨[.f (.dt .dat D),.f (.dt .srt S),tmP t,.f (.dt .str l),.f (.dt .tm ts)],[
      (10,.s ⟨Nat,fun i=>⟨[(0,.f (.dt .dat D)),(1,.f (.dt .srt S)),(3,.f (.dt .str l)),(4,.f (.dt .tm ts)),(7,.bp 0 0),(11,.bp 1 0),(13,.tl 2 (.dt .tm ((ownN l).take i))),(14,iV i)],[.cells (Qad (tmC t)),.cells (Qad (tmC (gotT l ts t))),.tail 30 5]⟩,fun i=>i≤l.length,fun i=>l.length - i⟩),
      (17,.s ⟨Nat,fun i=>⟨[(0,.f (.dt .dat D)),(1,.f (.dt .srt S)),(3,.f (.dt .str l)),(4,.f (.dt .tm ts)),(7,.bp 0 0),(11,.bp 1 0),(15,.bp 3 0),(16,iV (errE (Qaz l (ownN l) t))),(17,.wr 4),(18,.f (.dt .str (Qah (Qab t)))),(19,iV i)],[.cells (Qad (tmC t)),.cells (Qad (tmC (gotT l ts t))),.tail 30 5,.cells (Qad (tmC (gotT l (ownN l) t))),.map .str (hasF (met0 t i)) (getF (met0 t i)) [] []]⟩,fun i=>i≤(Qah (Qab t)).length,fun i=>(Qah (Qab t)).length - i⟩),
      (22,.s ⟨Nat,fun i=>⟨[(0,.f (.dt .dat D)),(1,.f (.dt .srt S)),(3,.f (.dt .str l)),(4,.f (.dt .tm ts)),(7,.bp 0 0),(11,.bp 1 0),(15,.bp 3 0),(16,iV (errE (Qaz l (ownN l) t))),(17,.wr 4),(20,bV (touchB t l i)),(21,iV i)],[.cells (Qad (tmC t)),.cells (Qad (tmC (gotT l ts t))),.tail 30 5,.cells (Qad (tmC (gotT l (ownN l) t))),.map .str (hasF (met0 t (Qah (Qab t)).length)) (getF (met0 t (Qah (Qab t)).length)) [] []]⟩,fun i=>i≤l.length,fun i=>l.length - i⟩),
      (1000027,.s ⟨Unit,fun _=>⟨[(0,.f (.dt .dat D)),(1,.f (.dt .srt S)),(3,.f (.dt .str l)),(4,.f (.dt .tm ts)),(7,.bp 0 0),(11,.bp 1 0)],[.cells (Qad (tmC t)),.cells (Qad (tmC (gotT l ts t)))]⟩,fun _=>True,fun _=>0⟩)],.cons (Qbt h1).sub (.cons (Qbt h2).sub (.cons (QaK h3).sub (.cons (Qbt h4).sub (.cons (Qbt h5).sub .nil)))),rfl,fun _ hsh=>?_⟩
     have hSl:=QaE hsh.2.2.2.1
     refine Qag (p:=(cntD D≤4000000∧QaB [Tw.mk t.kind t.name t.neg t.digits t.kids]≤4000000)∧∀ (z1:Bool),z1=great4 D [Tw.mk t.kind t.name t.neg t.digits t.kids]→ifB z1 (true=true∧Sub (bV true) (bV true)) ((0≤4000000∧QaB ts≤4000000)∧∀ (z2:Bool),z2=great4 [] ts→ifB z2 (true=true∧Sub (bV true) (bV true)) (ifB (decide ((↑S.length:Int) > (300:Int))) (true=true∧Sub (bV true) (bV true)) (ifB (decide ((↑l.length:Int) > (300:Int))) (true=true∧Sub (bV true) (bV true)) (ifB (decide ((↑l.length:Int) > (↑ts.length:Int))) (true=true∧Sub (bV true) (bV true)) ((((Tw.mk t.kind t.name t.neg t.digits t.kids).fitT∧∀ (u:Sh.tm.T),u∈ts→Tw.fitT u)∧l.length≤100000000∧ts.length≤100000000)∧∀ (z3:Except Int Tw),z3=Qaz l ts (Tw.mk t.kind t.name t.neg t.digits t.kids)→ifB (errE z3 != (0:Int)) (ifB (errE z3==(34:Int)) (((Tw.mk (valE Sh.tm.nil z3).kind (valE Sh.tm.nil z3).name (valE Sh.tm.nil z3).neg (valE Sh.tm.nil z3).digits (valE Sh.tm.nil z3).kids).fitT∧(Tw.mk (0:Int) (ByteArray.mk #[]) false [] []).fitT)∧∀ (z4:Bool),z4=sameT (Tw.mk (valE Sh.tm.nil z3).kind (valE Sh.tm.nil z3).name (valE Sh.tm.nil z3).neg (valE Sh.tm.nil z3).digits (valE Sh.tm.nil z3).kids) (Tw.mk (0:Int) (ByteArray.mk #[]) false [] [])→true=true∧Sub (bV z4) (bV true)) (true=true∧Sub (bV false) (bV true))) (∃ (x4:Nat),(((SubB (PV.f (Lf.v (Value.int IntKind.u8 t.kind))) (PV.f (Lf.v (Value.int IntKind.u8 t.kind)))∧SubB (sV t.name) (sV t.name)∧SubB (bV t.neg) (bV t.neg)∧SubB (PV.f (Lf.lr t.digits t.digits.length)) (PV.f (Lf.lr t.digits t.digits.length))∧SubB (PV.f (Lf.dt Sh.tm t.kids)) (PV.f (Lf.dt Sh.tm t.kids))∧True)∧(SubB (PV.f (Lf.v (Value.int IntKind.u8 (valE Sh.tm.nil z3).kind))) (PV.f (Lf.v (Value.int IntKind.u8 (gotT l ts t).kind)))∧SubB (sV ((valE Sh.tm.nil z3).name)) (sV ((gotT l ts t).name))∧SubB (bV ((valE Sh.tm.nil z3).neg)) (bV ((gotT l ts t).neg))∧SubB (PV.f (Lf.lr (valE Sh.tm.nil z3).digits (valE Sh.tm.nil z3).digits.length)) (PV.f (Lf.lr (gotT l ts t).digits (gotT l ts t).digits.length))∧SubB (PV.f (Lf.dt Sh.tm (valE Sh.tm.nil z3).kids)) (PV.f (Lf.dt Sh.tm (gotT l ts t).kids))∧True)∧True)∧SubB (PV.f (Lf.dt Sh.dat D)) (PV.f (Lf.dt Sh.dat D))∧SubB (PV.f (Lf.dt Sh.srt S)) (PV.f (Lf.dt Sh.srt S))∧SubB (PV.f (Lf.dt Sh.str l)) (PV.f (Lf.dt Sh.str l))∧SubB (PV.f (Lf.dt Sh.tm ts)) (PV.f (Lf.dt Sh.tm ts))∧SubB (PV.bp 0 0) (PV.bp 0 0)∧SubB (PV.bp 1 0) (PV.bp 1 0)∧Qch (PV.tl 2 (Lf.dt Sh.tm (List.take x4 (ownN l))))∧SubB (iV 0) (iV (↑x4:Int))∧True)∧x4≤l.length∧True∧∀ (z5:Nat),z5≤l.length→True→ifB (decide ((↑z5:Int)<(↑l.length:Int))) (((0:Int)≤(↑z5:Int)∧(↑z5:Int)<(↑l.length:Int))∧((List.take z5 (ownN l)).length+1≤9223372036854775807∧((List.take z5 (ownN l)).length+1) * 80≤140737488355328)∧∃ (x6:Nat),(((SubB (PV.f (Lf.v (Value.int IntKind.u8 t.kind))) (PV.f (Lf.v (Value.int IntKind.u8 t.kind)))∧SubB (sV t.name) (sV t.name)∧SubB (bV t.neg) (bV t.neg)∧SubB (PV.f (Lf.lr t.digits t.digits.length)) (PV.f (Lf.lr t.digits t.digits.length))∧SubB (PV.f (Lf.dt Sh.tm t.kids)) (PV.f (Lf.dt Sh.tm t.kids))∧True)∧(SubB (PV.f (Lf.v (Value.int IntKind.u8 (gotT l ts t).kind))) (PV.f (Lf.v (Value.int IntKind.u8 (gotT l ts t).kind)))∧SubB (sV ((gotT l ts t).name)) (sV ((gotT l ts t).name))∧SubB (bV ((gotT l ts t).neg)) (bV ((gotT l ts t).neg))∧SubB (PV.f (Lf.lr (gotT l ts t).digits (gotT l ts t).digits.length)) (PV.f (Lf.lr (gotT l ts t).digits (gotT l ts t).digits.length))∧SubB (PV.f (Lf.dt Sh.tm (gotT l ts t).kids)) (PV.f (Lf.dt Sh.tm (gotT l ts t).kids))∧True)∧True)∧SubB (PV.f (Lf.dt Sh.dat D)) (PV.f (Lf.dt Sh.dat D))∧SubB (PV.f (Lf.dt Sh.srt S)) (PV.f (Lf.dt Sh.srt S))∧SubB (PV.f (Lf.dt Sh.str l)) (PV.f (Lf.dt Sh.str l))∧SubB (PV.f (Lf.dt Sh.tm ts)) (PV.f (Lf.dt Sh.tm ts))∧SubB (PV.bp 0 0) (PV.bp 0 0)∧SubB (PV.bp 1 0) (PV.bp 1 0)∧SubB (PV.tl 2 (Lf.dt Sh.tm (List.take z5 (ownN l)++[Tw.mk (varN (l.getD (↑z5:Int).toNat Sh.str.nil)).kind (varN (l.getD (↑z5:Int).toNat Sh.str.nil)).name (varN (l.getD (↑z5:Int).toNat Sh.str.nil)).neg (varN (l.getD (↑z5:Int).toNat Sh.str.nil)).digits []]))) (PV.tl 2 (Lf.dt Sh.tm (List.take x6 (ownN l))))∧SubB (iV (IntKind.i64.wrap ((↑z5:Int)+(1:Int)))) (iV (↑x6:Int))∧True)∧x6≤l.length∧True∧(l.length - x6).succ.le (l.length - z5)) ((((Tw.mk t.kind t.name t.neg t.digits t.kids).fitT∧∀ (u:Sh.tm.T),u∈List.take z5 (ownN l)→Tw.fitT u)∧l.length≤100000000∧(List.take z5 (ownN l)).length≤100000000)∧∀ (z6:Except Int Tw),z6=Qaz l (List.take z5 (ownN l)) (Tw.mk t.kind t.name t.neg t.digits t.kids)→((Tw.mk t.kind t.name t.neg t.digits t.kids).fitT∧(Tw.mk t.kind t.name t.neg t.digits t.kids).size≤100000000)∧∃ (x7:Nat),(((SubB (PV.f (Lf.v (Value.int IntKind.u8 t.kind))) (PV.f (Lf.v (Value.int IntKind.u8 t.kind)))∧SubB (sV t.name) (sV t.name)∧SubB (bV t.neg) (bV t.neg)∧SubB (PV.f (Lf.lr t.digits t.digits.length)) (PV.f (Lf.lr t.digits t.digits.length))∧SubB (PV.f (Lf.dt Sh.tm t.kids)) (PV.f (Lf.dt Sh.tm t.kids))∧True)∧(SubB (PV.f (Lf.v (Value.int IntKind.u8 (gotT l ts t).kind))) (PV.f (Lf.v (Value.int IntKind.u8 (gotT l ts t).kind)))∧SubB (sV ((gotT l ts t).name)) (sV ((gotT l ts t).name))∧SubB (bV ((gotT l ts t).neg)) (bV ((gotT l ts t).neg))∧SubB (PV.f (Lf.lr (gotT l ts t).digits (gotT l ts t).digits.length)) (PV.f (Lf.lr (gotT l ts t).digits (gotT l ts t).digits.length))∧SubB (PV.f (Lf.dt Sh.tm (gotT l ts t).kids)) (PV.f (Lf.dt Sh.tm (gotT l ts t).kids))∧True)∧(SubB (PV.f (Lf.v (Value.int IntKind.u8 (valE Sh.tm.nil z6).kind))) (PV.f (Lf.v (Value.int IntKind.u8 (gotT l (ownN l) t).kind)))∧SubB (sV ((valE Sh.tm.nil z6).name)) (sV ((gotT l (ownN l) t).name))∧SubB (bV ((valE Sh.tm.nil z6).neg)) (bV ((gotT l (ownN l) t).neg))∧SubB (PV.f (Lf.lr (valE Sh.tm.nil z6).digits (valE Sh.tm.nil z6).digits.length)) (PV.f (Lf.lr (gotT l (ownN l) t).digits (gotT l (ownN l) t).digits.length))∧SubB (PV.f (Lf.dt Sh.tm (valE Sh.tm.nil z6).kids)) (PV.f (Lf.dt Sh.tm (gotT l (ownN l) t).kids))∧True)∧MapW Kt.str (fun (x:Kt.str.T)=>false) (fun (x:Kt.str.T)=>[]) [] [] Kt.str (fun (s:Kt.str.T)=>(met0 t x7 s).isSome) (fun (s:Kt.str.T)=>[Lf.v (Value.bool ((met0 t x7 s).getD false))]) [] []∧True)∧SubB (PV.f (Lf.dt Sh.dat D)) (PV.f (Lf.dt Sh.dat D))∧SubB (PV.f (Lf.dt Sh.srt S)) (PV.f (Lf.dt Sh.srt S))∧SubB (PV.f (Lf.dt Sh.str l)) (PV.f (Lf.dt Sh.str l))∧SubB (PV.f (Lf.dt Sh.tm ts)) (PV.f (Lf.dt Sh.tm ts))∧SubB (PV.bp 0 0) (PV.bp 0 0)∧SubB (PV.bp 1 0) (PV.bp 1 0)∧SubB (PV.bp 3 0) (PV.bp 3 0)∧SubB (iV (errE z6)) (iV (errE (Qaz l (ownN l) t)))∧SubB (PV.wr 4) (PV.wr 4)∧SubB (PV.f (Lf.dt Sh.str (Qah (Qab (Tw.mk t.kind t.name t.neg t.digits t.kids))))) (PV.f (Lf.dt Sh.str (Qah (Qab t))))∧SubB (iV 0) (iV (↑x7:Int))∧True)∧x7≤(Qah (Qab t)).length∧True∧∀ (z8:Nat),z8≤(Qah (Qab t)).length→True→ifB (decide ((↑z8:Int)<(↑(Qah (Qab t)).length:Int))) (((0:Int)≤(↑z8:Int)∧(↑z8:Int)<(↑(Qah (Qab t)).length:Int))∧∃ (x9:Nat),(((SubB (PV.f (Lf.v (Value.int IntKind.u8 t.kind))) (PV.f (Lf.v (Value.int IntKind.u8 t.kind)))∧SubB (sV t.name) (sV t.name)∧SubB (bV t.neg) (bV t.neg)∧SubB (PV.f (Lf.lr t.digits t.digits.length)) (PV.f (Lf.lr t.digits t.digits.length))∧SubB (PV.f (Lf.dt Sh.tm t.kids)) (PV.f (Lf.dt Sh.tm t.kids))∧True)∧(SubB (PV.f (Lf.v (Value.int IntKind.u8 (gotT l ts t).kind))) (PV.f (Lf.v (Value.int IntKind.u8 (gotT l ts t).kind)))∧SubB (sV ((gotT l ts t).name)) (sV ((gotT l ts t).name))∧SubB (bV ((gotT l ts t).neg)) (bV ((gotT l ts t).neg))∧SubB (PV.f (Lf.lr (gotT l ts t).digits (gotT l ts t).digits.length)) (PV.f (Lf.lr (gotT l ts t).digits (gotT l ts t).digits.length))∧SubB (PV.f (Lf.dt Sh.tm (gotT l ts t).kids)) (PV.f (Lf.dt Sh.tm (gotT l ts t).kids))∧True)∧(SubB (PV.f (Lf.v (Value.int IntKind.u8 (gotT l (ownN l) t).kind))) (PV.f (Lf.v (Value.int IntKind.u8 (gotT l (ownN l) t).kind)))∧SubB (sV ((gotT l (ownN l) t).name)) (sV ((gotT l (ownN l) t).name))∧SubB (bV ((gotT l (ownN l) t).neg)) (bV ((gotT l (ownN l) t).neg))∧SubB (PV.f (Lf.lr (gotT l (ownN l) t).digits (gotT l (ownN l) t).digits.length)) (PV.f (Lf.lr (gotT l (ownN l) t).digits (gotT l (ownN l) t).digits.length))∧SubB (PV.f (Lf.dt Sh.tm (gotT l (ownN l) t).kids)) (PV.f (Lf.dt Sh.tm (gotT l (ownN l) t).kids))∧True)∧MapW Kt.str (fun (s:Kt.str.T)=>(met0 t z8 s).isSome) (fun (s:Kt.str.T)=>[Lf.v (Value.bool ((met0 t z8 s).getD false))]) [(Qah (Qab t)).getD (↑z8:Int).toNat Sh.str.nil] [bV true] Kt.str (fun (s:Kt.str.T)=>(met0 t x9 s).isSome) (fun (s:Kt.str.T)=>[Lf.v (Value.bool ((met0 t x9 s).getD false))]) [] []∧True)∧SubB (PV.f (Lf.dt Sh.dat D)) (PV.f (Lf.dt Sh.dat D))∧SubB (PV.f (Lf.dt Sh.srt S)) (PV.f (Lf.dt Sh.srt S))∧SubB (PV.f (Lf.dt Sh.str l)) (PV.f (Lf.dt Sh.str l))∧SubB (PV.f (Lf.dt Sh.tm ts)) (PV.f (Lf.dt Sh.tm ts))∧SubB (PV.bp 0 0) (PV.bp 0 0)∧SubB (PV.bp 1 0) (PV.bp 1 0)∧SubB (PV.bp 3 0) (PV.bp 3 0)∧SubB (iV (errE (Qaz l (ownN l) t))) (iV (errE (Qaz l (ownN l) t)))∧SubB (PV.wr 4) (PV.wr 4)∧SubB (PV.f (Lf.dt Sh.str (Qah (Qab t)))) (PV.f (Lf.dt Sh.str (Qah (Qab t))))∧SubB (iV (IntKind.i64.wrap ((↑z8:Int)+(1:Int)))) (iV (↑x9:Int))∧True)∧x9≤(Qah (Qab t)).length∧True∧((Qah (Qab t)).length - x9).succ.le ((Qah (Qab t)).length - z8)) (∃ (x9:Nat),(((SubB (PV.f (Lf.v (Value.int IntKind.u8 t.kind))) (PV.f (Lf.v (Value.int IntKind.u8 t.kind)))∧SubB (sV t.name) (sV t.name)∧SubB (bV t.neg) (bV t.neg)∧SubB (PV.f (Lf.lr t.digits t.digits.length)) (PV.f (Lf.lr t.digits t.digits.length))∧SubB (PV.f (Lf.dt Sh.tm t.kids)) (PV.f (Lf.dt Sh.tm t.kids))∧True)∧(SubB (PV.f (Lf.v (Value.int IntKind.u8 (gotT l ts t).kind))) (PV.f (Lf.v (Value.int IntKind.u8 (gotT l ts t).kind)))∧SubB (sV ((gotT l ts t).name)) (sV ((gotT l ts t).name))∧SubB (bV ((gotT l ts t).neg)) (bV ((gotT l ts t).neg))∧SubB (PV.f (Lf.lr (gotT l ts t).digits (gotT l ts t).digits.length)) (PV.f (Lf.lr (gotT l ts t).digits (gotT l ts t).digits.length))∧SubB (PV.f (Lf.dt Sh.tm (gotT l ts t).kids)) (PV.f (Lf.dt Sh.tm (gotT l ts t).kids))∧True)∧(SubB (PV.f (Lf.v (Value.int IntKind.u8 (gotT l (ownN l) t).kind))) (PV.f (Lf.v (Value.int IntKind.u8 (gotT l (ownN l) t).kind)))∧SubB (sV ((gotT l (ownN l) t).name)) (sV ((gotT l (ownN l) t).name))∧SubB (bV ((gotT l (ownN l) t).neg)) (bV ((gotT l (ownN l) t).neg))∧SubB (PV.f (Lf.lr (gotT l (ownN l) t).digits (gotT l (ownN l) t).digits.length)) (PV.f (Lf.lr (gotT l (ownN l) t).digits (gotT l (ownN l) t).digits.length))∧SubB (PV.f (Lf.dt Sh.tm (gotT l (ownN l) t).kids)) (PV.f (Lf.dt Sh.tm (gotT l (ownN l) t).kids))∧True)∧MapW Kt.str (fun (s:Kt.str.T)=>(met0 t z8 s).isSome) (fun (s:Kt.str.T)=>[Lf.v (Value.bool ((met0 t z8 s).getD false))]) [] [] Kt.str (fun (s:Kt.str.T)=>(met0 t (Qah (Qab t)).length s).isSome) (fun (s:Kt.str.T)=>[Lf.v (Value.bool ((met0 t (Qah (Qab t)).length s).getD false))]) [] []∧True)∧SubB (PV.f (Lf.dt Sh.dat D)) (PV.f (Lf.dt Sh.dat D))∧SubB (PV.f (Lf.dt Sh.srt S)) (PV.f (Lf.dt Sh.srt S))∧SubB (PV.f (Lf.dt Sh.str l)) (PV.f (Lf.dt Sh.str l))∧SubB (PV.f (Lf.dt Sh.tm ts)) (PV.f (Lf.dt Sh.tm ts))∧SubB (PV.bp 0 0) (PV.bp 0 0)∧SubB (PV.bp 1 0) (PV.bp 1 0)∧SubB (PV.bp 3 0) (PV.bp 3 0)∧SubB (iV (errE (Qaz l (ownN l) t))) (iV (errE (Qaz l (ownN l) t)))∧SubB (PV.wr 4) (PV.wr 4)∧SubB (bV false) (bV (touchB t l x9))∧SubB (iV 0) (iV (↑x9:Int))∧True)∧x9≤l.length∧True∧∀ (z10:Nat),z10≤l.length→True→ifB (decide ((↑z10:Int)<(↑l.length:Int))) (ifB (touchB t l z10) (∃ (x11:Nat),(((SubB (PV.f (Lf.v (Value.int IntKind.u8 t.kind))) (PV.f (Lf.v (Value.int IntKind.u8 t.kind)))∧SubB (sV t.name) (sV t.name)∧SubB (bV t.neg) (bV t.neg)∧SubB (PV.f (Lf.lr t.digits t.digits.length)) (PV.f (Lf.lr t.digits t.digits.length))∧SubB (PV.f (Lf.dt Sh.tm t.kids)) (PV.f (Lf.dt Sh.tm t.kids))∧True)∧(SubB (PV.f (Lf.v (Value.int IntKind.u8 (gotT l ts t).kind))) (PV.f (Lf.v (Value.int IntKind.u8 (gotT l ts t).kind)))∧SubB (sV ((gotT l ts t).name)) (sV ((gotT l ts t).name))∧SubB (bV ((gotT l ts t).neg)) (bV ((gotT l ts t).neg))∧SubB (PV.f (Lf.lr (gotT l ts t).digits (gotT l ts t).digits.length)) (PV.f (Lf.lr (gotT l ts t).digits (gotT l ts t).digits.length))∧SubB (PV.f (Lf.dt Sh.tm (gotT l ts t).kids)) (PV.f (Lf.dt Sh.tm (gotT l ts t).kids))∧True)∧(SubB (PV.f (Lf.v (Value.int IntKind.u8 (gotT l (ownN l) t).kind))) (PV.f (Lf.v (Value.int IntKind.u8 (gotT l (ownN l) t).kind)))∧SubB (sV ((gotT l (ownN l) t).name)) (sV ((gotT l (ownN l) t).name))∧SubB (bV ((gotT l (ownN l) t).neg)) (bV ((gotT l (ownN l) t).neg))∧SubB (PV.f (Lf.lr (gotT l (ownN l) t).digits (gotT l (ownN l) t).digits.length)) (PV.f (Lf.lr (gotT l (ownN l) t).digits (gotT l (ownN l) t).digits.length))∧SubB (PV.f (Lf.dt Sh.tm (gotT l (ownN l) t).kids)) (PV.f (Lf.dt Sh.tm (gotT l (ownN l) t).kids))∧True)∧MapW Kt.str (fun (s:Kt.str.T)=>(met0 t (Qah (Qab t)).length s).isSome) (fun (s:Kt.str.T)=>[Lf.v (Value.bool ((met0 t (Qah (Qab t)).length s).getD false))]) [] [] Kt.str (fun (s:Kt.str.T)=>(met0 t (Qah (Qab t)).length s).isSome) (fun (s:Kt.str.T)=>[Lf.v (Value.bool ((met0 t (Qah (Qab t)).length s).getD false))]) [] []∧True)∧SubB (PV.f (Lf.dt Sh.dat D)) (PV.f (Lf.dt Sh.dat D))∧SubB (PV.f (Lf.dt Sh.srt S)) (PV.f (Lf.dt Sh.srt S))∧SubB (PV.f (Lf.dt Sh.str l)) (PV.f (Lf.dt Sh.str l))∧SubB (PV.f (Lf.dt Sh.tm ts)) (PV.f (Lf.dt Sh.tm ts))∧SubB (PV.bp 0 0) (PV.bp 0 0)∧SubB (PV.bp 1 0) (PV.bp 1 (0:Nat))∧SubB (PV.bp (3:Nat) (0:Nat)) (PV.bp (3:Nat) (0:Nat))∧SubB (iV (errE (Qaz l (ownN l) t))) (iV (errE (Qaz l (ownN l) t)))∧SubB (PV.wr (4:Nat)) (PV.wr (4:Nat))∧SubB (bV true) (bV (touchB t l x11))∧SubB (iV (IntKind.i64.wrap ((↑z10:Int)+(1:Int)))) (iV (↑x11:Int))∧True)∧x11≤l.length∧True∧(l.length - x11).succ.le (l.length - z10)) (((0:Int)≤(↑z10:Int)∧(↑z10:Int)<(↑l.length:Int))∧ifB (hasF (met0 t (Qah (Qab t)).length) (l.getD (↑z10:Int).toNat Sh.str.nil)) (∃ (x11:Nat),(((SubB (PV.f (Lf.v (Value.int IntKind.u8 t.kind))) (PV.f (Lf.v (Value.int IntKind.u8 t.kind)))∧SubB (sV t.name) (sV t.name)∧SubB (bV t.neg) (bV t.neg)∧SubB (PV.f (Lf.lr t.digits t.digits.length)) (PV.f (Lf.lr t.digits t.digits.length))∧SubB (PV.f (Lf.dt Sh.tm t.kids)) (PV.f (Lf.dt Sh.tm t.kids))∧True)∧(SubB (PV.f (Lf.v (Value.int IntKind.u8 (gotT l ts t).kind))) (PV.f (Lf.v (Value.int IntKind.u8 (gotT l ts t).kind)))∧SubB (sV ((gotT l ts t).name)) (sV ((gotT l ts t).name))∧SubB (bV ((gotT l ts t).neg)) (bV ((gotT l ts t).neg))∧SubB (PV.f (Lf.lr (gotT l ts t).digits (gotT l ts t).digits.length)) (PV.f (Lf.lr (gotT l ts t).digits (gotT l ts t).digits.length))∧SubB (PV.f (Lf.dt Sh.tm (gotT l ts t).kids)) (PV.f (Lf.dt Sh.tm (gotT l ts t).kids))∧True)∧(SubB (PV.f (Lf.v (Value.int IntKind.u8 (gotT l (ownN l) t).kind))) (PV.f (Lf.v (Value.int IntKind.u8 (gotT l (ownN l) t).kind)))∧SubB (sV ((gotT l (ownN l) t).name)) (sV ((gotT l (ownN l) t).name))∧SubB (bV ((gotT l (ownN l) t).neg)) (bV ((gotT l (ownN l) t).neg))∧SubB (PV.f (Lf.lr (gotT l (ownN l) t).digits (gotT l (ownN l) t).digits.length)) (PV.f (Lf.lr (gotT l (ownN l) t).digits (gotT l (ownN l) t).digits.length))∧SubB (PV.f (Lf.dt Sh.tm (gotT l (ownN l) t).kids)) (PV.f (Lf.dt Sh.tm (gotT l (ownN l) t).kids))∧True)∧MapW Kt.str (fun (s:Kt.str.T)=>(met0 t (Qah (Qab t)).length s).isSome) (fun (s:Kt.str.T)=>[Lf.v (Value.bool ((met0 t (Qah (Qab t)).length s).getD false))]) [] [] Kt.str (fun (s:Kt.str.T)=>(met0 t (Qah (Qab t)).length s).isSome) (fun (s:Kt.str.T)=>[Lf.v (Value.bool ((met0 t (Qah (Qab t)).length s).getD false))]) [] []∧True)∧SubB (PV.f (Lf.dt Sh.dat D)) (PV.f (Lf.dt Sh.dat D))∧SubB (PV.f (Lf.dt Sh.srt S)) (PV.f (Lf.dt Sh.srt S))∧SubB (PV.f (Lf.dt Sh.str l)) (PV.f (Lf.dt Sh.str l))∧SubB (PV.f (Lf.dt Sh.tm ts)) (PV.f (Lf.dt Sh.tm ts))∧SubB (PV.bp (0:Nat) (0:Nat)) (PV.bp (0:Nat) (0:Nat))∧SubB (PV.bp (1:Nat) (0:Nat)) (PV.bp (1:Nat) (0:Nat))∧SubB (PV.bp (3:Nat) (0:Nat)) (PV.bp (3:Nat) (0:Nat))∧SubB (iV (errE (Qaz l (ownN l) t))) (iV (errE (Qaz l (ownN l) t)))∧SubB (PV.wr (4:Nat)) (PV.wr (4:Nat))∧SubB (bV ((met0 t (Qah (Qab t)).length (l.getD (↑z10:Int).toNat Sh.str.nil)).getD false)) (bV (touchB t l x11))∧SubB (iV (IntKind.i64.wrap ((↑z10:Int)+(1:Int)))) (iV (↑x11:Int))∧True)∧x11≤l.length∧True∧(l.length - x11).succ.le (l.length - z10)) (∃ (x11:Nat),(((SubB (PV.f (Lf.v (Value.int IntKind.u8 t.kind))) (PV.f (Lf.v (Value.int IntKind.u8 t.kind)))∧SubB (sV t.name) (sV t.name)∧SubB (bV t.neg) (bV t.neg)∧SubB (PV.f (Lf.lr t.digits t.digits.length)) (PV.f (Lf.lr t.digits t.digits.length))∧SubB (PV.f (Lf.dt Sh.tm t.kids)) (PV.f (Lf.dt Sh.tm t.kids))∧True)∧(SubB (PV.f (Lf.v (Value.int IntKind.u8 (gotT l ts t).kind))) (PV.f (Lf.v (Value.int IntKind.u8 (gotT l ts t).kind)))∧SubB (sV ((gotT l ts t).name)) (sV ((gotT l ts t).name))∧SubB (bV ((gotT l ts t).neg)) (bV ((gotT l ts t).neg))∧SubB (PV.f (Lf.lr (gotT l ts t).digits (gotT l ts t).digits.length)) (PV.f (Lf.lr (gotT l ts t).digits (gotT l ts t).digits.length))∧SubB (PV.f (Lf.dt Sh.tm (gotT l ts t).kids)) (PV.f (Lf.dt Sh.tm (gotT l ts t).kids))∧True)∧(SubB (PV.f (Lf.v (Value.int IntKind.u8 (gotT l (ownN l) t).kind))) (PV.f (Lf.v (Value.int IntKind.u8 (gotT l (ownN l) t).kind)))∧SubB (sV ((gotT l (ownN l) t).name)) (sV ((gotT l (ownN l) t).name))∧SubB (bV ((gotT l (ownN l) t).neg)) (bV ((gotT l (ownN l) t).neg))∧SubB (PV.f (Lf.lr (gotT l (ownN l) t).digits (gotT l (ownN l) t).digits.length)) (PV.f (Lf.lr (gotT l (ownN l) t).digits (gotT l (ownN l) t).digits.length))∧SubB (PV.f (Lf.dt Sh.tm (gotT l (ownN l) t).kids)) (PV.f (Lf.dt Sh.tm (gotT l (ownN l) t).kids))∧True)∧MapW Kt.str (fun (s:Kt.str.T)=>(met0 t (Qah (Qab t)).length s).isSome) (fun (s:Kt.str.T)=>[Lf.v (Value.bool ((met0 t (Qah (Qab t)).length s).getD false))]) [] [] Kt.str (fun (s:Kt.str.T)=>(met0 t (Qah (Qab t)).length s).isSome) (fun (s:Kt.str.T)=>[Lf.v (Value.bool ((met0 t (Qah (Qab t)).length s).getD false))]) [] []∧True)∧SubB (PV.f (Lf.dt Sh.dat D)) (PV.f (Lf.dt Sh.dat D))∧SubB (PV.f (Lf.dt Sh.srt S)) (PV.f (Lf.dt Sh.srt S))∧SubB (PV.f (Lf.dt Sh.str l)) (PV.f (Lf.dt Sh.str l))∧SubB (PV.f (Lf.dt Sh.tm ts)) (PV.f (Lf.dt Sh.tm ts))∧SubB (PV.bp (0:Nat) (0:Nat)) (PV.bp (0:Nat) (0:Nat))∧SubB (PV.bp (1:Nat) (0:Nat)) (PV.bp (1:Nat) (0:Nat))∧SubB (PV.bp (3:Nat) (0:Nat)) (PV.bp (3:Nat) (0:Nat))∧SubB (iV (errE (Qaz l (ownN l) t))) (iV (errE (Qaz l (ownN l) t)))∧SubB (PV.wr (4:Nat)) (PV.wr (4:Nat))∧SubB (bV false) (bV (touchB t l x11))∧SubB (iV (IntKind.i64.wrap ((↑z10:Int)+(1:Int)))) (iV (↑x11:Int))∧True)∧x11≤l.length∧True∧(l.length - x11).succ.le (l.length - z10)))) (ifB (errE (Qaz l (ownN l) t) != (0:Int)) (true=true∧Sub (bV false) (bV true)) ((Tw.mk t.kind t.name t.neg t.digits t.kids).fitT∧∀ (z11:Bool),z11=QaC (Tw.mk t.kind t.name t.neg t.digits t.kids)→ifB z11 (((Tw.mk (gotT l (ownN l) t).kind (gotT l (ownN l) t).name (gotT l (ownN l) t).neg (gotT l (ownN l) t).digits (gotT l (ownN l) t).kids).fitT∧(Tw.mk t.kind t.name t.neg t.digits t.kids).fitT)∧∀ (z12:Bool),z12=sameT (Tw.mk (gotT l (ownN l) t).kind (gotT l (ownN l) t).name (gotT l (ownN l) t).neg (gotT l (ownN l) t).digits (gotT l (ownN l) t).kids) (Tw.mk t.kind t.name t.neg t.digits t.kids)→ifB (!z12) (true=true∧Sub (bV false) (bV true)) (ifB (!touchB t l z10) (((Tw.mk (gotT l ts t).kind (gotT l ts t).name (gotT l ts t).neg (gotT l ts t).digits (gotT l ts t).kids).fitT∧(Tw.mk t.kind t.name t.neg t.digits t.kids).fitT)∧∀ (z13:Bool),z13=sameT (Tw.mk (gotT l ts t).kind (gotT l ts t).name (gotT l ts t).neg (gotT l ts t).digits (gotT l ts t).kids) (Tw.mk t.kind t.name t.neg t.digits t.kids)→ifB (!z13) (true=true∧Sub (bV false) (bV true)) (∃ (x14:Unit),(((SubB (PV.f (Lf.v (Value.int IntKind.u8 t.kind))) (PV.f (Lf.v (Value.int IntKind.u8 t.kind)))∧SubB (sV t.name) (sV t.name)∧SubB (bV t.neg) (bV t.neg)∧SubB (PV.f (Lf.lr t.digits t.digits.length)) (PV.f (Lf.lr t.digits t.digits.length))∧SubB (PV.f (Lf.dt Sh.tm t.kids)) (PV.f (Lf.dt Sh.tm t.kids))∧True)∧(SubB (PV.f (Lf.v (Value.int IntKind.u8 (gotT l ts t).kind))) (PV.f (Lf.v (Value.int IntKind.u8 (gotT l ts t).kind)))∧SubB (sV ((gotT l ts t).name)) (sV ((gotT l ts t).name))∧SubB (bV ((gotT l ts t).neg)) (bV ((gotT l ts t).neg))∧SubB (PV.f (Lf.lr (gotT l ts t).digits (gotT l ts t).digits.length)) (PV.f (Lf.lr (gotT l ts t).digits (gotT l ts t).digits.length))∧SubB (PV.f (Lf.dt Sh.tm (gotT l ts t).kids)) (PV.f (Lf.dt Sh.tm (gotT l ts t).kids))∧True)∧True)∧SubB (PV.f (Lf.dt Sh.dat D)) (PV.f (Lf.dt Sh.dat D))∧SubB (PV.f (Lf.dt Sh.srt S)) (PV.f (Lf.dt Sh.srt S))∧SubB (PV.f (Lf.dt Sh.str l)) (PV.f (Lf.dt Sh.str l))∧SubB (PV.f (Lf.dt Sh.tm ts)) (PV.f (Lf.dt Sh.tm ts))∧SubB (PV.bp (0:Nat) (0:Nat)) (PV.bp (0:Nat) (0:Nat))∧SubB (PV.bp (1:Nat) (0:Nat)) (PV.bp (1:Nat) (0:Nat))∧True)∧True)) (∃ (x13:Unit),(((SubB (PV.f (Lf.v (Value.int IntKind.u8 t.kind))) (PV.f (Lf.v (Value.int IntKind.u8 t.kind)))∧SubB (sV t.name) (sV t.name)∧SubB (bV t.neg) (bV t.neg)∧SubB (PV.f (Lf.lr t.digits t.digits.length)) (PV.f (Lf.lr t.digits t.digits.length))∧SubB (PV.f (Lf.dt Sh.tm t.kids)) (PV.f (Lf.dt Sh.tm t.kids))∧True)∧(SubB (PV.f (Lf.v (Value.int IntKind.u8 (gotT l ts t).kind))) (PV.f (Lf.v (Value.int IntKind.u8 (gotT l ts t).kind)))∧SubB (sV ((gotT l ts t).name)) (sV ((gotT l ts t).name))∧SubB (bV ((gotT l ts t).neg)) (bV ((gotT l ts t).neg))∧SubB (PV.f (Lf.lr (gotT l ts t).digits (gotT l ts t).digits.length)) (PV.f (Lf.lr (gotT l ts t).digits (gotT l ts t).digits.length))∧SubB (PV.f (Lf.dt Sh.tm (gotT l ts t).kids)) (PV.f (Lf.dt Sh.tm (gotT l ts t).kids))∧True)∧True)∧SubB (PV.f (Lf.dt Sh.dat D)) (PV.f (Lf.dt Sh.dat D))∧SubB (PV.f (Lf.dt Sh.srt S)) (PV.f (Lf.dt Sh.srt S))∧SubB (PV.f (Lf.dt Sh.str l)) (PV.f (Lf.dt Sh.str l))∧SubB (PV.f (Lf.dt Sh.tm ts)) (PV.f (Lf.dt Sh.tm ts))∧SubB (PV.bp (0:Nat) (0:Nat)) (PV.bp (0:Nat) (0:Nat))∧SubB (PV.bp (1:Nat) (0:Nat)) (PV.bp (1:Nat) (0:Nat))∧True)∧True))) (ifB (!touchB t l z10) (((Tw.mk (gotT l ts t).kind (gotT l ts t).name (gotT l ts t).neg (gotT l ts t).digits (gotT l ts t).kids).fitT∧(Tw.mk t.kind t.name t.neg t.digits t.kids).fitT)∧∀ (z12:Bool),z12=sameT (Tw.mk (gotT l ts t).kind (gotT l ts t).name (gotT l ts t).neg (gotT l ts t).digits (gotT l ts t).kids) (Tw.mk t.kind t.name t.neg t.digits t.kids)→ifB (!z12) (true=true∧Sub (bV false) (bV true)) (∃ (x13:Unit),(((SubB (PV.f (Lf.v (Value.int IntKind.u8 t.kind))) (PV.f (Lf.v (Value.int IntKind.u8 t.kind)))∧SubB (sV t.name) (sV t.name)∧SubB (bV t.neg) (bV t.neg)∧SubB (PV.f (Lf.lr t.digits t.digits.length)) (PV.f (Lf.lr t.digits t.digits.length))∧SubB (PV.f (Lf.dt Sh.tm t.kids)) (PV.f (Lf.dt Sh.tm t.kids))∧True)∧(SubB (PV.f (Lf.v (Value.int IntKind.u8 (gotT l ts t).kind))) (PV.f (Lf.v (Value.int IntKind.u8 (gotT l ts t).kind)))∧SubB (sV ((gotT l ts t).name)) (sV ((gotT l ts t).name))∧SubB (bV ((gotT l ts t).neg)) (bV ((gotT l ts t).neg))∧SubB (PV.f (Lf.lr (gotT l ts t).digits (gotT l ts t).digits.length)) (PV.f (Lf.lr (gotT l ts t).digits (gotT l ts t).digits.length))∧SubB (PV.f (Lf.dt Sh.tm (gotT l ts t).kids)) (PV.f (Lf.dt Sh.tm (gotT l ts t).kids))∧True)∧True)∧SubB (PV.f (Lf.dt Sh.dat D)) (PV.f (Lf.dt Sh.dat D))∧SubB (PV.f (Lf.dt Sh.srt S)) (PV.f (Lf.dt Sh.srt S))∧SubB (PV.f (Lf.dt Sh.str l)) (PV.f (Lf.dt Sh.str l))∧SubB (PV.f (Lf.dt Sh.tm ts)) (PV.f (Lf.dt Sh.tm ts))∧SubB (PV.bp (0:Nat) (0:Nat)) (PV.bp (0:Nat) (0:Nat))∧SubB (PV.bp (1:Nat) (0:Nat)) (PV.bp (1:Nat) (0:Nat))∧True)∧True)) (∃ (x12:Unit),(((SubB (PV.f (Lf.v (Value.int IntKind.u8 t.kind))) (PV.f (Lf.v (Value.int IntKind.u8 t.kind)))∧SubB (sV t.name) (sV t.name)∧SubB (bV t.neg) (bV t.neg)∧SubB (PV.f (Lf.lr t.digits t.digits.length)) (PV.f (Lf.lr t.digits t.digits.length))∧SubB (PV.f (Lf.dt Sh.tm t.kids)) (PV.f (Lf.dt Sh.tm t.kids))∧True)∧(SubB (PV.f (Lf.v (Value.int IntKind.u8 (gotT l ts t).kind))) (PV.f (Lf.v (Value.int IntKind.u8 (gotT l ts t).kind)))∧SubB (sV ((gotT l ts t).name)) (sV ((gotT l ts t).name))∧SubB (bV ((gotT l ts t).neg)) (bV ((gotT l ts t).neg))∧SubB (PV.f (Lf.lr (gotT l ts t).digits (gotT l ts t).digits.length)) (PV.f (Lf.lr (gotT l ts t).digits (gotT l ts t).digits.length))∧SubB (PV.f (Lf.dt Sh.tm (gotT l ts t).kids)) (PV.f (Lf.dt Sh.tm (gotT l ts t).kids))∧True)∧True)∧SubB (PV.f (Lf.dt Sh.dat D)) (PV.f (Lf.dt Sh.dat D))∧SubB (PV.f (Lf.dt Sh.srt S)) (PV.f (Lf.dt Sh.srt S))∧SubB (PV.f (Lf.dt Sh.str l)) (PV.f (Lf.dt Sh.str l))∧SubB (PV.f (Lf.dt Sh.tm ts)) (PV.f (Lf.dt Sh.tm ts))∧SubB (PV.bp (0:Nat) (0:Nat)) (PV.bp (0:Nat) (0:Nat))∧SubB (PV.bp (1:Nat) (0:Nat)) (PV.bp (1:Nat) (0:Nat))∧True)∧True)))∧∀ (z11:Unit),True→(((Tw.mk t.kind t.name t.neg t.digits t.kids).fitT∧(Tw.mk (gotT l ts t).kind (gotT l ts t).name (gotT l ts t).neg (gotT l ts t).digits (gotT l ts t).kids).fitT∧∀ (u:Sh.tm.T),u∈ts→Tw.fitT u)∧(∀ (s:Sh.str.T),s∈l→ByteArray.size s≤(4611686018427387904:Nat))∧Tw.mk (gotT l ts t).kind (gotT l ts t).name (gotT l ts t).neg (gotT l ts t).digits (gotT l ts t).kids=Qac l ts (Tw.mk t.kind t.name t.neg t.digits t.kids)∧l.length≤ts.length)∧(((Tw.mk t.kind t.name t.neg t.digits t.kids).fitT∧(Tw.mk (gotT l ts t).kind (gotT l ts t).name (gotT l ts t).neg (gotT l ts t).digits (gotT l ts t).kids).fitT∧∀ (u:Sh.tm.T),u∈ts→Tw.fitT u)∧((Tw.mk t.kind t.name t.neg t.digits t.kids).size≤(100000000:Nat)∧(Tw.mk (gotT l ts t).kind (gotT l ts t).name (gotT l ts t).neg (gotT l ts t).digits (gotT l ts t).kids).size≤(100000000:Nat)∧∀ (u:Sh.tm.T),u∈ts→Tw.size u≤(100000000:Nat))∧Tw.mk (gotT l ts t).kind (gotT l ts t).name (gotT l ts t).neg (gotT l ts t).digits (gotT l ts t).kids=Qac l ts (Tw.mk t.kind t.name t.neg t.digits t.kids)∧l.length≤ts.length)∧true=true∧Sub (bV true) (bV true))))))))))) ?kr ?_
     case kr=>kernel_rfl
     refine ⟨?s0,fun z1=>fun hz1=>Qaa.2 ⟨fun hb0=>⟨rfl,?m0⟩,fun hb0=>⟨?s1,fun z2=>fun hz2=>Qaa.2 ⟨fun hb1=>⟨rfl,?m1⟩,fun hb1=>Qaa.2 ⟨fun hb2=>⟨rfl,?m2⟩,fun hb2=>Qaa.2 ⟨fun hb3=>⟨rfl,?m3⟩,fun hb3=>Qaa.2 ⟨fun hb4=>⟨rfl,?m4⟩,fun hb4=>⟨?s2,fun z3=>fun hz3=>Qaa.2 ⟨fun hb5=>Qaa.2 ⟨fun hb6=>⟨?s3,fun z4=>fun hz4=>⟨rfl,?m5⟩⟩,fun hb6=>⟨rfl,?m6⟩⟩,fun hb5=>⟨?x0,⟨?s4,⟨?s5,⟨trivial,fun z5=>fun hq7=>fun _=>Qaa.2 ⟨fun hb8=>⟨?s6,⟨?s7,⟨?x1,⟨⟨⟨⟨.refl _,⟨.refl _,⟨.refl _,⟨.refl _,⟨.refl _,trivial⟩⟩⟩⟩⟩,⟨⟨.refl _,⟨.refl _,⟨.refl _,⟨.refl _,⟨.refl _,trivial⟩⟩⟩⟩⟩,trivial⟩⟩,⟨.refl _,⟨.refl _,⟨.refl _,⟨.refl _,⟨.refl _,⟨.refl _,⟨?m7,⟨?m8,trivial⟩⟩⟩⟩⟩⟩⟩⟩⟩,⟨?s8,⟨trivial,?m9⟩⟩⟩⟩⟩⟩,fun hb8=>⟨?s9,fun z6=>fun hz6=>⟨?s10,⟨?x2,⟨⟨⟨⟨.refl _,⟨.refl _,⟨.refl _,⟨.refl _,⟨.refl _,trivial⟩⟩⟩⟩⟩,⟨⟨.refl _,⟨.refl _,⟨.refl _,⟨.refl _,⟨.refl _,trivial⟩⟩⟩⟩⟩,⟨⟨?m10,⟨?m11,⟨?m12,⟨?m13,⟨?m14,trivial⟩⟩⟩⟩⟩,⟨?m15,trivial⟩⟩⟩⟩,⟨.refl _,⟨.refl _,⟨.refl _,⟨.refl _,⟨.refl _,⟨.refl _,⟨.refl _,⟨?m16,⟨.refl _,⟨?m17,⟨?m18,trivial⟩⟩⟩⟩⟩⟩⟩⟩⟩⟩⟩⟩,⟨?s11,⟨trivial,fun z8=>fun hq9=>fun _=>Qaa.2 ⟨fun hb10=>⟨?s12,⟨?x3,⟨⟨⟨⟨.refl _,⟨.refl _,⟨.refl _,⟨.refl _,⟨.refl _,trivial⟩⟩⟩⟩⟩,⟨⟨.refl _,⟨.refl _,⟨.refl _,⟨.refl _,⟨.refl _,trivial⟩⟩⟩⟩⟩,⟨⟨.refl _,⟨.refl _,⟨.refl _,⟨.refl _,⟨.refl _,trivial⟩⟩⟩⟩⟩,⟨?m19,trivial⟩⟩⟩⟩,⟨.refl _,⟨.refl _,⟨.refl _,⟨.refl _,⟨.refl _,⟨.refl _,⟨.refl _,⟨.refl _,⟨.refl _,⟨.refl _,⟨?m20,trivial⟩⟩⟩⟩⟩⟩⟩⟩⟩⟩⟩⟩,⟨?s13,⟨trivial,?m21⟩⟩⟩⟩⟩,fun hb10=>⟨?x4,⟨⟨⟨⟨.refl _,⟨.refl _,⟨.refl _,⟨.refl _,⟨.refl _,trivial⟩⟩⟩⟩⟩,⟨⟨.refl _,⟨.refl _,⟨.refl _,⟨.refl _,⟨.refl _,trivial⟩⟩⟩⟩⟩,⟨⟨.refl _,⟨.refl _,⟨.refl _,⟨.refl _,⟨.refl _,trivial⟩⟩⟩⟩⟩,⟨?m22,trivial⟩⟩⟩⟩,⟨.refl _,⟨.refl _,⟨.refl _,⟨.refl _,⟨.refl _,⟨.refl _,⟨.refl _,⟨.refl _,⟨.refl _,⟨?m23,⟨?m24,trivial⟩⟩⟩⟩⟩⟩⟩⟩⟩⟩⟩⟩,⟨?s14,⟨trivial,fun z10=>fun hq11=>fun _=>Qaa.2 ⟨fun hb12=>Qaa.2 ⟨fun hb13=>⟨?x5,⟨⟨⟨⟨.refl _,⟨.refl _,⟨.refl _,⟨.refl _,⟨.refl _,trivial⟩⟩⟩⟩⟩,⟨⟨.refl _,⟨.refl _,⟨.refl _,⟨.refl _,⟨.refl _,trivial⟩⟩⟩⟩⟩,⟨⟨.refl _,⟨.refl _,⟨.refl _,⟨.refl _,⟨.refl _,trivial⟩⟩⟩⟩⟩,⟨.refl _ _ _ _ _,trivial⟩⟩⟩⟩,⟨.refl _,⟨.refl _,⟨.refl _,⟨.refl _,⟨.refl _,⟨.refl _,⟨.refl _,⟨.refl _,⟨.refl _,⟨?m25,⟨?m26,trivial⟩⟩⟩⟩⟩⟩⟩⟩⟩⟩⟩⟩,⟨?s15,⟨trivial,?m27⟩⟩⟩⟩,fun hb13=>⟨?s16,Qaa.2 ⟨fun hb14=>⟨?x6,⟨⟨⟨⟨.refl _,⟨.refl _,⟨.refl _,⟨.refl _,⟨.refl _,trivial⟩⟩⟩⟩⟩,⟨⟨.refl _,⟨.refl _,⟨.refl _,⟨.refl _,⟨.refl _,trivial⟩⟩⟩⟩⟩,⟨⟨.refl _,⟨.refl _,⟨.refl _,⟨.refl _,⟨.refl _,trivial⟩⟩⟩⟩⟩,⟨.refl _ _ _ _ _,trivial⟩⟩⟩⟩,⟨.refl _,⟨.refl _,⟨.refl _,⟨.refl _,⟨.refl _,⟨.refl _,⟨.refl _,⟨.refl _,⟨.refl _,⟨?m28,⟨?m29,trivial⟩⟩⟩⟩⟩⟩⟩⟩⟩⟩⟩⟩,⟨?s17,⟨trivial,?m30⟩⟩⟩⟩,fun hb14=>⟨?x7,⟨⟨⟨⟨.refl _,⟨.refl _,⟨.refl _,⟨.refl _,⟨.refl _,trivial⟩⟩⟩⟩⟩,⟨⟨.refl _,⟨.refl _,⟨.refl _,⟨.refl _,⟨.refl _,trivial⟩⟩⟩⟩⟩,⟨⟨.refl _,⟨.refl _,⟨.refl _,⟨.refl _,⟨.refl _,trivial⟩⟩⟩⟩⟩,⟨.refl _ _ _ _ _,trivial⟩⟩⟩⟩,⟨.refl _,⟨.refl _,⟨.refl _,⟨.refl _,⟨.refl _,⟨.refl _,⟨.refl _,⟨.refl _,⟨.refl _,⟨?m31,⟨?m32,trivial⟩⟩⟩⟩⟩⟩⟩⟩⟩⟩⟩⟩,⟨?s18,⟨trivial,?m33⟩⟩⟩⟩⟩⟩⟩,fun hb12=>⟨Qaa.2 ⟨fun hb15=>⟨rfl,?m34⟩,fun hb15=>⟨?s19,fun z11=>fun hz11=>Qaa.2 ⟨fun hb16=>⟨?s20,fun z12=>fun hz12=>Qaa.2 ⟨fun hb17=>⟨rfl,?m35⟩,fun hb17=>Qaa.2 ⟨fun hb18=>⟨?s21,fun z13=>fun hz13=>Qaa.2 ⟨fun hb19=>⟨rfl,?m36⟩,fun hb19=>⟨?x8,⟨⟨⟨⟨.refl _,⟨.refl _,⟨.refl _,⟨.refl _,⟨.refl _,trivial⟩⟩⟩⟩⟩,⟨⟨.refl _,⟨.refl _,⟨.refl _,⟨.refl _,⟨.refl _,trivial⟩⟩⟩⟩⟩,trivial⟩⟩,⟨.refl _,⟨.refl _,⟨.refl _,⟨.refl _,⟨.refl _,⟨.refl _,trivial⟩⟩⟩⟩⟩⟩⟩,trivial⟩⟩⟩⟩,fun hb18=>⟨?x9,⟨⟨⟨⟨.refl _,⟨.refl _,⟨.refl _,⟨.refl _,⟨.refl _,trivial⟩⟩⟩⟩⟩,⟨⟨.refl _,⟨.refl _,⟨.refl _,⟨.refl _,⟨.refl _,trivial⟩⟩⟩⟩⟩,trivial⟩⟩,⟨.refl _,⟨.refl _,⟨.refl _,⟨.refl _,⟨.refl _,⟨.refl _,trivial⟩⟩⟩⟩⟩⟩⟩,trivial⟩⟩⟩⟩⟩,fun hb16=>Qaa.2 ⟨fun hb20=>⟨?s22,fun z12=>fun hz12=>Qaa.2 ⟨fun hb21=>⟨rfl,?m37⟩,fun hb21=>⟨?x10,⟨⟨⟨⟨.refl _,⟨.refl _,⟨.refl _,⟨.refl _,⟨.refl _,trivial⟩⟩⟩⟩⟩,⟨⟨.refl _,⟨.refl _,⟨.refl _,⟨.refl _,⟨.refl _,trivial⟩⟩⟩⟩⟩,trivial⟩⟩,⟨.refl _,⟨.refl _,⟨.refl _,⟨.refl _,⟨.refl _,⟨.refl _,trivial⟩⟩⟩⟩⟩⟩⟩,trivial⟩⟩⟩⟩,fun hb20=>⟨?x11,⟨⟨⟨⟨.refl _,⟨.refl _,⟨.refl _,⟨.refl _,⟨.refl _,trivial⟩⟩⟩⟩⟩,⟨⟨.refl _,⟨.refl _,⟨.refl _,⟨.refl _,⟨.refl _,trivial⟩⟩⟩⟩⟩,trivial⟩⟩,⟨.refl _,⟨.refl _,⟨.refl _,⟨.refl _,⟨.refl _,⟨.refl _,trivial⟩⟩⟩⟩⟩⟩⟩,trivial⟩⟩⟩⟩⟩⟩,fun z11=>fun _=>⟨?s23,⟨?s24,⟨rfl,?m38⟩⟩⟩⟩⟩⟩⟩⟩⟩⟩⟩⟩⟩⟩⟩⟩⟩⟩⟩⟩⟩⟩⟩⟩⟩⟩⟩⟩⟩⟩
     case x0=>exact 0
     case x1=>exact z5+1
     case x2=>exact 0
     case x3=>exact z8+1
     case x4=>exact 0
     case x5=>exact z10+1
     case x6=>exact z10+1
     case x7=>exact z10+1
     case x8=>exact ()
     case x9=>exact ()
     case x10=>exact ()
     case x11=>exact ()
     all_goals try simp only [Tw.eta,Int.toNat_natCast,decide_eq_true_eq,decide_eq_false_iff_not,Int.ofNat_lt,bne_iff_ne,ne_eq,bne_eq_false_iff_eq,beq_iff_eq,beq_eq_false_iff_ne,Bool.not_eq_true',Bool.not_eq_false'] at *
     case s0=>exact ⟨nD,by simp only [QaB]; omega⟩
     case m0=>exact .refl _
     all_goals have g1:=Qhg (hz1.symm.trans hb0)
     all_goals simp only [QaB] at g1
     case s1=>exact ⟨Nat.zero_le _,nts⟩
     case m1=>exact .refl _
     all_goals have g2:=(Qhg (hz2.symm.trans hb1)).2
     all_goals have ft:t.fitT:=Qgq t (by omega)
     all_goals have fts:∀ u∈ts,u.fitT:=fun u hu=>Qgq u (by have:=Qgr hu; omega)
     all_goals have zt:t.size≤3000:=Nat.le_trans (QeZ t) (by omega)
     all_goals have zts:∀ u∈ts,u.size≤3000:=fun u hu=>Nat.le_trans (QeZ u) (by have:=Qgr hu; omega)
     all_goals have htl:=Qe1 ts
     case m2=>exact .refl _
     case m3=>exact .refl _
     case m4=>exact .refl _
     case s2=>exact ⟨⟨ft,fts⟩,by omega,by omega⟩
     all_goals subst hz3
     all_goals have gf:(gotT l ts t).fitT:=QlO ft fts
     case s3=>exact ⟨gf,Qi8⟩
     case m5 =>
      rw [QlP hb5] at hz4
      exact (QaI (hz4.trans (Qbn _))).sub
     case m6=>exact absurd (by rw [QlP hb5]; rfl) hb6
     case s4=>repeat' first | exact SubB.refl _ | exact trivial | exact rfl | refine And.intro ?_ ?_
     case s5=>exact Nat.zero_le _
     case s6=>omega
     case s7=>exact ⟨by rw [List.length_take]; omega,by rw [List.length_take]; omega⟩
     case m7=>rw [QmY (by omega)]; exact .refl _
     case m8=>exact Qao (by rw [wJ _ (by omega) (by omega)]; rfl)
     case s8=>omega
     case m9=>exact (by omega:l.length - (z5+1)<l.length - z5)
     all_goals have e5:(ownN l).take z5=ownN l:=QoG (by omega)
     all_goals try rw [e5] at hz6
     case s9=>exact ⟨⟨ft,by rw [e5]; exact Qi2 hns⟩,by omega,by rw [e5,Qh3]; omega⟩
     all_goals subst hz6
     case s10=>exact ⟨ft,by omega⟩
     case m10=>exact .refl _
     case m11=>exact .refl _
     case m12=>exact .refl _
     case m13=>exact .refl _
     case m14=>exact .refl _
     case m15=>exact Qha (QcZ _ _)
     case m16=>exact .refl _
     case m17=>exact .refl _
     case m18=>exact .refl _
     case s11=>exact Nat.zero_le _
     case s12=>omega
     case m19=>exact Qd1 (Qcx (by omega) true)
     case m20 =>
      have:=Qgh t
      exact Qao (by rw [wJ _ (by omega) (by omega)]; rfl)
     case s13=>omega
     case m21=>exact (by omega:(Qah (Qab t)).length - (z8+1)<(Qah (Qab t)).length - z8)
     case m22=>exact QbF (by rw [show z8=(Qah (Qab t)).length by omega])
     case m23=>exact QaI QjL
     case m24=>exact .refl _
     case s14=>exact Nat.zero_le _
     case m25=>exact QaI (QmD hb13)
     case m26=>exact Qao (by rw [wJ _ (by omega) (by omega)]; rfl)
     case s15=>omega
     case m27=>exact (by omega:l.length - (z10+1)<l.length - z10)
     case s16=>omega
     case m28=>exact QaI (QgN hb13)
     case m29=>exact Qao (by rw [wJ _ (by omega) (by omega)]; rfl)
     case s17=>omega
     case m30=>exact (by omega:l.length - (z10+1)<l.length - z10)
     case m31=>exact QaI (QkC hb13 hb14)
     case m32=>exact Qao (by rw [wJ _ (by omega) (by omega)]; rfl)
     case s18=>omega
     case m33=>exact (by omega:l.length - (z10+1)<l.length - z10)
     case m34=>exact absurd (own_ok zt) (by assumption)
     case s19=>exact ft
     case s20=>exact ⟨QlO ft (Qi2 hns),ft⟩
     case s21=>exact ⟨gf,ft⟩
     case s22=>exact ⟨gf,ft⟩
     all_goals obtain ⟨q1,q2⟩:=Qjh hb5
     case m35 =>
      rw [(Qjh hb15).1,show Qac l (ownN l) t=t from QgR t (hz11.symm.trans hb16),Qbn] at hz12
      rw [hz12] at hb17; cases hb17
     case m36 =>
      rw [q1,Qfg hb18 (by omega),Qbn] at hz13
      rw [hz13] at hb19; cases hb19
     case m37 =>
      rw [q1,Qfg hb20 (by omega),Qbn] at hz12
      rw [hz12] at hb21; cases hb21
     case s23=>exact ⟨⟨ft,gf,fts⟩,hns,q1,by omega⟩
     case s24=>exact ⟨⟨ft,gf,fts⟩,⟨by omega,by rw [q1]; omega,fun u hu=>Nat.le_trans (zts u hu) (by decide)⟩,q1,by omega⟩
     case m38=>exact .refl _
   · cases hs
 · cases hs
end Go.Proofs.YtemhncjjiomppaaDoor
