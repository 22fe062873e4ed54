/- The layer kind: what is known of a type; names that come twice. -/
import Derived.Test.YtijfaigpilfpaaaGreatDoorHf
import Derived.Test.YtijfaigpilfpaaaGreatDoorMp
import Derived.Test.YtijfaigpilfpaaaGreatDoorVt
set_option linter.unusedSimpArgs false
namespace Go.Proofs.YtijfaigpilfpaaaGreatDoor
open Go.RowKit
set_option linter.unusedVariables false
set_option maxRecDepth 100000
theorem endNil {P:Prop} {sh:Sh} {e:TypeId} {k:Nat} {l:List sh.T} (hl:l=[]):EndU 0 (Out.need P (.ret (.tl 0 (.dt sh l)) [.tail e k])).fin true (.f (.v (.slice none 0 0))) []:=by
 subst hl
 exact ⟨rfl,by
  show Weak0 0 ⟨[(0,.tl 0 (.dt sh []))],[.tail e k]⟩ ⟨[(0,.f (.v (.slice none 0 0)))],[]⟩
  exact ⟨trivial,rfl,trivial⟩⟩
theorem endTl {P:Prop} {e:TypeId} {k n:Nat} {get:Nat→List Lf} {lf:Lf} (hv:lf.view0=some (k,n,get)) (hu:isU8 lf=false):EndU 0 (Out.need P (.ret (.tl 0 lf) [.tail e k])).fin true (.wr 0) [.own e lf]:=by
 refine ⟨rfl,?_⟩
 have ht:Qgk ⟨[(0,.wr 0)],[.own e lf]⟩ 0=some (⟨[(0,.tl 0 lf)],[.tail e k]⟩,lf):=by
  show (match lf.view0,!isU8 lf && true with
   | some (k,_,_),true=>some ((⟨[(0,.tl 0 lf)],[.tail e k]⟩:PS),lf)
   | _,_=>none)=_
  rw [hv,hu]; rfl
 show Weak0 0 ⟨[(0,.tl 0 lf)],[.tail e k]⟩ (QbA 0 [.tail e k] ⟨[(0,.wr 0)],[.own e lf]⟩)
 have hs:QbA 0 [.tail e k] ⟨[(0,.wr 0)],[.own e lf]⟩=⟨[(0,.tl 0 lf)],[.tail e k]⟩:=by
  show (match Qgk ⟨[(0,.wr 0)],[.own e lf]⟩ 0 with | some (s',_)=>s' | none=>_)=_
  rw [ht]
 rw [hs]
 refine ⟨?_,?_⟩
 · show (match Nat.beq e e && Nat.beq k k with | true=>True | false=>False)
   rw [show (Nat.beq e e && Nat.beq k k)=true by simp]
   trivial
 · exact ⟨.refl _,trivial⟩
def QjL:Spec2
 | [.f (.dt .tm l)],[]=>some (.need (l.length≤100000000) (.ret (.tl 0 (.dt .tm l)) [.tail 28 5]))
 | _,_=>none
theorem QtU {E:Env} (hU:Up E):Contract2 Tryz.prog E 40 QjL:=by
 refine Qkk [] [(QiF,fun _ _=>none)] Tryz.ntmps40 Tryz.func40 (by kernel_rfl) (by kernel_rfl) hU trivial ⟨QsZ,trivial⟩ ?_
 intro xs ob o hs hok
 unfold QjL at hs
 split at hs
 · rename_i l
   cases hs
   have hl:=hok.1
   refine ⟨[.f (.dt .tm l)],[],.cons (.refl _) .nil,rfl,fun hg hsh=>?_⟩
   have h0:=hl
   refine Qab (p:=(l.length=0→EndU 0 (Out.need (l.length≤100000000) (Out.ret (PV.tl 0 (Lf.dt Sh.tm l)) [PO.tail 28 5])).fin true (nlP) [])∧(l.length≤9223372036854775807∧l.length * 80≤140737488355328)∧EndU 0 (Out.need (l.length≤100000000) (Out.ret (PV.tl 0 (Lf.dt Sh.tm l)) [PO.tail 28 5])).fin true (PV.wr 0) [PO.own 28 (Lf.dt Sh.tm l)]) ?kr ?_
   case kr=>kernel_rfl
   refine ⟨fun hq0=>?m0,⟨?s0,?m1⟩⟩
   case m0=>exact endNil (List.length_eq_zero_iff.1 hq0)
   case s0=>omega
   case m1=>exact endTl (lf:=.dt .tm l) rfl rfl
 · cases hs
def QsQ:Spec
 | [x]=>match tmOf x with
  | some t=>some (some (t.fitT∧t.size≤100000000),.one (.f (.dt .tm (conj t))))
  | none=>none
 | _=>none
theorem cConj {E:Env} (hU:Up E):Contract Tryz.prog E 38 QsQ:=by
 intro xs p r hs hp
 unfold QsQ at hs
 split at hs
 · rename_i x
   split at hs
   · rename_i t ht
     cases hs
     exact Qr4 hU (t.size+1) [x] _ _ (by simp only [Qit,ht]; rfl) (fun q hq=>by cases hq; exact ⟨Nat.lt_succ_self _,hp _ rfl⟩)
   · cases hs
 · cases hs
theorem QqD {a b:Tw}:keyS a=keyS b↔keyB a=keyB b:=by
 constructor
 · intro h
   have:=congrArg (fun x:ByteArray=>x.data.toList) h
   exact this
 · intro h; unfold keyS; rw [h]
theorem Qta {c:Tw} {l:List Tw}:keyS c∈l.map keyS↔keyB c∈l.map keyB:=by
 simp only [List.mem_map,QqD]
theorem Qf8:∀ (m:List Tw) (ks:List (List UInt8)) (c:Tw),addK ks (m++[c])=addK ks m++if keyB c∈ks∨keyB c∈(addK ks m).map keyB then [] else [c]
 | [],ks,c=>by
  rw [List.nil_append,addK,addK,addK]
  by_cases h:keyB c∈ks
  · rw [if_pos h,if_pos (.inl h)]; rfl
  · rw [if_neg h,if_neg (fun hc=>hc.elim h fun hc=>by cases hc)]; rfl
 | d::m,ks,c=>by
  rw [List.cons_append,addK,addK]
  by_cases h:keyB d∈ks
  · rw [if_pos h,if_pos h,Qf8 m ks c]
  · rw [if_neg h,if_neg h,Qf8 m _ c,List.cons_append]
    by_cases hc:keyB c∈keyB d::ks∨keyB c∈(addK (keyB d::ks) m).map keyB
    · rw [if_pos hc,if_pos]
      rcases hc with hc | hc
      · rcases List.mem_cons.1 hc with hc | hc
        · exact .inr (by rw [hc]; exact List.mem_cons_self ..)
        · exact .inl hc
      · exact .inr (List.mem_cons_of_mem _ hc)
    · rw [if_neg hc,if_neg]
      rintro (h1 | h1)
      · exact hc (.inl (List.mem_cons_of_mem _ h1))
      · rw [List.map_cons] at h1
        rcases List.mem_cons.1 h1 with h1 | h1
        · exact hc (.inl (by rw [h1]; exact List.mem_cons_self ..))
        · exact hc (.inr h1)
mutual
theorem QhI:∀ {t x:Tw},QaQ t→t.fitT→x∈conj t→QaQ x∧x.fitT∧(keyB x).length≤(keyB t).length
 | .mk k n b d l,x,hk,hf,h=>by
  rw [conj] at h
  split at h
  · cases h
  · split at h
    · have h1:=Qi1 hk.2 hf.2.2.2 h
      refine ⟨h1.1,h1.2.1,Nat.le_trans h1.2.2 ?_⟩
      rw [keyB]
      simp only [List.length_append,List.length_cons]
      omega
    · cases List.mem_singleton.1 h
      exact ⟨hk,hf,Nat.le_refl _⟩
theorem Qi1:∀ {l:List Tw} {x:Tw},QdI l→QbW l→x∈Qa6 l→QaQ x∧x.fitT∧(keyB x).length≤(Qdh l).length
 | t::l,x,hk,hf,h=>by
  rw [Qa6,List.mem_append] at h
  rw [Qdh,List.length_append]
  rcases h with h | h
  · have h1:=QhI hk.1 hf.1 h
    exact ⟨h1.1,h1.2.1,by omega⟩
  · have h1:=Qi1 hk.2 hf.2 h
    exact ⟨h1.1,h1.2.1,by omega⟩
end
noncomputable def kn1 (l:List Tw) (i:Nat):ByteArray→Option Bool:=setF ((l.take i).map keyS)
def al2 (l c:List Tw) (i:Nat):List Tw:=l++addK (l.map keyB) (c.take i)
noncomputable def kn2 (l c:List Tw) (i:Nat):ByteArray→Option Bool:=setF ((al2 l c i).map keyS)
theorem Qqy {l:List Tw} {i:Nat} (h:i<l.length):kn1 l (i+1)=put1 (kn1 l i) (keyS (l.getD i Sh.tm.nil)) true:=by
 unfold kn1
 rw [← Qg5,List.take_add_one,List.getElem?_eq_getElem h,List.getD_eq_getElem?_getD,List.getElem?_eq_getElem h,List.map_append]
 rfl
theorem QpJ (l c:List Tw):al2 l c 0=l:=by rw [al2,List.take_zero,addK,List.append_nil]
theorem QpK (l c:List Tw):al2 l c c.length=allK l c:=by rw [al2,List.take_length]; rfl
theorem Qr9 {l c:List Tw} {i:Nat} {x:Tw}:keyB x∈(al2 l c i).map keyB↔keyB x∈l.map keyB∨keyB x∈(addK (l.map keyB) (c.take i)).map keyB:=by
 rw [al2,List.map_append,List.mem_append]
theorem Qmk {l c:List Tw} {i:Nat} (h:i<c.length):al2 l c (i+1)=al2 l c i++if keyB (c.getD i Sh.tm.nil)∈(al2 l c i).map keyB then [] else [c.getD i Sh.tm.nil]:=by
 have e:c.take (i+1)=c.take i++[c.getD i Sh.tm.nil]:=by
  rw [List.take_add_one,List.getElem?_eq_getElem h,List.getD_eq_getElem?_getD,List.getElem?_eq_getElem h]; rfl
 rw [al2,e,Qf8,← List.append_assoc]
 by_cases hc:keyB (c.getD i Sh.tm.nil)∈(al2 l c i).map keyB
 · rw [if_pos hc,if_pos (Qr9.1 hc)]; rfl
 · rw [if_neg hc,if_neg (fun h=>hc (Qr9.2 h))]; rfl
theorem QoI {l c:List Tw} {i:Nat} {x:Tw}:hasF (kn2 l c i) (keyS x)=true↔keyB x∈(al2 l c i).map keyB:=Qb3.trans Qta
theorem Qeh {l c:List Tw} {i:Nat} {x:Tw} (h:hasF (kn2 l c i) (keyS x)=true):kn2 l c i (keyS x)=some true:=Qed (Qb3.1 h)
theorem Qlz {l c:List Tw} {i:Nat} (hi:i<c.length) (h:hasF (kn2 l c i) (keyS (c.getD i Sh.tm.nil))=true):al2 l c (i+1)=al2 l c i:=by
 rw [Qmk hi,if_pos (QoI.1 h),List.append_nil]
theorem QoJ {l c:List Tw} {i:Nat} (hi:i<c.length) (h:hasF (kn2 l c i) (keyS (c.getD i Sh.tm.nil))=false):al2 l c (i+1)=al2 l c i++[c.getD i Sh.tm.nil]∧kn2 l c (i+1)=put1 (kn2 l c i) (keyS (c.getD i Sh.tm.nil)) true:=by
 have h1:al2 l c (i+1)=al2 l c i++[c.getD i Sh.tm.nil]:=by
  rw [Qmk hi,if_neg (fun hc=>by rw [QoI.2 hc] at h; cases h)]
 refine ⟨h1,?_⟩
 unfold kn2
 rw [← Qg5,h1,List.map_append]
 rfl
theorem QkA:∀ (m:List Tw) (ks:List (List UInt8)),(addK ks m).length≤m.length
 | [],_=>Nat.le_refl _
 | c::m,ks=>by
  rw [addK]
  split
  · have:=QkA m ks; rw [List.length_cons]; omega
  · have:=QkA m (keyB c::ks); rw [List.length_cons,List.length_cons]; omega
theorem Qt0 (l c:List Tw) (i:Nat):(al2 l c i).length≤l.length+c.length:=by
 have h:=QkA (c.take i) (l.map keyB)
 have h2:(c.take i).length≤c.length:=by rw [List.length_take]; omega
 rw [al2,List.length_append]
 omega
def Qnj:List PV:=[bV false,sV ⟨#[]⟩,.f (.v (.int .u8 0)),sV ⟨#[]⟩,bV false,.f (.v (.slice none 0 0)),.f (.v (.slice none 0 0)),.f (.v (.slice none 0 0)),.f (.v (.slice none 0 0))]
def QsA:Spec
 | [x,y]=>match tyOf x,tmOf y with
  | some t,some m=>some (some (t.fit∧(m.fitT∧QaQ m)∧(t.ref.size≤10000000∧m.size≤10000000)∧(keyB t.ref).length≤140737488355328∧(keyB m).length≤140737488355328),.one (tyP (QaB t m)))
  | _,_=>none
 | _=>none
set_option maxHeartbeats 4000000 in
theorem cWith {E:Env} (hU:Up E) (hT:∀ K w H,E K w H→Tab w):Contract Tryz.prog E 9 QsA:=by
 refine Qac [(38,QsQ),(39,sKey),(41,Qiu),(15,Qk5)] [(40,QjL)] Tryz.ntmps9 Tryz.func9 (by kernel_rfl) (by kernel_rfl) hU ⟨cConj hU,cKey hU hT,Qpw hU,Qr5 hU,trivial⟩ ⟨QtU hU,trivial⟩ ?_
 intro xs p r hs hp
 unfold QsA at hs
 split at hs
 · rename_i x y
   split at hs
   · rename_i t m h1 h2
     cases hs
     obtain ⟨hf,⟨hm,hkm⟩,⟨hz1,hz2⟩,hk1,hk2⟩:=hp _ rfl
     have f2:=(Yw.fit_eq t).1 hf
     refine ⟨[tyP t,tmP m],[
      (4,.s ⟨Nat,fun i=>⟨[(2,.bp 0 0),(3,.bp 1 0),(4,.bp 2 0),(5,.f (.dt .tm (conj t.ref))),(6,.wr 3),(17,.f (.dt .tm (conj t.ref))),(18,iV (conj t.ref).length),(19,iV i)],[.cells (Qae (tyC t)),.cells (Qae (tmC m)),.cells Qnj,.map .str (hasF (kn1 (conj t.ref) i)) (getF (kn1 (conj t.ref) i)) [] []]⟩,fun i=>i≤(conj t.ref).length,fun i=>(conj t.ref).length - i⟩),
      (10,.s ⟨Nat,fun i=>⟨[(2,.bp 0 0),(3,.bp 1 0),(4,.bp 2 0),(5,.f (.dt .tm (conj t.ref))),(6,.wr 3),(9,.tl 4 (.dt .tm (al2 (conj t.ref) (conj m) i))),(30,.f (.dt .tm (conj m))),(31,iV (conj m).length),(32,iV i)],[.cells (Qae (tyC t)),.cells (Qae (tmC m)),.cells Qnj,.map .str (hasF (kn2 (conj t.ref) (conj m) i)) (getF (kn2 (conj t.ref) (conj m) i)) [] [],.tail 28 5]⟩,fun i=>i≤(conj m).length,fun i=>(conj m).length - i⟩)],.cons (Qbp h1).sub (.cons (QaG h2).sub .nil),rfl,fun _ hsh=>?_⟩
     have h0:=hm
     refine Qab (p:=let A1:=rfB (bV t.fn)∧rfB (sV t.sort)∧rfB (uV t.ref.kind)∧rfB (sV t.ref.name)∧rfB (bV t.ref.neg)∧rfB (PV.f (Lf.lr t.ref.digits t.ref.digits.length))∧rfB (dP Sh.tm t.ref.kids)∧rfB (dP Sh.prm t.params)∧rfB (dP Sh.ty t.result)∧True; let A2:=rfB (bV false)∧rfB (sV (ByteArray.mk #[]))∧rfB (uV 0)∧rfB (sV (ByteArray.mk #[]))∧rfB (bV false)∧rfB (nlP)∧rfB (nlP)∧rfB (nlP)∧rfB (nlP)∧True; let A3:=PV.agg [bV ((QaB t m).fn),sV ((QaB t m).sort),uV ((QaB t m).ref.kind),sV ((QaB t m).ref.name),bV ((QaB t m).ref.neg),PV.f (Lf.lr (QaB t m).ref.digits (QaB t m).ref.digits.length),dP Sh.tm (QaB t m).ref.kids,dP Sh.prm (QaB t m).params,dP Sh.ty (QaB t m).result]; let A4:=rfB (uV m.kind)∧rfB (sV m.name)∧rfB (bV m.neg)∧rfB (PV.f (Lf.lr m.digits m.digits.length))∧rfB (dP Sh.tm m.kids)∧True; let A6:=fun (z4:Nat)=>((conj m).getD (↑z4:Int).toNat Sh.tm.nil); let A7:=dP Sh.tm (conj t.ref); let A8:=fun (z2:Nat)=>(etaT ((conj t.ref).getD (↑z2:Int).toNat Sh.tm.nil)); let A9:=true=true∧Sub (PV.agg ([bV t.fn,sV t.sort]++(Qae (tmC t.ref)++[dP Sh.prm t.params,dP Sh.ty t.result]))) A3; let A10:=(↑(conj t.ref).length:Int); let A11:=(↑(conj m).length:Int); let A12:=fun (z4:Nat)=>(al2 (conj t.ref) (conj m) z4); let A0:=fun (z4:Nat)=>(((A12 z4).length+1≤9223372036854775807∧((A12 z4).length+1) * 80≤140737488355328)∧∃ (x5:Nat),((A1∧A4∧A2∧MapW Kt.str (fun (s:Kt.str.T)=>(kn2 (conj t.ref) (conj m) z4 s).isSome) (fun (s:Kt.str.T)=>[Lf.v (Value.bool ((kn2 (conj t.ref) (conj m) z4 s).getD false))]) [keyS (etaT (A6 z4))] [bV true] Kt.str (fun (s:Kt.str.T)=>(kn2 (conj t.ref) (conj m) x5 s).isSome) (fun (s:Kt.str.T)=>[Lf.v (Value.bool ((kn2 (conj t.ref) (conj m) x5 s).getD false))]) [] []∧True)∧rfB (PV.bp 0 0)∧rfB (PV.bp 1 0)∧rfB (PV.bp 2 0)∧rfB A7∧rfB (PV.wr 3)∧SubB (PV.tl 4 (Lf.dt Sh.tm (al2 (conj t.ref) (conj m) z4++[etaT (A6 z4)]))) (PV.tl 4 (Lf.dt Sh.tm (al2 (conj t.ref) (conj m) x5)))∧rfB (dP Sh.tm (conj m))∧rfB (iV A11)∧SubB (iV (IntKind.i64.wrap ((↑z4:Int)+(1:Int)))) (iV (↑x5:Int))∧True)∧x5≤(conj m).length∧True∧((conj m).length - x5).succ.le ((conj m).length - z4)); let A5:=fun (z4:Nat)=>(Yw.mk false t.sort (Qaw (A12 z4)) [] []); ((etaT t.ref).fitT∧(etaT t.ref).size≤100000000)∧∃ (x1:Nat),((A1∧A4∧A2∧MapW Kt.str (fun (x:Kt.str.T)=>false) (fun (x:Kt.str.T)=>[]) [] [] Kt.str (fun (s:Kt.str.T)=>(kn1 (conj t.ref) x1 s).isSome) (fun (s:Kt.str.T)=>[Lf.v (Value.bool ((kn1 (conj t.ref) x1 s).getD false))]) [] []∧True)∧rfB (PV.bp 0 0)∧rfB (PV.bp 1 0)∧rfB (PV.bp 2 0)∧SubB (dP Sh.tm (conj (etaT t.ref))) A7∧rfB (PV.wr 3)∧SubB (dP Sh.tm (conj (etaT t.ref))) A7∧SubB (iV (↑(conj (etaT t.ref)).length:Int)) (iV A10)∧SubB (iV 0) (iV (↑x1:Int))∧True)∧x1≤(conj t.ref).length∧True∧∀ (z2:Nat),z2≤(conj t.ref).length→True→ifB (decide ((↑z2:Int)<A10)) (((0:Int)≤(↑z2:Int)∧(↑z2:Int)<A10)∧(QaQ (A8 z2)∧(A8 z2).fitT∧(keyB (A8 z2)).length≤140737488355328)∧∃ (x3:Nat),((A1∧A4∧A2∧MapW Kt.str (fun (s:Kt.str.T)=>(kn1 (conj t.ref) z2 s).isSome) (fun (s:Kt.str.T)=>[Lf.v (Value.bool ((kn1 (conj t.ref) z2 s).getD false))]) [keyS (A8 z2)] [bV true] Kt.str (fun (s:Kt.str.T)=>(kn1 (conj t.ref) x3 s).isSome) (fun (s:Kt.str.T)=>[Lf.v (Value.bool ((kn1 (conj t.ref) x3 s).getD false))]) [] []∧True)∧rfB (PV.bp 0 0)∧rfB (PV.bp 1 0)∧rfB (PV.bp 2 0)∧rfB A7∧rfB (PV.wr 3)∧rfB A7∧rfB (iV A10)∧SubB (iV (IntKind.i64.wrap ((↑z2:Int)+(1:Int)))) (iV (↑x3:Int))∧True)∧x3≤(conj t.ref).length∧True∧((conj t.ref).length - x3).succ.le ((conj t.ref).length - z2)) ((conj t.ref).length≤100000000∧((etaT m).fitT∧(etaT m).size≤100000000)∧∃ (x3:Nat),((A1∧A4∧A2∧MapW Kt.str (fun (s:Kt.str.T)=>(kn1 (conj t.ref) z2 s).isSome) (fun (s:Kt.str.T)=>[Lf.v (Value.bool ((kn1 (conj t.ref) z2 s).getD false))]) [] [] Kt.str (fun (s:Kt.str.T)=>(kn2 (conj t.ref) (conj m) x3 s).isSome) (fun (s:Kt.str.T)=>[Lf.v (Value.bool ((kn2 (conj t.ref) (conj m) x3 s).getD false))]) [] []∧True)∧rfB (PV.bp 0 0)∧rfB (PV.bp 1 0)∧rfB (PV.bp 2 0)∧rfB A7∧rfB (PV.wr 3)∧SubB (PV.tl 4 (Lf.dt Sh.tm (conj t.ref))) (PV.tl 4 (Lf.dt Sh.tm (al2 (conj t.ref) (conj m) x3)))∧SubB (dP Sh.tm (conj (etaT m))) (dP Sh.tm (conj m))∧SubB (iV (↑(conj (etaT m)).length:Int)) (iV A11)∧SubB (iV 0) (iV (↑x3:Int))∧True)∧x3≤(conj m).length∧True∧∀ (z4:Nat),z4≤(conj m).length→True→ifB (decide ((↑z4:Int)<A11)) (((0:Int)≤(↑z4:Int)∧(↑z4:Int)<A11)∧(QaQ (etaT (A6 z4))∧(etaT (A6 z4)).fitT∧(keyB (etaT (A6 z4))).length≤140737488355328)∧ifB (hasF (kn2 (conj t.ref) (conj m) z4) (keyS (etaT (A6 z4)))) (ifB (!(kn2 (conj t.ref) (conj m) z4 (keyS (etaT (A6 z4)))).getD false) (A0 z4) (∃ (x5:Nat),((A1∧A4∧A2∧MapW Kt.str (fun (s:Kt.str.T)=>(kn2 (conj t.ref) (conj m) z4 s).isSome) (fun (s:Kt.str.T)=>[Lf.v (Value.bool ((kn2 (conj t.ref) (conj m) z4 s).getD false))]) [] [] Kt.str (fun (s:Kt.str.T)=>(kn2 (conj t.ref) (conj m) x5 s).isSome) (fun (s:Kt.str.T)=>[Lf.v (Value.bool ((kn2 (conj t.ref) (conj m) x5 s).getD false))]) [] []∧True)∧rfB (PV.bp 0 0)∧rfB (PV.bp 1 0)∧rfB (PV.bp 2 0)∧rfB A7∧rfB (PV.wr 3)∧SubB (PV.tl 4 (Lf.dt Sh.tm (A12 z4))) (PV.tl 4 (Lf.dt Sh.tm (al2 (conj t.ref) (conj m) x5)))∧rfB (dP Sh.tm (conj m))∧rfB (iV A11)∧SubB (iV (IntKind.i64.wrap ((↑z4:Int)+(1:Int)))) (iV (↑x5:Int))∧True)∧x5≤(conj m).length∧True∧((conj m).length - x5).succ.le ((conj m).length - z4))) (A0 z4)) (∀ (z5:Bool),z5=Qbf (Yw.mk t.fn t.sort (etaT t.ref) t.params t.result)→ifB (!z5) A9 (ifB ((↑(A12 z4).length:Int)==A10) A9 ((A12 z4).length≤100000000∧true=true∧Sub (PV.agg [bV ((A5 z4).fn),sV ((A5 z4).sort),uV ((A5 z4).ref.kind),sV ((A5 z4).ref.name),bV ((A5 z4).ref.neg),PV.f (Lf.lr (A5 z4).ref.digits (A5 z4).ref.digits.length),dP Sh.tm (A5 z4).ref.kids,dP Sh.prm [],dP Sh.ty []]) A3))))) ?kr ?_
     case kr=>kernel_rfl
     conv=>zeta
     refine ⟨?s0,⟨?x0,⟨⟨⟨⟨.refl _,⟨.refl _,⟨.refl _,⟨.refl _,⟨.refl _,⟨.refl _,⟨.refl _,⟨.refl _,⟨.refl _,trivial⟩⟩⟩⟩⟩⟩⟩⟩⟩,⟨⟨.refl _,⟨.refl _,⟨.refl _,⟨.refl _,⟨.refl _,trivial⟩⟩⟩⟩⟩,⟨⟨.refl _,⟨.refl _,⟨.refl _,⟨.refl _,⟨.refl _,⟨.refl _,⟨.refl _,⟨.refl _,⟨.refl _,trivial⟩⟩⟩⟩⟩⟩⟩⟩⟩,⟨?m0,trivial⟩⟩⟩⟩,⟨.refl _,⟨.refl _,⟨.refl _,⟨?m1,⟨.refl _,⟨?m2,⟨?m3,⟨?m4,trivial⟩⟩⟩⟩⟩⟩⟩⟩⟩,⟨?s1,⟨trivial,fun z2=>fun hq0=>fun _=>Qaa.2 ⟨fun hb1=>⟨?s2,⟨?s3,⟨?x1,⟨⟨⟨⟨.refl _,⟨.refl _,⟨.refl _,⟨.refl _,⟨.refl _,⟨.refl _,⟨.refl _,⟨.refl _,⟨.refl _,trivial⟩⟩⟩⟩⟩⟩⟩⟩⟩,⟨⟨.refl _,⟨.refl _,⟨.refl _,⟨.refl _,⟨.refl _,trivial⟩⟩⟩⟩⟩,⟨⟨.refl _,⟨.refl _,⟨.refl _,⟨.refl _,⟨.refl _,⟨.refl _,⟨.refl _,⟨.refl _,⟨.refl _,trivial⟩⟩⟩⟩⟩⟩⟩⟩⟩,⟨?m5,trivial⟩⟩⟩⟩,⟨.refl _,⟨.refl _,⟨.refl _,⟨.refl _,⟨.refl _,⟨.refl _,⟨.refl _,⟨?m6,trivial⟩⟩⟩⟩⟩⟩⟩⟩⟩,⟨?s4,⟨trivial,?m7⟩⟩⟩⟩⟩⟩,fun hb1=>⟨?s5,⟨?s6,⟨?x2,⟨⟨⟨⟨.refl _,⟨.refl _,⟨.refl _,⟨.refl _,⟨.refl _,⟨.refl _,⟨.refl _,⟨.refl _,⟨.refl _,trivial⟩⟩⟩⟩⟩⟩⟩⟩⟩,⟨⟨.refl _,⟨.refl _,⟨.refl _,⟨.refl _,⟨.refl _,trivial⟩⟩⟩⟩⟩,⟨⟨.refl _,⟨.refl _,⟨.refl _,⟨.refl _,⟨.refl _,⟨.refl _,⟨.refl _,⟨.refl _,⟨.refl _,trivial⟩⟩⟩⟩⟩⟩⟩⟩⟩,⟨?m8,trivial⟩⟩⟩⟩,⟨.refl _,⟨.refl _,⟨.refl _,⟨.refl _,⟨.refl _,⟨?m9,⟨?m10,⟨?m11,⟨?m12,trivial⟩⟩⟩⟩⟩⟩⟩⟩⟩⟩,⟨?s7,⟨trivial,fun z4=>fun hq2=>fun _=>Qaa.2 ⟨fun hb3=>⟨?s8,⟨?s9,Qaa.2 ⟨fun hb4=>Qaa.2 ⟨fun hb5=>⟨?s10,⟨?x3,⟨⟨⟨⟨.refl _,⟨.refl _,⟨.refl _,⟨.refl _,⟨.refl _,⟨.refl _,⟨.refl _,⟨.refl _,⟨.refl _,trivial⟩⟩⟩⟩⟩⟩⟩⟩⟩,⟨⟨.refl _,⟨.refl _,⟨.refl _,⟨.refl _,⟨.refl _,trivial⟩⟩⟩⟩⟩,⟨⟨.refl _,⟨.refl _,⟨.refl _,⟨.refl _,⟨.refl _,⟨.refl _,⟨.refl _,⟨.refl _,⟨.refl _,trivial⟩⟩⟩⟩⟩⟩⟩⟩⟩,⟨?m13,trivial⟩⟩⟩⟩,⟨.refl _,⟨.refl _,⟨.refl _,⟨.refl _,⟨.refl _,⟨?m14,⟨.refl _,⟨.refl _,⟨?m15,trivial⟩⟩⟩⟩⟩⟩⟩⟩⟩⟩,⟨?s11,⟨trivial,?m16⟩⟩⟩⟩⟩,fun hb5=>⟨?x4,⟨⟨⟨⟨.refl _,⟨.refl _,⟨.refl _,⟨.refl _,⟨.refl _,⟨.refl _,⟨.refl _,⟨.refl _,⟨.refl _,trivial⟩⟩⟩⟩⟩⟩⟩⟩⟩,⟨⟨.refl _,⟨.refl _,⟨.refl _,⟨.refl _,⟨.refl _,trivial⟩⟩⟩⟩⟩,⟨⟨.refl _,⟨.refl _,⟨.refl _,⟨.refl _,⟨.refl _,⟨.refl _,⟨.refl _,⟨.refl _,⟨.refl _,trivial⟩⟩⟩⟩⟩⟩⟩⟩⟩,⟨?m17,trivial⟩⟩⟩⟩,⟨.refl _,⟨.refl _,⟨.refl _,⟨.refl _,⟨.refl _,⟨?m18,⟨.refl _,⟨.refl _,⟨?m19,trivial⟩⟩⟩⟩⟩⟩⟩⟩⟩⟩,⟨?s12,⟨trivial,?m20⟩⟩⟩⟩⟩,fun hb4=>⟨?s13,⟨?x5,⟨⟨⟨⟨.refl _,⟨.refl _,⟨.refl _,⟨.refl _,⟨.refl _,⟨.refl _,⟨.refl _,⟨.refl _,⟨.refl _,trivial⟩⟩⟩⟩⟩⟩⟩⟩⟩,⟨⟨.refl _,⟨.refl _,⟨.refl _,⟨.refl _,⟨.refl _,trivial⟩⟩⟩⟩⟩,⟨⟨.refl _,⟨.refl _,⟨.refl _,⟨.refl _,⟨.refl _,⟨.refl _,⟨.refl _,⟨.refl _,⟨.refl _,trivial⟩⟩⟩⟩⟩⟩⟩⟩⟩,⟨?m21,trivial⟩⟩⟩⟩,⟨.refl _,⟨.refl _,⟨.refl _,⟨.refl _,⟨.refl _,⟨?m22,⟨.refl _,⟨.refl _,⟨?m23,trivial⟩⟩⟩⟩⟩⟩⟩⟩⟩⟩,⟨?s14,⟨trivial,?m24⟩⟩⟩⟩⟩⟩⟩⟩,fun hb3=>fun z5=>fun hz5=>Qaa.2 ⟨fun hb6=>⟨rfl,?m25⟩,fun hb6=>Qaa.2 ⟨fun hb7=>⟨rfl,?m26⟩,fun hb7=>⟨?s15,⟨rfl,?m27⟩⟩⟩⟩⟩⟩⟩⟩⟩⟩⟩⟩⟩⟩⟩⟩⟩
     all_goals try simp only [etaT] at *
     case x0=>exact 0
     case x1=>exact z2+1
     case x2=>exact 0
     case x3=>exact z4+1
     case x4=>exact z4+1
     case x5=>exact z4+1
     all_goals try simp only [Tw.eta,Yw.eta,Int.toNat_natCast,decide_eq_true_eq,decide_eq_false_iff_not,Int.ofNat_lt] at *
     all_goals have n1:=Qe6 t.ref
     all_goals have n2:=Qe6 m
     case s0=>exact ⟨f2.1.2.1,by omega⟩
     case m0=>exact QiI (by unfold kn1; rw [List.take_zero]; exact Qk0)
     case m1=>exact .refl _
     case m2=>exact .refl _
     case m3=>exact .refl _
     case m4=>exact .refl _
     case s1=>exact Nat.zero_le _
     case s2=>exact ⟨by omega,by assumption⟩
     case s3 =>
      have h9:=QhI f2.1.2.2 f2.1.2.1 (gotD Sh.tm.nil hb1)
      exact ⟨h9.1,h9.2.1,by omega⟩
     case m5=>exact Qhp (Qqy hb1)
     case m6=>exact Qad (by rw [wJ _ (by omega) (by omega)]; rfl)
     case s4=>exact hb1
     case m7=>exact (by omega:(conj t.ref).length - (z2+1)<(conj t.ref).length - z2)
     case s5=>omega
     case s6=>exact ⟨hm,by omega⟩
     case m8=>exact QiH (by unfold kn1 kn2; rw [QpJ,List.take_of_length_le (by omega)])
     case m9=>rw [QpJ]; exact .refl _
     case m10=>exact .refl _
     case m11=>exact .refl _
     case m12=>exact .refl _
     case s7=>exact Nat.zero_le _
     all_goals have n3:=Qt0 (conj t.ref) (conj m) z4
     case s8=>exact ⟨by omega,by assumption⟩
     case s9 =>
      have h9:=QhI hkm hm (gotD Sh.tm.nil hb3)
      exact ⟨h9.1,h9.2.1,by omega⟩
     case s10=>rw [Qeh hb4] at hb5; cases hb5
     case m13=>rw [Qeh hb4] at hb5; cases hb5
     case m14=>rw [Qeh hb4] at hb5; cases hb5
     case m15=>rw [Qeh hb4] at hb5; cases hb5
     case s11=>rw [Qeh hb4] at hb5; cases hb5
     case m16=>rw [Qeh hb4] at hb5; cases hb5
     case m17=>exact QiH (by unfold kn2; rw [Qlz hb3 hb4])
     case m18=>rw [Qlz hb3 hb4]; exact .refl _
     case m19=>exact Qad (by rw [wJ _ (by omega) (by omega)]; rfl)
     case s12=>exact hb3
     case m20=>exact (by omega:(conj m).length - (z4+1)<(conj m).length - z4)
     case s13=>omega
     case m21=>exact Qhp (QoJ hb3 hb4).2
     case m22=>rw [(QoJ hb3 hb4).1]; exact .refl _
     case m23=>exact Qad (by rw [wJ _ (by omega) (by omega)]; rfl)
     case s14=>exact hb3
     case m24=>exact (by omega:(conj m).length - (z4+1)<(conj m).length - z4)
     case s15=>omega
     all_goals obtain rfl:z4=(conj m).length:=by omega
     case m25 =>
      have h9:QaB t m=t:=if_pos (.inl (by rw [← hz5]; simpa using hb6))
      rw [h9]
      exact .refl (tyP t)
     case m26 =>
      have h9:QaB t m=t:=if_pos (.inr (List.length_eq_zero_iff.1 (by rw [QpK,allK,List.length_append,beq_iff_eq] at hb7; omega)))
      rw [h9]
      exact .refl (tyP t)
     case m27 =>
      rw [QpK] at hb7 ⊢
      have h9:QaB t m=.mk false t.sort (Qaw (allK (conj t.ref) (conj m))) [] []:=if_neg (fun hc=>by
       rcases hc with hc | hc
       · rw [← hz5] at hc; rw [hc] at hb6; cases hb6
       · rw [allK,hc,List.append_nil] at hb7; simp at hb7)
      rw [h9]
      exact .refl (tyP (.mk false t.sort (Qaw (allK (conj t.ref) (conj m))) [] []))
   · cases hs
 · cases hs
end Go.Proofs.YtijfaigpilfpaaaGreatDoor
