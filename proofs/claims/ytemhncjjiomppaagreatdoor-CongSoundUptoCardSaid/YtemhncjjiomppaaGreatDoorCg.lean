/- The law CongSound: what it is made of. -/
import Derived.Test.YtemhncjjiomppaaGreatDoorCh
import Derived.Test.YtemhncjjiomppaaGreatDoorMi
set_option linter.unusedSimpArgs false
namespace Go.Proofs.YtemhncjjiomppaaGreatDoor
open Go.RowKit
set_option linter.unusedVariables false
set_option maxRecDepth 100000
noncomputable def sEval8:Spec2
 | [.f (.dt .dat D),.f (.dt .bnd B),x],[]=>match tmOf x with
  | some t=>some (.need ((t.fitT∧bigT t≤9000)∧fitB 1100000 B∧fitD D) (.nm (Except Int Vw) (evalT D B t) fun z=>.ret (.tup [vlP (valE z0V z),iV (errE z)]) []))
  | none=>none
 | _,_=>none
theorem cEval8 {E:Env} (hU:Up E):Contract2 Tryz.prog E 53 sEval8:=by
 intro xs ob o hs hok
 unfold sEval8 at hs
 split at hs
 · rename_i D B x
   split at hs
   · rename_i t ht
     cases hs
     have h1:sEvalN (t.size+1) [.f (.dt .dat D),.f (.dt .bnd B),x] []=some (.need (t.size<t.size+1∧(t.fitT∧bigT t≤9000)∧fitB 1100000 B∧fitD D) (.nm (Except Int Vw) (evalT D B t) fun z=>.ret (.tup [vlP (valE z0V z),iV (errE z)]) [])):=by simp only [sEvalN,ht]
     have h2:=Qtq hU _ _ _ _ h1 ⟨⟨Nat.lt_succ_self _,hok.1⟩,hok.2⟩
     exact h2
   · cases hs
 · cases hs
theorem cOf8 {E:Env} (hU:Up E):Contract Tryz.prog E 49 sOfM:=by
 refine Qad [(80,sOfM)] [] Tryz.ntmps49 Tryz.func49 (by kernel_rfl) (by kernel_rfl) hU ⟨cOfM hU,trivial⟩ trivial ?_
 intro xs p r hs hp
 unfold sOfM at hs
 split at hs
 · rename_i D s x
   split at hs
   · rename_i v hv
     cases hs
     have hf:=hp _ rfl
     refine ⟨[.f (.dt .dat D),.f (.v (.string s)),vlP v],[],.cons (.refl _) (.cons (.refl _) (.cons (Qbu hv).sub .nil)),rfl,fun _ hsh=>?_⟩
     refine Qab (p:=Vw.fitV 40000000 (etaV v)∧∀ (z1:Bool),z1=ofV D s (etaV v)→true=true∧Sub (bV z1) (bV (ofV D s v))) ?kr ?_
     case kr=>kernel_rfl
     refine ⟨?s0,fun z1=>fun hz1=>⟨rfl,?m0⟩⟩
     all_goals try simp only [etaV] at *
     all_goals try simp only [Vw.eta] at *
     case s0=>exact hf
     case m0=>exact (QaA hz1).sub
   · cases hs
 · cases hs
noncomputable def truth8 (D:List Dat) (B:List Bnd) (t:Tw):Int:=match evalT D B t with
 | .ok v=>if v.kind=2 then (if v.truth=true then 0 else 1) else 2
 | .error _=>2
theorem Qg8 {D:List Dat} {B:List Bnd} {t:Tw} {e:Int} (h:evalT D B t=.error e):truth8 D B t=2:=by unfold truth8; rw [h]
theorem Qji {D:List Dat} {B:List Bnd} {t:Tw} {v:Vw} (h:evalT D B t=.ok v) (hk:¬ v.kind=2):truth8 D B t=2:=by unfold truth8; rw [h]; exact if_neg hk
theorem Qd2 {D:List Dat} {B:List Bnd} {t:Tw} {v:Vw} (h:evalT D B t=.ok v) (hk:v.kind=2):truth8 D B t=if v.truth=true then 0 else 1:=by unfold truth8; rw [h]; exact if_pos hk
theorem QeC {D:List Dat} {B:List Bnd} {t:Tw}:truth8 D B t=0↔QdW D B t:=by
 constructor
 · intro h
   cases hv:evalT D B t with
   | error e=>rw [Qg8 hv] at h; cases h
   | ok v =>
    by_cases hk:v.kind=2
    · rw [Qd2 hv hk] at h
      split at h
      · rename_i ht
        exact ⟨v,hv,hk,ht⟩
      · cases h
    · rw [Qji hv hk] at h; cases h
 · rintro ⟨v,hv,hk,ht⟩
   rw [Qd2 hv hk,if_pos ht]
noncomputable def sTruth8:Spec
 | [.f x,.f y,z]=>match dtOf .dat x,dtOf .bnd y,tmOf z with
  | some D,some B,some t=>some (some ((t.fitT∧bigT t≤9000)∧fitB 1100000 B∧fitD D),.nm Int (truth8 D B t) iV)
  | _,_,_=>none
 | _=>none
theorem Qvj {E:Env} (hU:Up E):Contract Tryz.prog E 21 sTruth8:=by
 refine Qad [] [(53,sEval8)] Tryz.ntmps21 Tryz.func21 (by kernel_rfl) (by kernel_rfl) hU trivial ⟨cEval8 hU,trivial⟩ ?_
 intro xs p r hs hp
 unfold sTruth8 at hs
 split at hs
 · rename_i x y z
   split at hs
   · rename_i D B t h1 h2 h3
     cases hs
     obtain ⟨hc,hB,hD⟩:=hp _ rfl
     refine ⟨[.f (.dt .dat D),.f (.dt .bnd B),tmP t],[],.cons (Qby h1).sub (.cons (Qby h2).sub (.cons (QaS h3).sub .nil)),rfl,fun _ hsh=>?_⟩
     refine Qab (p:=(((etaT t).fitT∧bigT (etaT t)≤9000)∧fitB 1100000 B∧fitD D)∧∀ (z1:Except Int Vw),z1=evalT D B (etaT t)→ifB (errE z1 != (0:Int)) (true=true∧Sub (iV 2) (iV (truth8 D B t))) (ifB ((valE z0V z1).kind != (2:Int)) (true=true∧Sub (iV 2) (iV (truth8 D B t))) (ifB (valE z0V z1).truth (true=true∧Sub (iV 0) (iV (truth8 D B t))) (true=true∧Sub (iV 1) (iV (truth8 D B t)))))) ?kr ?_
     case kr=>kernel_rfl
     refine ⟨?s0,fun z1=>fun hz1=>Qaa.2 ⟨fun hb0=>⟨rfl,?m0⟩,fun hb0=>Qaa.2 ⟨fun hb1=>⟨rfl,?m1⟩,fun hb1=>Qaa.2 ⟨fun hb2=>⟨rfl,?m2⟩,fun hb2=>⟨rfl,?m3⟩⟩⟩⟩⟩
     all_goals try simp only [etaT] at *
     all_goals try simp only [Tw.eta,bne_iff_ne,ne_eq,bne_eq_false_iff_eq] at *
     case s0=>exact ⟨hc,hB,hD⟩
     case m0=>exact (Qai (Qg8 (Qti hz1 hb0)).symm).sub
     all_goals obtain ⟨v,rfl⟩:=ev_is hz1 hb0
     case m1=>exact (Qai (Qji hz1.symm hb1).symm).sub
     case m2=>exact (Qai ((Qd2 hz1.symm hb1).trans (if_pos hb2)).symm).sub
     case m3=>exact (Qai ((Qd2 hz1.symm hb1).trans (if_neg (by rw [show v.truth=false from hb2]; decide))).symm).sub
   · cases hs
 · cases hs
def Qrw (D:List Dat) (S:List Srt) (B:List Bnd):Prop:=S.length=B.length∧∀ i,i<S.length→Srt.name (S.getD i Sh.srt.nil)=Bnd.name (B.getD i Sh.bnd.nil)∧ofV D (Srt.sort (S.getD i Sh.srt.nil)) (Bnd.value (B.getD i Sh.bnd.nil))=true
noncomputable def fitsB (D:List Dat) (S:List Srt) (B:List Bnd):Bool:=@decide (Qrw D S B) (Classical.propDecidable _)
theorem Qgh {D:List Dat} {S:List Srt} {B:List Bnd}:fitsB D S B=true↔Qrw D S B:=by simp [fitsB]
theorem QuX {D:List Dat} {S:List Srt} {B:List Bnd} (h:Qrw D S B):SubB (bV true) (bV (fitsB D S B)):=QaA (Qgh.2 h).symm
theorem QlC {D:List Dat} {S:List Srt} {B:List Bnd} (h:¬ Qrw D S B):SubB (bV false) (bV (fitsB D S B)):=by
 refine QaA ?_
 cases hc:fitsB D S B with
 | true=>exact absurd (Qgh.1 hc) h
 | false=>rfl
noncomputable def sFits:Spec
 | [.f x,.f y,.f z]=>match dtOf .dat x,dtOf .srt y,dtOf .bnd z with
  | some D,some S,some B=>some (some (fitB 40000000 B),.nm Bool (fitsB D S B) bV)
  | _,_,_=>none
 | _=>none
theorem QvT {B:List Bnd} {i:Nat} (h:i<B.length):B.getD i Sh.bnd.nil∈B:=by
 rw [List.getD_eq_getElem?_getD,List.getElem?_eq_getElem h]
 exact List.getElem_mem _
theorem cFits {E:Env} (hU:Up E):Contract Tryz.prog E 18 sFits:=by
 refine Qad [(49,sOfM)] [] Tryz.ntmps18 Tryz.func18 (by kernel_rfl) (by kernel_rfl) hU ⟨cOf8 hU,trivial⟩ trivial ?_
 intro xs p r hs hp
 unfold sFits at hs
 split at hs
 · rename_i x y z
   split at hs
   · rename_i D S B h1 h2 h3
     cases hs
     have hB:=hp _ rfl
     refine ⟨[.f (.dt .dat D),.f (.dt .srt S),.f (.dt .bnd B)],[(4,.s ⟨Nat,fun i=>⟨[(0,.f (.dt .dat D)),(1,.f (.dt .srt S)),(2,.f (.dt .bnd B)),(7,iV i)],[]⟩,fun i=>i≤S.length∧S.length=B.length∧∀ j,j<i→Srt.name (S.getD j Sh.srt.nil)=Bnd.name (B.getD j Sh.bnd.nil)∧ofV D (Srt.sort (S.getD j Sh.srt.nil)) (Bnd.value (B.getD j Sh.bnd.nil))=true,fun i=>S.length - i⟩)],.cons (Qby h1).sub (.cons (Qby h2).sub (.cons (Qby h3).sub .nil)),rfl,fun _ hsh=>?_⟩
     have hSl:=Qay hsh.2.1
     refine Qab (p:=ifB ((↑S.length:Int) != (↑B.length:Int)) (true=true∧Sub (bV false) (bV (fitsB D S B))) (∃ (x1:Nat),(True∧rfB (dP Sh.dat D)∧rfB (dP Sh.srt S)∧rfB (dP Sh.bnd B)∧SubB (iV 0) (iV (↑x1:Int))∧True)∧(x1≤S.length∧S.length=B.length∧∀ (j:Nat),j<x1→(S.getD j Sh.srt.nil).name=(B.getD j Sh.bnd.nil).name∧ofV D (S.getD j Sh.srt.nil).sort (B.getD j Sh.bnd.nil).value=true)∧True∧∀ (z2:Nat),(z2≤S.length∧S.length=B.length∧∀ (j:Nat),j<z2→(S.getD j Sh.srt.nil).name=(B.getD j Sh.bnd.nil).name∧ofV D (S.getD j Sh.srt.nil).sort (B.getD j Sh.bnd.nil).value=true)→True→ifB (decide ((↑z2:Int)<(↑S.length:Int))) (((0:Int)≤(↑z2:Int)∧(↑z2:Int)<(↑S.length:Int))∧((0:Int)≤(↑z2:Int)∧(↑z2:Int)<(↑B.length:Int))∧ifB (!(S.getD (↑z2:Int).toNat Sh.srt.nil).name.toList==(B.getD (↑z2:Int).toNat Sh.bnd.nil).name.toList) (true=true∧Sub (bV false) (bV (fitsB D S B))) (((0:Int)≤(↑z2:Int)∧(↑z2:Int)<(↑S.length:Int))∧((0:Int)≤(↑z2:Int)∧(↑z2:Int)<(↑B.length:Int))∧Vw.fitV 40000000 (etaV ((B.getD (↑z2:Int).toNat Sh.bnd.nil).value))∧∀ (z3:Bool),z3=ofV D (S.getD (↑z2:Int).toNat Sh.srt.nil).sort (etaV ((B.getD (↑z2:Int).toNat Sh.bnd.nil).value))→ifB (!z3) (true=true∧Sub (bV false) (bV (fitsB D S B))) (∃ (x4:Nat),(True∧rfB (dP Sh.dat D)∧rfB (dP Sh.srt S)∧rfB (dP Sh.bnd B)∧SubB (iV (IntKind.i64.wrap ((↑z2:Int)+(1:Int)))) (iV (↑x4:Int))∧True)∧(x4≤S.length∧S.length=B.length∧∀ (j:Nat),j<x4→(S.getD j Sh.srt.nil).name=(B.getD j Sh.bnd.nil).name∧ofV D (S.getD j Sh.srt.nil).sort (B.getD j Sh.bnd.nil).value=true)∧True∧(S.length - x4).succ.le (S.length - z2)))) (true=true∧Sub (bV true) (bV (fitsB D S B))))) ?kr ?_
     case kr=>kernel_rfl
     refine Qaa.2 ⟨fun hb0=>⟨rfl,?m0⟩,fun hb0=>⟨?x0,⟨⟨trivial,⟨.refl _,⟨.refl _,⟨.refl _,⟨?m1,trivial⟩⟩⟩⟩⟩,⟨?s0,⟨trivial,fun z2=>fun hq1=>fun _=>Qaa.2 ⟨fun hb2=>⟨?s1,⟨?s2,Qaa.2 ⟨fun hb3=>⟨rfl,?m2⟩,fun hb3=>⟨?s3,⟨?s4,⟨?s5,fun z3=>fun hz3=>Qaa.2 ⟨fun hb4=>⟨rfl,?m3⟩,fun hb4=>⟨?x1,⟨⟨trivial,⟨.refl _,⟨.refl _,⟨.refl _,⟨?m4,trivial⟩⟩⟩⟩⟩,⟨?s6,⟨trivial,?m5⟩⟩⟩⟩⟩⟩⟩⟩⟩⟩⟩,fun hb2=>⟨rfl,?m6⟩⟩⟩⟩⟩⟩⟩
     all_goals try simp only [etaV] at *
     case x0=>exact 0
     case x1=>exact z2+1
     all_goals try simp only [bs_l,Vw.eta,Int.toNat_natCast,decide_eq_true_eq,decide_eq_false_iff_not,Int.ofNat_lt,bne_iff_ne,ne_eq,bne_eq_false_iff_eq,Int.natCast_inj,Bool.not_eq_true',Bool.not_eq_false'] at *
     case m0=>exact (QlC fun h=>hb0 h.1).sub
     case m1=>exact .refl _
     case s0=>exact ⟨Nat.zero_le _,hb0,fun j hj=>absurd hj (Nat.not_lt_zero j)⟩
     case m2=>exact (QlC fun h=>hb3 (h.2 z2 hb2).1).sub
     case m3=>exact (QlC fun h=>absurd (h.2 z2 hb2).2 (by rw [← hz3,hb4]; decide)).sub
     case m4=>exact Qai (by rw [wJ _ (by omega) (by omega)]; rfl)
     case s5=>exact hB _ (QvT (by omega))
     case s6 =>
      refine ⟨hb2,hb0,fun j hj=>?_⟩
      by_cases hjz:j=z2
      · subst hjz; exact ⟨hb3,hz3.symm.trans hb4⟩
      · exact hq1.2.2 j (by omega)
     case m5=>exact (by omega:S.length - (z2+1)<S.length - z2)
     case m6=>exact (QuX ⟨hb0,fun j hj=>hq1.2.2 j (by omega)⟩).sub
     all_goals omega
   · cases hs
 · cases hs
def dk (d:Dat):List ByteArray:=((⟨#[32]⟩:ByteArray)++d.name)::d.cons.map Cn.name
def dkeys (D:List Dat):List ByteArray:=D.flatMap dk
noncomputable def apartB (D:List Dat):Bool:=@decide (dkeys D).Nodup (Classical.propDecidable _)
noncomputable def sApart:Spec
 | [.f x]=>match dtOf .dat x with
  | some D=>some (some (cntD D≤4000000),.nm Bool (apartB D) bV)
  | none=>none
 | _=>none
def hasS (L:List ByteArray):Kt.T .str→Bool:=fun s=>L.any fun x=>decide (x=s)
def getS:Kt.T .str→List Lf:=fun _=>[.v (.bool true)]
theorem Qm3 {L:List ByteArray} {s:ByteArray} (h:s∈L):hasS L s=true:=List.any_eq_true.2 ⟨s,h,decide_eq_true rfl⟩
theorem Qqz {L:List ByteArray} {s:ByteArray} (h:¬ s∈L):hasS L s=false:=List.any_eq_false.2 fun x hx=>by rw [decide_eq_true_eq]; exact fun e=>h (e ▸ hx)
theorem Qqy {L:List ByteArray} {s:ByteArray} (h:hasS L s=true):s∈L:=by
 obtain ⟨x,hx,he⟩:=List.any_eq_true.1 h
 exact of_decide_eq_true he ▸ hx
theorem Qqx {L:List ByteArray} {s:ByteArray} (h:hasS L s=false):¬ s∈L:=fun c=>by rw [Qm3 c] at h; cases h
theorem Qsd:MapW .str (fun _=>false) (fun _=>[]) [] [] .str (hasS []) getS [] []:=⟨rfl,fun key=>by
 show QmQ none (match hasS [] key with | true=>some (Qcl (getS key)) | false=>none)
 rw [Qqz (fun c=>by cases c)]
 trivial⟩
theorem QjQ {L L':List ByteArray} (h:L=L'):MapW .str (hasS L) getS [] [] .str (hasS L') getS [] []:=by subst h; exact .refl _ _ _ _ _
theorem QmR {L L':List ByteArray} {k:ByteArray} (h:L'=L++[k]):MapW .str (hasS L) getS [k] [.f (.v (.bool true))] .str (hasS L') getS [] []:=⟨rfl,fun key=>by
 subst h
 show QmQ (match Kt.eq .str key k with | true=>some (.f (.v (.bool true))) | false=>(match hasS L key with | true=>some (Qcl (getS key)) | false=>none)) (match hasS (L++[k]) key with | true=>some (Qcl (getS key)) | false=>none)
 by_cases hk:key=k
 · subst hk
   have e1:Kt.eq .str key key=true:=Kt.eq_self key
   rw [e1,Qm3 (List.mem_append_right _ (List.mem_singleton.2 rfl))]
   exact SubB.refl _
 · have e1:Kt.eq .str key k=false:=decide_eq_false hk
   rw [e1]
   by_cases hm:key∈L
   · rw [Qm3 hm,Qm3 (List.mem_append_left _ hm)]
     exact SubB.refl _
   · rw [Qqz hm,Qqz (fun c=>by
      rcases List.mem_append.1 c with c | c
      · exact hm c
      · exact hk (List.mem_singleton.1 c))]
     trivial⟩
theorem Qe1 (d:Dat):(dk d).length=d.cons.length+1:=by simp [dk]
theorem QlG (d:Dat):(dk d).getD 0 Sh.str.nil=(⟨#[32]⟩:ByteArray)++d.name:=rfl
theorem Qu6 (d:Dat) {j:Nat} (h:j<d.cons.length):(dk d).getD (j+1) Sh.str.nil=Cn.name (d.cons.getD j Sh.con.nil):=by
 show (d.cons.map Cn.name).getD j Sh.str.nil=_
 rw [List.getD_eq_getElem?_getD,List.getD_eq_getElem?_getD,List.getElem?_map,List.getElem?_eq_getElem h]
 rfl
theorem QeQ {D:List Dat} {i:Nat} (h:i<D.length):dkeys (D.take (i+1))=dkeys (D.take i)++dk (D.getD i Sh.dat.nil):=by
 unfold dkeys
 rw [List.take_add_one,List.getElem?_eq_getElem h,List.getD_eq_getElem?_getD,List.getElem?_eq_getElem h,List.flatMap_append]
 simp
theorem QcS {l:List ByteArray} {j:Nat} (h:j<l.length):l.take (j+1)=l.take j++[l.getD j Sh.str.nil]:=by
 rw [List.take_add_one,List.getElem?_eq_getElem h,List.getD_eq_getElem?_getD,List.getElem?_eq_getElem h]; rfl
theorem QqQ (d:Dat) {j:Nat} (h1:(j:Int) - 1 ≥ 0) (h2:(j:Int) - 1<(d.cons.length:Int)):(dk d).getD j Sh.str.nil=Cn.name (d.cons.getD ((j:Int) - 1).toNat Sh.con.nil):=by
 obtain ⟨k,rfl⟩:∃ k,j=k+1:=⟨j - 1,by omega⟩
 rw [Qu6 d (by omega),show (((k+1:Nat):Int) - 1).toNat=k by omega]
theorem Qhy:∀ {D:List Dat} {d:Dat},d∈D→d.name.size / 8≤cntD D
 | e::D,d,h=>by
  rw [cntD]
  rcases List.mem_cons.1 h with rfl | h
  · omega
  · have:=Qhy h; omega
theorem QqU {D:List Dat} {i:Nat} (h:i<D.length):D.getD i Sh.dat.nil∈D:=by
 rw [List.getD_eq_getElem?_getD,List.getElem?_eq_getElem h]
 exact List.getElem_mem _
theorem QnE {D:List Dat} {i j:Nat} (hi:i<D.length) (hj:j<(dk (D.getD i Sh.dat.nil)).length) (h:(dk (D.getD i Sh.dat.nil)).getD j Sh.str.nil∈dkeys (D.take i)++(dk (D.getD i Sh.dat.nil)).take j):SubB (bV false) (bV (apartB D)):=by
 refine QaA ?_
 have hno:¬ (dkeys D).Nodup:=fun hn=>by
  have e1:dkeys D=dkeys (D.take (i+1))++dkeys (D.drop (i+1)):=by
   unfold dkeys
   rw [← List.flatMap_append,List.take_append_drop]
  rw [e1,QeQ hi] at hn
  have h2:=(List.nodup_append.1 hn).1
  have e2:dk (D.getD i Sh.dat.nil)=(dk (D.getD i Sh.dat.nil)).take (j+1)++(dk (D.getD i Sh.dat.nil)).drop (j+1):=(List.take_append_drop _ _).symm
  rw [e2,QcS hj,← List.append_assoc,← List.append_assoc] at h2
  have h3:=(List.nodup_append.1 h2).1
  exact (List.nodup_append.1 h3).2.2 _ h _ (List.mem_singleton.2 rfl) rfl
 unfold apartB
 simp [hno]
theorem QjM {X:List ByteArray} {k:ByteArray} (h:X.Nodup) (hk:¬ k∈X):(X++[k]).Nodup:=by
 rw [List.nodup_append]
 exact ⟨h,by simp,fun a ha b hb e=>hk (by rw [List.mem_singleton.1 hb] at e; rw [← e]; exact ha)⟩
theorem cApart {E:Env} (hU:Up E):Contract Tryz.prog E 19 sApart:=by
 refine Qad [] [] Tryz.ntmps19 Tryz.func19 (by kernel_rfl) (by kernel_rfl) hU trivial trivial ?_
 intro xs p r hs hp
 unfold sApart at hs
 split at hs
 · rename_i x
   split at hs
   · rename_i D h1
     cases hs
     have hD:=hp _ rfl
     refine ⟨[.f (.dt .dat D)],[(3,.s ⟨Nat,fun i=>⟨[(0,.f (.dt .dat D)),(3,.wr 0),(4,iV i)],[.map .str (hasS (dkeys (D.take i))) getS [] []]⟩,fun i=>i≤D.length∧(dkeys (D.take i)).Nodup,fun i=>D.length - i⟩),(6,⟨Nat × Nat,fun q=>⟨[(0,.f (.dt .dat D)),(3,.wr 0),(4,iV q.1),(5,iV ((q.2:Int) - 1))],[.map .str (hasS (dkeys (D.take q.1)++(dk (D.getD q.1 Sh.dat.nil)).take q.2)) getS [] []]⟩,fun q=>q.1<D.length∧q.2≤(Dat.cons (D.getD q.1 Sh.dat.nil)).length+1∧(dkeys (D.take q.1)++(dk (D.getD q.1 Sh.dat.nil)).take q.2).Nodup,fun q=>(Dat.cons (D.getD q.1 Sh.dat.nil)).length+1 - q.2,fun x y=>y.1=x.1⟩)],.cons (Qby h1).sub .nil,rfl,fun _ hsh=>?_⟩
     refine Qab (p:=∃ (x1:Nat),((MapW Kt.str (fun (x:Kt.str.T)=>false) (fun (x:Kt.str.T)=>[]) [] [] Kt.str (fun (s:Kt.str.T)=>(dkeys (List.take x1 D)).any fun (x:ByteArray)=>decide (x=s)) (fun (x:Kt.str.T)=>[Lf.v (Value.bool true)]) [] []∧True)∧rfB (dP Sh.dat D)∧rfB (PV.wr 0)∧SubB (iV 0) (iV (↑x1:Int))∧True)∧(x1≤D.length∧(dkeys (List.take x1 D)).Nodup)∧True∧∀ (z2:Nat),z2≤D.length∧(dkeys (List.take z2 D)).Nodup→True→ifB (decide ((↑z2:Int)<(↑D.length:Int))) (∃ (x3:Nat × Nat),((MapW Kt.str (fun (s:Kt.str.T)=>(dkeys (List.take z2 D)).any fun (x:ByteArray)=>decide (x=s)) (fun (x:Kt.str.T)=>[Lf.v (Value.bool true)]) [] [] Kt.str (fun (s:Kt.str.T)=>(dkeys (List.take x3.fst D)++List.take x3.snd (dk (D.getD x3.fst Sh.dat.nil))).any fun (x:ByteArray)=>decide (x=s)) (fun (x:Kt.str.T)=>[Lf.v (Value.bool true)]) [] []∧True)∧rfB (dP Sh.dat D)∧rfB (PV.wr 0)∧SubB (iV (↑z2:Int)) (iV (↑x3.fst:Int))∧SubB (iV (-1:Int)) (iV ((↑x3.snd:Int) - (1:Int)))∧True)∧(x3.fst<D.length∧x3.snd≤(D.getD x3.fst Sh.dat.nil).cons.length+1∧(dkeys (List.take x3.fst D)++List.take x3.snd (dk (D.getD x3.fst Sh.dat.nil))).Nodup)∧x3.fst=x3.fst∧∀ (z4:Nat × Nat),z4.fst<D.length∧z4.snd≤(D.getD z4.fst Sh.dat.nil).cons.length+1∧(dkeys (List.take z4.fst D)++List.take z4.snd (dk (D.getD z4.fst Sh.dat.nil))).Nodup→z4.fst=x3.fst→((0:Int)≤(↑z4.fst:Int)∧(↑z4.fst:Int)<(↑D.length:Int))∧ifB (decide ((↑z4.snd:Int) - (1:Int)<(↑(D.getD (↑z4.fst:Int).toNat Sh.dat.nil).cons.length:Int))) (((0:Int)≤(↑z4.fst:Int)∧(↑z4.fst:Int)<(↑D.length:Int))∧(↑(1+(D.getD (↑z4.fst:Int).toNat Sh.dat.nil).name.size):Int)≤IntKind.i64.max∧ifB (decide ((↑z4.snd:Int) - (1:Int) ≥ (0:Int))) (((0:Int)≤(↑z4.fst:Int)∧(↑z4.fst:Int)<(↑D.length:Int))∧((0:Int)≤(↑z4.snd:Int) - (1:Int)∧(↑z4.snd:Int) - (1:Int)<(↑(D.getD (↑z4.fst:Int).toNat Sh.dat.nil).cons.length:Int))∧ifB (hasS (dkeys (List.take z4.fst D)++List.take z4.snd (dk (D.getD z4.fst Sh.dat.nil))) ((D.getD (↑z4.fst:Int).toNat Sh.dat.nil).cons.getD ((↑z4.snd:Int) - (1:Int)).toNat Sh.con.nil).name) (true=true∧Sub (bV false) (bV (apartB D))) (∃ (x5:Nat × Nat),((MapW Kt.str (fun (s:Kt.str.T)=>(dkeys (List.take z4.fst D)++List.take z4.snd (dk (D.getD z4.fst Sh.dat.nil))).any fun (x:ByteArray)=>decide (x=s)) (fun (x:Kt.str.T)=>[Lf.v (Value.bool true)]) [((D.getD (↑z4.fst:Int).toNat Sh.dat.nil).cons.getD ((↑z4.snd:Int) - (1:Int)).toNat Sh.con.nil).name] [bV true] Kt.str (fun (s:Kt.str.T)=>(dkeys (List.take x5.fst D)++List.take x5.snd (dk (D.getD x5.fst Sh.dat.nil))).any fun (x:ByteArray)=>decide (x=s)) (fun (x:Kt.str.T)=>[Lf.v (Value.bool true)]) [] []∧True)∧rfB (dP Sh.dat D)∧rfB (PV.wr 0)∧SubB (iV (↑z4.fst:Int)) (iV (↑x5.fst:Int))∧SubB (iV (IntKind.i64.wrap ((↑z4.snd:Int) - (1:Int)+(1:Int)))) (iV ((↑x5.snd:Int) - (1:Int)))∧True)∧(x5.fst<D.length∧x5.snd≤(D.getD x5.fst Sh.dat.nil).cons.length+1∧(dkeys (List.take x5.fst D)++List.take x5.snd (dk (D.getD x5.fst Sh.dat.nil))).Nodup)∧x5.fst=x3.fst∧((D.getD x5.fst Sh.dat.nil).cons.length+1 - x5.snd).succ.le ((D.getD z4.fst Sh.dat.nil).cons.length+1 - z4.snd))) (ifB (hasS (dkeys (List.take z4.fst D)++List.take z4.snd (dk (D.getD z4.fst Sh.dat.nil))) (ByteArray.mk #[(32:UInt8)]++(D.getD (↑z4.fst:Int).toNat Sh.dat.nil).name)) (true=true∧Sub (bV false) (bV (apartB D))) (∃ (x5:Nat × Nat),((MapW Kt.str (fun (s:Kt.str.T)=>(dkeys (List.take z4.fst D)++List.take z4.snd (dk (D.getD z4.fst Sh.dat.nil))).any fun (x:ByteArray)=>decide (x=s)) (fun (x:Kt.str.T)=>[Lf.v (Value.bool true)]) [ByteArray.mk #[(32:UInt8)]++(D.getD (↑z4.fst:Int).toNat Sh.dat.nil).name] [bV true] Kt.str (fun (s:Kt.str.T)=>(dkeys (List.take x5.fst D)++List.take x5.snd (dk (D.getD x5.fst Sh.dat.nil))).any fun (x:ByteArray)=>decide (x=s)) (fun (x:Kt.str.T)=>[Lf.v (Value.bool true)]) [] []∧True)∧rfB (dP Sh.dat D)∧rfB (PV.wr 0)∧SubB (iV (↑z4.fst:Int)) (iV (↑x5.fst:Int))∧SubB (iV (IntKind.i64.wrap ((↑z4.snd:Int) - (1:Int)+(1:Int)))) (iV ((↑x5.snd:Int) - (1:Int)))∧True)∧(x5.fst<D.length∧x5.snd≤(D.getD x5.fst Sh.dat.nil).cons.length+1∧(dkeys (List.take x5.fst D)++List.take x5.snd (dk (D.getD x5.fst Sh.dat.nil))).Nodup)∧x5.fst=x3.fst∧((D.getD x5.fst Sh.dat.nil).cons.length+1 - x5.snd).succ.le ((D.getD z4.fst Sh.dat.nil).cons.length+1 - z4.snd)))) (∃ (x5:Nat),((MapW Kt.str (fun (s:Kt.str.T)=>(dkeys (List.take z4.fst D)++List.take z4.snd (dk (D.getD z4.fst Sh.dat.nil))).any fun (x:ByteArray)=>decide (x=s)) (fun (x:Kt.str.T)=>[Lf.v (Value.bool true)]) [] [] Kt.str (fun (s:Kt.str.T)=>(dkeys (List.take x5 D)).any fun (x:ByteArray)=>decide (x=s)) (fun (x:Kt.str.T)=>[Lf.v (Value.bool true)]) [] []∧True)∧rfB (dP Sh.dat D)∧rfB (PV.wr 0)∧SubB (iV (IntKind.i64.wrap ((↑z4.fst:Int)+(1:Int)))) (iV (↑x5:Int))∧True)∧(x5≤D.length∧(dkeys (List.take x5 D)).Nodup)∧True∧(D.length - x5).succ.le (D.length - z2))) (true=true∧Sub (bV true) (bV (apartB D)))) ?kr ?_
     case kr=>kernel_rfl
     refine ⟨?x0,⟨⟨⟨?m0,trivial⟩,⟨.refl _,⟨.refl _,⟨?m1,trivial⟩⟩⟩⟩,⟨?s0,⟨trivial,fun z2=>fun hq0=>fun _=>Qaa.2 ⟨fun hb1=>⟨?x1,⟨⟨⟨?m2,trivial⟩,⟨.refl _,⟨.refl _,⟨?m3,⟨?m4,trivial⟩⟩⟩⟩⟩,⟨?s1,⟨rfl,fun z4=>fun hq2=>fun hq3=>⟨?s2,Qaa.2 ⟨fun hb4=>⟨?s3,⟨?s4,Qaa.2 ⟨fun hb5=>⟨?s5,⟨?s6,Qaa.2 ⟨fun hb6=>⟨rfl,?m5⟩,fun hb6=>⟨?x2,⟨⟨⟨?m6,trivial⟩,⟨.refl _,⟨.refl _,⟨?m7,⟨?m8,trivial⟩⟩⟩⟩⟩,⟨?s7,⟨?s8,?m9⟩⟩⟩⟩⟩⟩⟩,fun hb5=>Qaa.2 ⟨fun hb7=>⟨rfl,?m10⟩,fun hb7=>⟨?x3,⟨⟨⟨?m11,trivial⟩,⟨.refl _,⟨.refl _,⟨?m12,⟨?m13,trivial⟩⟩⟩⟩⟩,⟨?s9,⟨?s10,?m14⟩⟩⟩⟩⟩⟩⟩⟩,fun hb4=>⟨?x4,⟨⟨⟨?m15,trivial⟩,⟨.refl _,⟨.refl _,⟨?m16,trivial⟩⟩⟩⟩,⟨?s11,⟨trivial,?m17⟩⟩⟩⟩⟩⟩⟩⟩⟩⟩,fun hb1=>⟨rfl,?m18⟩⟩⟩⟩⟩⟩
     case x0=>exact 0
     case x1=>exact (z2,0)
     case x2=>exact (z4.1,z4.2+1)
     case x3=>exact (z4.1,z4.2+1)
     case x4=>exact z4.1+1
     all_goals try simp only [decide_eq_true_eq,decide_eq_false_iff_not,Int.toNat_natCast,Int.ofNat_lt] at *
     case m0=>exact Qsd
     case m1=>exact .refl _
     case s0=>exact ⟨Nat.zero_le _,by simp [dkeys]⟩
     case m2=>exact QjQ (by simp)
     case m3=>exact .refl _
     case m4=>exact .refl _
     case s1=>exact ⟨hb1,Nat.zero_le _,by simpa using hq0.2⟩
     case m18 =>
      have e:z2=D.length:=by omega
      have h2:=hq0.2
      rw [e,List.take_length] at h2
      exact (QaA (by simp [apartB,h2])).sub
     all_goals obtain ⟨i,j⟩:=z4
     all_goals dsimp only at *
     all_goals obtain ⟨hi,hj,hnd⟩:=hq2
     all_goals subst hq3
     all_goals have hcl:=Nat.le_trans (Qfw _) (Qnn (QqU hi))
     all_goals have hnl:=Qhy (QqU hi)
     all_goals have hdl:=Qay hsh.1
     case s4=>show ((1+(Dat.name (D.getD i Sh.dat.nil)).size:Nat):Int)≤9223372036854775807; omega
     case m5=>exact (QnE hi (j:=j) (by rw [Qe1]; omega) (by rw [QqQ _ hb5 hb4]; exact Qqy hb6)).sub
     case m6=>exact QmR (by rw [QcS (by rw [Qe1]; omega),QqQ _ hb5 hb4,List.append_assoc])
     case m7=>exact .refl _
     case m8=>exact Qai (by rw [wJ _ (by omega) (by omega)]; omega)
     case s7 =>
      refine ⟨hi,by omega,?_⟩
      rw [QcS (by rw [Qe1]; omega),QqQ _ hb5 hb4,← List.append_assoc]
      exact QjM hnd (Qqx hb6)
     case m9=>exact (by omega:(Dat.cons (D.getD i Sh.dat.nil)).length+1 - (j+1)<(Dat.cons (D.getD i Sh.dat.nil)).length+1 - j)
     case m15 =>
      have e:j=(dk (D.getD i Sh.dat.nil)).length:=by rw [Qe1]; omega
      exact QjQ (by rw [e,List.take_length,QeQ hi])
     case m16=>exact Qai (by rw [wJ _ (by omega) (by omega)]; rfl)
     case s11 =>
      have e:j=(dk (D.getD i Sh.dat.nil)).length:=by rw [Qe1]; omega
      rw [e,List.take_length,← QeQ hi] at hnd
      exact ⟨hi,hnd⟩
     case m17=>exact (by omega:D.length - (i+1)<D.length - i)
     case s8=>rfl
     case s10=>rfl
     case m10 =>
      obtain rfl:j=0:=by omega
      exact (QnE hi (j:=0) (by rw [Qe1]; omega) (by rw [QlG]; exact Qqy hb7)).sub
     case m11 =>
      obtain rfl:j=0:=by omega
      exact QmR (by rw [QcS (by rw [Qe1]; omega),QlG,List.append_assoc])
     case m12=>exact .refl _
     case m13=>exact Qai (by rw [wJ _ (by omega) (by omega)]; omega)
     case s9 =>
      obtain rfl:j=0:=by omega
      refine ⟨hi,by omega,?_⟩
      rw [QcS (by rw [Qe1]; omega),QlG,← List.append_assoc]
      exact QjM hnd (Qqx hb7)
     case m14=>exact (by omega:(Dat.cons (D.getD i Sh.dat.nil)).length+1 - (j+1)<(Dat.cons (D.getD i Sh.dat.nil)).length+1 - j)
     all_goals omega
   · cases hs
 · cases hs
end Go.Proofs.YtemhncjjiomppaaGreatDoor
