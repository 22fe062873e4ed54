/- The layer model: what is of a sort; memory of its own. -/
import Derived.Test.YtpjjdngoblfleaaGreatMa
namespace Go.Proofs.YtpjjdngoblfleaaGreat
open Go.RowKit
set_option linter.unusedVariables false
set_option maxRecDepth 100000
theorem ofVL_at {D:List Dat}:∀ {l:List ByteArray} {m:List Vw} {i:Nat} (s:ByteArray) (d:Vw),i<l.length→i<m.length→ofV D (l.getD i s) (m.getD i d)=false→ofVL D l m=false
 | a::l,v::m,0,s,d,_,_,h=>by
  have h:ofV D a v=false:=by simpa using h
  simp only [ofVL,h,Bool.false_and]
 | a::l,v::m,i+1,s,d,h1,h2,h=>by
  simp only [ofVL]
  rw [ofVL_at (l:=l) (m:=m) (i:=i) s d (by simpa using h1) (by simpa using h2) (by simpa using h),Bool.and_false]
theorem ofVL_all {D:List Dat}:∀ {l:List ByteArray} {m:List Vw} (s:ByteArray) (d:Vw),l.length=m.length→(∀ i,i<l.length→ofV D (l.getD i s) (m.getD i d)=true)→ofVL D l m=true
 | [],m,s,d,_,_=>by cases m <;> rfl
 | a::l,[],s,d,h,_=>by simp at h
 | a::l,v::m,s,d,h,hi=>by
  have h0:ofV D a v=true:=by simpa using hi 0 (by simp)
  simp only [ofVL,h0,Bool.true_and]
  exact ofVL_all (l:=l) (m:=m) s d (by simpa using h) fun i hil=>by simpa using hi (i+1) (by simpa using hil)
theorem by_cases_len {α:Type} (l:List α):((l.length:Int)==0)=decide (l.length=0):=by
 cases l with
 | nil=>rfl
 | cons a m=>exact (decide_eq_false (by simp; omega)).trans (decide_eq_false (by simp)).symm
def sOfMN (n:Nat):Spec
 | [.f (.dt .dat D),.f (.v (.string s)),x]=>match vlOf x with
  | some v=>some (some (v.size<n∧v.fitV 40000000),.nm Bool (ofV D s v) bV)
  | none=>none
 | _=>none
theorem cOfMN {E:Env} (hU:Up E):∀ n,Contract Tryz.prog E 26 (sOfMN n)
 | 0=>by
  intro xs p r hs hp
  unfold sOfMN at hs
  split at hs
  · split at hs
    · cases hs
      exact absurd (hp _ rfl).1 (Nat.not_lt_zero _)
    · cases hs
  · cases hs
 | n+1=>by
  refine contract_D [(64,sNoneM),(65,sRight),(66,sConM),(67,sDataM),(68,sFlds),(26,sOfMN n)] [] Tryz.ntmps26 Tryz.func26 (by kernel_rfl) (by kernel_rfl) hU ⟨cNoneM hU,cRight hU,cConM hU,cDataM hU,cFlds hU,cOfMN hU n,trivial⟩ trivial ?_
  intro xs p r hs hp
  unfold sOfMN at hs
  split at hs
  · rename_i D s x
    split at hs
    · rename_i v hv
      cases hs
      obtain ⟨hn,hf⟩:=hp _ rfl
      have f2:=(Vw.fitV_eq _ v).1 hf
      refine ⟨[.f (.dt .dat D),.f (.v (.string s)),vlP v],[(20,.s ⟨Nat,fun i=>⟨[(0,.f (.dt .dat D)),(5,.bp 0 0),(72,.f (.dt .str (fldsM D ((conM D v.name 0).getD (0,0))))),(73,iV v.fields.length),(74,iV i)],[.cells (wrapF (vlC v))]⟩,fun i=>i≤v.fields.length∧(fldsM D ((conM D v.name 0).getD (0,0))).length=v.fields.length∧∀ k,k<i→ofV D ((fldsM D ((conM D v.name 0).getD (0,0))).getD k Sh.str.nil) (v.fields.getD k Sh.vl.nil)=true,fun i=>v.fields.length - i⟩)],.cons (.refl _) (.cons (.refl _) (.cons (vl_sub hv).sub .nil)),rfl,fun _ hsh=>?_⟩
      refine cast_rfl (p:=∀ (z1:Bool),z1=noneB (Vw.mk v.kind v.neg v.digits v.truth v.name v.fields)→ifB (!z1) (true=true∧Sub (bV false) (bV (ofV D s v))) (ifB (v.kind==(1:Int)) (ifB (s.toList==(ByteArray.mk #[(105:UInt8),(110:UInt8),(116:UInt8)]).toList) (v.digits.length≤100000000∧true=true∧Sub (bV (rightZ v.neg v.digits)) (bV (ofV D s v))) (true=true∧Sub (bV false) (bV (ofV D s v)))) (ifB (v.kind==(2:Int)) (true=true∧Sub (bV (s.toList==(ByteArray.mk #[(98:UInt8),(111:UInt8),(111:UInt8),(108:UInt8)]).toList)) (bV (ofV D s v))) (ifB (v.kind==(3:Int)) (∀ (z2:Option (Nat × Nat)),z2=conM D v.name 0→∀ (z3:Bool),z3=dataB D s→ifB (!z3) (true=true∧Sub (bV false) (bV (ofV D s v))) (ifB (v.name.toList==(ByteArray.mk #[]).toList) (true=true∧Sub (bV ((↑v.fields.length:Int)==(0:Int))) (bV (ofV D s v))) (ifB (!z2.isSome) (true=true∧Sub (bV false) (bV (ofV D s v))) (((0:Int)≤(↑(z2.getD (0,0)).fst:Int)∧(↑(z2.getD (0,0)).fst:Int)<(↑D.length:Int))∧ifB (!(D.getD (↑(z2.getD (0,0)).fst:Int).toNat Sh.dat.nil).name.toList==s.toList) (true=true∧Sub (bV false) (bV (ofV D s v))) (((0:Int)≤(↑(z2.getD (0,0)).fst:Int)∧(0:Int)≤(↑(z2.getD (0,0)).snd:Int)∧(↑(z2.getD (0,0)).fst:Int)<(↑D.length:Int)∧(↑(z2.getD (0,0)).snd:Int)<(↑(D.getD (↑(z2.getD (0,0)).fst:Int).toNat Sh.dat.nil).cons.length:Int))∧ifB ((↑(fldsM D ((↑(z2.getD (0,0)).fst:Int).toNat,(↑(z2.getD (0,0)).snd:Int).toNat)).length:Int) != (↑v.fields.length:Int)) (true=true∧Sub (bV false) (bV (ofV D s v))) (((0:Int)≤(↑(z2.getD (0,0)).fst:Int)∧(0:Int)≤(↑(z2.getD (0,0)).snd:Int)∧(↑(z2.getD (0,0)).fst:Int)<(↑D.length:Int)∧(↑(z2.getD (0,0)).snd:Int)<(↑(D.getD (↑(z2.getD (0,0)).fst:Int).toNat Sh.dat.nil).cons.length:Int))∧∃ (x4:Nat),(((SubB (PV.f (Lf.v (Value.int IntKind.u8 v.kind))) (PV.f (Lf.v (Value.int IntKind.u8 v.kind)))∧SubB (bV v.neg) (bV v.neg)∧SubB (PV.f (Lf.lr v.digits v.digits.length)) (PV.f (Lf.lr v.digits v.digits.length))∧SubB (bV v.truth) (bV v.truth)∧SubB (sV v.name) (sV v.name)∧SubB (PV.f (Lf.dt Sh.vl v.fields)) (PV.f (Lf.dt Sh.vl v.fields))∧True)∧True)∧SubB (PV.f (Lf.dt Sh.dat D)) (PV.f (Lf.dt Sh.dat D))∧SubB (PV.bp 0 0) (PV.bp 0 0)∧SubB (PV.f (Lf.dt Sh.str (fldsM D ((↑(z2.getD (0,0)).fst:Int).toNat,(↑(z2.getD (0,0)).snd:Int).toNat)))) (PV.f (Lf.dt Sh.str (fldsM D ((conM D v.name 0).getD (0,0)))))∧SubB (iV (↑(fldsM D ((↑(z2.getD (0,0)).fst:Int).toNat,(↑(z2.getD (0,0)).snd:Int).toNat)).length:Int)) (iV (↑v.fields.length:Int))∧SubB (iV 0) (iV (↑x4:Int))∧True)∧(x4≤v.fields.length∧(fldsM D ((conM D v.name 0).getD (0,0))).length=v.fields.length∧∀ (k:Nat),k<x4→ofV D ((fldsM D ((conM D v.name 0).getD (0,0))).getD k Sh.str.nil) (v.fields.getD k Sh.vl.nil)=true)∧True∧∀ (z5:Nat),(z5≤v.fields.length∧(fldsM D ((conM D v.name 0).getD (0,0))).length=v.fields.length∧∀ (k:Nat),k<z5→ofV D ((fldsM D ((conM D v.name 0).getD (0,0))).getD k Sh.str.nil) (v.fields.getD k Sh.vl.nil)=true)→True→ifB (decide ((↑z5:Int)<(↑v.fields.length:Int))) (((0:Int)≤(↑z5:Int)∧(↑z5:Int)<(↑(fldsM D ((conM D v.name 0).getD (0,0))).length:Int))∧((0:Int)≤(↑z5:Int)∧(↑z5:Int)<(↑v.fields.length:Int))∧((Vw.mk (Vw.kind (v.fields.getD (↑z5:Int).toNat Sh.vl.nil)) (Vw.neg (v.fields.getD (↑z5:Int).toNat Sh.vl.nil)) (Vw.digits (v.fields.getD (↑z5:Int).toNat Sh.vl.nil)) (Vw.truth (v.fields.getD (↑z5:Int).toNat Sh.vl.nil)) (Vw.name (v.fields.getD (↑z5:Int).toNat Sh.vl.nil)) (Vw.fields (v.fields.getD (↑z5:Int).toNat Sh.vl.nil))).size<n∧Vw.fitV 40000000 (Vw.mk (Vw.kind (v.fields.getD (↑z5:Int).toNat Sh.vl.nil)) (Vw.neg (v.fields.getD (↑z5:Int).toNat Sh.vl.nil)) (Vw.digits (v.fields.getD (↑z5:Int).toNat Sh.vl.nil)) (Vw.truth (v.fields.getD (↑z5:Int).toNat Sh.vl.nil)) (Vw.name (v.fields.getD (↑z5:Int).toNat Sh.vl.nil)) (Vw.fields (v.fields.getD (↑z5:Int).toNat Sh.vl.nil))))∧∀ (z6:Bool),z6=ofV D ((fldsM D ((conM D v.name 0).getD (0,0))).getD (↑z5:Int).toNat Sh.str.nil) (Vw.mk (Vw.kind (v.fields.getD (↑z5:Int).toNat Sh.vl.nil)) (Vw.neg (v.fields.getD (↑z5:Int).toNat Sh.vl.nil)) (Vw.digits (v.fields.getD (↑z5:Int).toNat Sh.vl.nil)) (Vw.truth (v.fields.getD (↑z5:Int).toNat Sh.vl.nil)) (Vw.name (v.fields.getD (↑z5:Int).toNat Sh.vl.nil)) (Vw.fields (v.fields.getD (↑z5:Int).toNat Sh.vl.nil)))→ifB (!z6) (true=true∧Sub (bV false) (bV (ofV D s v))) (∃ (x7:Nat),(((SubB (PV.f (Lf.v (Value.int IntKind.u8 v.kind))) (PV.f (Lf.v (Value.int IntKind.u8 v.kind)))∧SubB (bV v.neg) (bV v.neg)∧SubB (PV.f (Lf.lr v.digits v.digits.length)) (PV.f (Lf.lr v.digits v.digits.length))∧SubB (bV v.truth) (bV v.truth)∧SubB (sV v.name) (sV v.name)∧SubB (PV.f (Lf.dt Sh.vl v.fields)) (PV.f (Lf.dt Sh.vl v.fields))∧True)∧True)∧SubB (PV.f (Lf.dt Sh.dat D)) (PV.f (Lf.dt Sh.dat D))∧SubB (PV.bp 0 0) (PV.bp 0 0)∧SubB (PV.f (Lf.dt Sh.str (fldsM D ((conM D v.name 0).getD (0,0))))) (PV.f (Lf.dt Sh.str (fldsM D ((conM D v.name 0).getD (0,0)))))∧SubB (iV (↑v.fields.length:Int)) (iV (↑v.fields.length:Int))∧SubB (iV (IntKind.i64.wrap ((↑z5:Int)+(1:Int)))) (iV (↑x7:Int))∧True)∧(x7≤v.fields.length∧(fldsM D ((conM D v.name 0).getD (0,0))).length=v.fields.length∧∀ (k:Nat),k<x7→ofV D ((fldsM D ((conM D v.name 0).getD (0,0))).getD k Sh.str.nil) (v.fields.getD k Sh.vl.nil)=true)∧True∧(v.fields.length - x7).succ.le (v.fields.length - z5))) (true=true∧Sub (bV true) (bV (ofV D s v))))))))) (true=true∧Sub (bV false) (bV (ofV D s v))))))) ?kr ?_
      case kr=>kernel_rfl
      refine fun z1=>fun hz1=>ifB_iff.2 ⟨fun hb0=>⟨rfl,?m0⟩,fun hb0=>ifB_iff.2 ⟨fun hb1=>ifB_iff.2 ⟨fun hb2=>⟨?s0,⟨rfl,?m1⟩⟩,fun hb2=>⟨rfl,?m2⟩⟩,fun hb1=>ifB_iff.2 ⟨fun hb3=>⟨rfl,?m3⟩,fun hb3=>ifB_iff.2 ⟨fun hb4=>fun z2=>fun hz2=>fun z3=>fun hz3=>ifB_iff.2 ⟨fun hb5=>⟨rfl,?m4⟩,fun hb5=>ifB_iff.2 ⟨fun hb6=>⟨rfl,?m5⟩,fun hb6=>ifB_iff.2 ⟨fun hb7=>⟨rfl,?m6⟩,fun hb7=>⟨?s1,ifB_iff.2 ⟨fun hb8=>⟨rfl,?m7⟩,fun hb8=>⟨?s2,ifB_iff.2 ⟨fun hb9=>⟨rfl,?m8⟩,fun hb9=>⟨?s3,⟨?x0,⟨⟨⟨⟨.refl _,⟨.refl _,⟨.refl _,⟨.refl _,⟨.refl _,⟨.refl _,trivial⟩⟩⟩⟩⟩⟩,trivial⟩,⟨.refl _,⟨.refl _,⟨?m9,⟨?m10,⟨?m11,trivial⟩⟩⟩⟩⟩⟩,⟨?s4,⟨trivial,fun z5=>fun hq10=>fun _=>ifB_iff.2 ⟨fun hb11=>⟨?s5,⟨?s6,⟨?s7,fun z6=>fun hz6=>ifB_iff.2 ⟨fun hb12=>⟨rfl,?m12⟩,fun hb12=>⟨?x1,⟨⟨⟨⟨.refl _,⟨.refl _,⟨.refl _,⟨.refl _,⟨.refl _,⟨.refl _,trivial⟩⟩⟩⟩⟩⟩,trivial⟩,⟨.refl _,⟨.refl _,⟨.refl _,⟨.refl _,⟨?m13,trivial⟩⟩⟩⟩⟩⟩,⟨?s8,⟨trivial,?m14⟩⟩⟩⟩⟩⟩⟩⟩,fun hb11=>⟨rfl,?m15⟩⟩⟩⟩⟩⟩⟩⟩⟩⟩⟩⟩⟩⟩,fun hb4=>⟨rfl,?m16⟩⟩⟩⟩⟩
      case x0=>exact 0
      case x1=>exact z5+1
      all_goals try simp only [bs_l,Vw.eta,decide_eq_true_eq,decide_eq_false_iff_not,Int.toNat_natCast,beq_iff_eq,beq_eq_false_iff_ne,bne_iff_ne,bne_eq_false_iff_eq,ne_eq,Bool.not_eq_true',Bool.not_eq_false',Int.natCast_inj] at *
      all_goals have he:=ofV_eq D s v
      all_goals have hI:bInt=ByteArray.mk #[(105:UInt8),(110:UInt8),(116:UInt8)]:=rfl
      all_goals have hB:bBool=ByteArray.mk #[(98:UInt8),(111:UInt8),(111:UInt8),(108:UInt8)]:=rfl
      all_goals try refine (subB_b ?_).sub
      case m0=>rw [he,← hz1,hb0]; rfl
      case s0=>have:=f2.2.1; omega
      case m1=>rw [he,← hz1,hb0,if_pos hb1,hI,← hb2]; simp
      case m2=>rw [he,← hz1,hb0,if_pos hb1,hI]; simp [hb2]
      case m3=>rw [he,← hz1,hb0,if_neg hb1,if_pos hb3,hB]; simp
      all_goals try rw [← hz1,hb0,if_neg hb1,if_neg hb3] at he
      case m16=>rw [he,if_neg hb4]; rfl
      all_goals rw [if_pos hb4,← hz3] at he
      case m4=>rw [he,hb5]; rfl
      all_goals rw [hb5] at he
      case m5=>rw [he,if_pos hb6,Bool.true_and,Bool.true_and]; exact (by_cases_len v.fields)
      all_goals have hp0:∀ q,z2=some q→0≤q.1∧q.1 - 0<D.length∧q.2<((D.getD (q.1 - 0) Sh.dat.nil).cons).length:=fun q hq=>conM_in (hz2.symm.trans hq)
      all_goals rw [if_neg hb6] at he
      all_goals generalize conM D v.name 0=cp at *
      all_goals subst hz2
      case m6 =>
       cases z2 with
       | none=>rw [he]; rfl
       | some p=>cases hb7
      all_goals cases z2 with
       | none=>cases hb7
       | some p=>_
      all_goals obtain ⟨-,hp1,hp2⟩:=hp0 p rfl
      all_goals simp only [Option.getD_some,Nat.sub_zero,Bool.true_and] at *
      all_goals have hq0:(fldsM D p)=(fldsM D (p.1,p.2)):=rfl
      case s1=>omega
      case m7=>rw [he,decide_eq_false hb8]; rfl
      all_goals rw [decide_eq_true hb8,Bool.true_and] at he
      case s2=>exact ⟨by omega,by omega,by omega,by omega⟩
      case m8=>rw [he,decide_eq_false hb9]; rfl
      all_goals rw [decide_eq_true hb9,Bool.true_and] at he
      case s3=>exact ⟨by omega,by omega,by omega,by omega⟩
      case m9=>exact .refl _
      case m10=>exact subB_i (by rw [hb9])
      case m11=>exact .refl _
      case s4=>exact ⟨Nat.zero_le _,hb9,fun k hk=>by omega⟩
      case s5=>have:=hq10.2.1; omega
      case s6=>omega
      case s7 =>
       have h1:=fld_size (t:=v) (i:=z5) Sh.vl.nil (by omega)
       exact ⟨by omega,fitVL_at _ f2.2.2.2 (by omega)⟩
      case m12=>rw [he,ofVL_at Sh.str.nil Sh.vl.nil (i:=z5) (by have:=hq10.2.1; omega) (by omega) (by rw [← hz6,hb12])]
      case m13=>exact subB_i (by rw [wJ _ (by omega) (by omega)]; rfl)
      case s8 =>
       refine ⟨by omega,hb9,fun k hk=>?_⟩
       by_cases hkz:k=z5
       · subst hkz; rw [← hz6,hb12]
       · exact hq10.2.2 k (by omega)
      case m14=>exact (by omega:v.fields.length - (z5+1)<v.fields.length - z5)
      case m15=>rw [he]; exact (ofVL_all Sh.str.nil Sh.vl.nil hb9 fun i hi=>hq10.2.2 i (by have:=hq10.2.1; omega)).symm
    · cases hs
  · cases hs
def sOfM:Spec
 | [.f (.dt .dat D),.f (.v (.string s)),x]=>match vlOf x with
  | some v=>some (some (v.fitV 40000000),.nm Bool (ofV D s v) bV)
  | none=>none
 | _=>none
theorem cOfM {E:Env} (hU:Up E):Contract Tryz.prog E 26 sOfM:=by
 intro xs p r hs hp
 unfold sOfM at hs
 split at hs
 · rename_i D s x
   split at hs
   · rename_i v hv
     cases hs
     exact cOfMN hU (v.size+1) [.f (.dt .dat D),.f (.v (.string s)),x] _ _ (by simp only [sOfMN,hv]; rfl) (fun q hq=>by cases hq; exact ⟨Nat.lt_succ_self _,hp _ rfl⟩)
   · cases hs
 · cases hs
end Go.Proofs.YtpjjdngoblfleaaGreat
