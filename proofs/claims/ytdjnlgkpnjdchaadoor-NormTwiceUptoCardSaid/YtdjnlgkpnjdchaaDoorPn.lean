/- The contracts of the layer num. -/
import Derived.Test.YtdjnlgkpnjdchaaDoorPl
namespace Go.Proofs.YtdjnlgkpnjdchaaDoor
open Go.RowKit
set_option linter.unusedVariables false
set_option maxRecDepth 100000
section
variable {E : Env}
theorem cTrimN:Contract Tryd.prog E 167 sTrimL:=by
 intro xs p r hs hp w H vs hf hE hvs
 unfold sTrimL at hs
 split at hs
 · rename_i x
   split at hs
   · rename_i l k hx
     cases hs
     have hk:=hp _ rfl
     obtain ⟨v,rfl,hv⟩:=one_arg hvs
     obtain ⟨h1,h2,h3⟩:=limL_rd hx hv.rd hf
     refine (natTrim_any v l w h1 (by omega) h3).mono ?_
     rintro e w' ⟨u,rfl,ho,hbl⟩
     exact ⟨_,u,rfl,ext_all hf hbl,own_lP ho (zb_vB h3 h2)⟩
   · cases hs
 · cases hs
end
end Go.Proofs.YtdjnlgkpnjdchaaDoor
namespace Go.Proofs.YtdjnlgkpnjdchaaDoor
open Go.RowKit
set_option linter.unusedVariables false
set_option maxRecDepth 100000
def nP (z:Int) (k:Nat):PV:=.agg [.f (.zd z k),.f (.zn z)]
def sZeroN:Spec
 | [.agg [.f x]]=>match limL x with
  | some (l,k)=>some (none,.one (.f (.v (.bool (((l.length:Nat):Int)==0)))))
  | none=>none
 | _=>none
def sMade:Spec
 | [.f x,.f (.v (.bool n))]=>match limL x with
  | some (l,k)=>some (some (k≤100000000),.nm Int (zV n l) fun z=>nP z (k+1))
  | none=>none
 | _=>none
theorem sub_zda {a b:Int} {k:Nat} (h:a.natAbs=b.natAbs):Sub (.f (.zd a k)) (.f (.zd b k)):=⟨fun H v hv=>by
 have hr:=hv.rd
 have hg:ZB a k:=hr.good'
 refine .f ?_
 cases hr with
 | sl hv2 hgd hc hm h0 bb o val hb hcell hkk hrec=>exact .sl (f:=.zd b k) (by rw [← hv2]; simp only [Lf.view,h]) (show ZB b k by unfold ZB at hg ⊢; rw [← h]; exact hg) hc hm h0 bb o val hb hcell hkk hrec⟩
theorem nP_sub {a z:Int} {b:Bool} {k:Nat} (hz:a.natAbs=z.natAbs) (hb:b=zNeg z):Sub (.agg [.f (.zd a k),.f (.v (.bool b))]) (.agg [.f (.zd z k),.f (.zn z)]):=by
 subst hb
 refine ⟨fun H v hv=>?_⟩
 obtain ⟨vs,rfl,h1⟩:=PRs.of_agg hv
 match vs,h1.1 with
 | [p,q],_ =>
  have a1:=(h1.2 1 _ _ rfl rfl).val
  subst a1
  exact (PRs.cons ((sub_zda hz).out _ _ (h1.2 0 _ _ rfl rfl)) (.cons (.f (.zn _)) .nil)).agg
theorem len_zero (n:Nat):(((digs 1000000000 n).length:Int)==0)=decide (n=0):=by
 rw [Bool.eq_iff_iff,beq_iff_eq,decide_eq_true_eq]
 constructor
 · intro h
   have h1:=val_digs 1000000000 (by omega) n
   rw [List.length_eq_zero_iff.1 (show (digs 1000000000 n).length=0 by omega)] at h1
   exact h1.symm
 · intro h; subst h; rw [digs_zero]; rfl
def sOutN:Spec
 | [.agg [.f (.zd z k),.f (.zn z')]]=>some (some (z=z'),.one (zP z k))
 | _=>none
theorem nP_less {z:Int} {k k':Nat} (h:ZB z k'):Sub (nP z k) (nP z k'):=by
 refine ⟨fun H v hv=>?_⟩
 obtain ⟨vs,rfl,h1⟩:=PRs.of_agg hv
 match vs,h1.1 with
 | [p,q],_=>exact (PRs.cons ((sub_zd h).out _ _ (h1.2 0 _ _ rfl rfl)) (.cons (h1.2 1 _ _ rfl rfl) .nil)).agg
section
variable {E : Env} (hU : Up E)
include hU
theorem cZeroN:Contract Tryd.prog E 168 sZeroN:=by
 refine contract_loopsG [] Tryd.ntmps168 Tryd.func168 (by kernel_rfl) (by kernel_rfl) hU trivial ?_
 intro xs p r hs hp
 unfold sZeroN at hs
 split at hs
 · rename_i x
   split at hs
   · rename_i l k hx
     cases hs
     refine ⟨[.agg [.f (.lr l k)]],[],.cons ⟨fun H v hv=>by
      obtain ⟨vs,rfl,h1⟩:=PRs.of_agg hv
      match vs,h1.1 with
      | [p],_=>exact (PRs.cons ((limL_sub hx).out _ _ (h1.2 0 _ _ rfl rfl)) .nil).agg⟩ .nil,rfl,fun hgx hg=>?_⟩
     refine cast_rfl (p:=true=true∧Sub (PV.f (Lf.v (Value.bool ((↑l.length:Int)==(0:Int))))) (PV.f (Lf.v (Value.bool ((↑l.length:Int)==(0:Int)))))) (by kernel_rfl) ?_
     refine ⟨rfl,?m0⟩
     case m0=>exact .refl _
   · cases hs
 · cases hs
theorem cMade:Contract Tryd.prog E 137 sMade:=by
 refine contract_loopsG [(167,sTrimL),(168,sZeroN)] Tryd.ntmps137 Tryd.func137 (by kernel_rfl) (by kernel_rfl) hU ⟨cTrimN,cZeroN hU,trivial⟩ ?_
 intro xs p r hs hp
 unfold sMade at hs
 split at hs
 · rename_i x n
   split at hs
   · rename_i l k hx
     cases hs
     have hk:=hp _ rfl
     refine ⟨[.f (.lr l k),.f (.v (.bool n))],[],.cons (limL_sub hx) (.cons (.refl _) .nil),rfl,fun hgx hg=>?_⟩
     refine cast_rfl (p:=k≤100000000∧∀ (z1:Nat),z1=vB l→ifB n (true=true∧Sub (PV.agg [PV.f (Lf.zd (↑z1:Int) (k+1)),PV.f (Lf.v (Value.bool !(↑(digs 1000000000 (↑z1:Int).natAbs).length:Int)==(0:Int)))]) (PV.agg [PV.f (Lf.zd (zV n l) (k+1)),PV.f (Lf.zn (zV n l))])) (true=true∧Sub (PV.agg [PV.f (Lf.zd (↑z1:Int) (k+1)),PV.f (Lf.v (Value.bool false))]) (PV.agg [PV.f (Lf.zd (zV n l) (k+1)),PV.f (Lf.zn (zV n l))]))) (by kernel_rfl) ?_
     refine ⟨?s0,fun z1=>fun hz1=>ifB_iff.2 ⟨fun hb0=>⟨rfl,?m0⟩,fun hb0=>⟨rfl,?m1⟩⟩⟩
     case s0=>exact hk
     case m0 =>
      subst hb0
      rw [show zV true l=zOf true (vB l) from rfl,← hz1,zOf_true]
      refine nP_sub (by rw [Int.natAbs_neg]) ?_
      rw [Int.natAbs_natCast,len_zero]
      unfold zNeg
      rw [Bool.eq_iff_iff,Bool.not_eq_true',decide_eq_false_iff_not,decide_eq_true_eq]
      omega
     case m1 =>
      subst hb0
      rw [show zV false l=zOf false (vB l) from rfl,← hz1,zOf_false]
      exact nP_sub rfl (by unfold zNeg; rw [decide_eq_false (by omega)])
   · cases hs
 · cases hs
theorem cOutN:Contract Tryd.prog E 94 sOutN:=by
 refine contract_loopsG [] Tryd.ntmps94 Tryd.func94 (by kernel_rfl) (by kernel_rfl) hU trivial ?_
 intro xs p r hs hp
 unfold sOutN at hs
 split at hs
 · rename_i z k z'
   cases hs
   obtain rfl:=hp _ rfl
   refine ⟨[nP z k],[],.cons (.refl _) .nil,rfl,fun hgx hg=>?_⟩
   refine cast_rfl (p:=true=true∧Sub (PV.agg [PV.f (Lf.v (Value.bool (zNeg z))),PV.f (Lf.zd z k)]) (PV.agg [PV.f (Lf.zn z),PV.f (Lf.zd z k)])) (by kernel_rfl) ?_
   refine ⟨rfl,?m0⟩
   case m0 =>
    refine ⟨fun H v hv=>?_⟩
    obtain ⟨vs,rfl,h1⟩:=PRs.of_agg hv
    match vs,h1.1 with
    | [p,q],_ =>
     have a0:=(h1.2 0 _ _ rfl rfl).val
     subst a0
     exact (PRs.cons (.f (.zn _)) (.cons (h1.2 1 _ _ rfl rfl) .nil)).agg
 · cases hs
end
end Go.Proofs.YtdjnlgkpnjdchaaDoor
namespace Go.Proofs.YtdjnlgkpnjdchaaDoor
open Go.RowKit
set_option linter.unusedVariables false
set_option maxRecDepth 100000
def sSmall:Spec
 | [.f (.v (.int .u64 N)),.f (.v (.bool b))]=>some (some (0≤N∧N<18446744073709551616),.nm Int (zOf b N.toNat) fun z=>nP z 3)
 | _=>none
theorem wU64 (n:Int) (h0:0≤n) (h1:n<18446744073709551616):IntKind.u64.wrap n=n:=by simp [IntKind.wrap,IntKind.bits,IntKind.signed]; omega
section
variable {E : Env} (hU : Up E)
include hU
theorem cSmall:Contract Tryd.prog E 93 sSmall:=by
 refine contract_loopsG [(137,lentS sMade)] Tryd.ntmps93 Tryd.func93 (by kernel_rfl) (by kernel_rfl) hU ⟨(cMade hU).lent,trivial⟩ ?_
 intro xs p r hs hp
 unfold sSmall at hs
 split at hs
 · rename_i N b
   cases hs
   obtain ⟨h0,h1⟩:=hp _ rfl
   refine ⟨[.f (.v (.int .u64 N)),.f (.v (.bool b))],[(2,.s ⟨List Nat × Nat,fun x=>⟨[(0,.f (.v (.int .u64 (x.2:Nat)))),(1,.f (.v (.bool b))),(4,.bp 0 0),(5,.tl 1 (.is .u32 (iN x.1)))],[.cells [.f (.v (.slice none 0 0)),.f (.v (.bool false))],.tail 112 1]⟩,
    fun x=>N.toNat=val 1000000000 x.1+1000000000 ^ x.1.length * x.2∧(∀ y∈x.1,y<1000000000)∧x.1.length≤64∧x.2<18446744073709551616∧(0<x.2→1000000000 ^ x.1.length≤N.toNat),fun x=>x.2⟩)],.cons (.refl _) (.cons (.refl _) .nil),rfl,fun hgx hg=>?_⟩
   refine cast_rfl (p:=∃ (x1:List Nat × Nat),(((SubB (PV.f (Lf.v (Value.slice none 0 0))) (PV.f (Lf.v (Value.slice none 0 0)))∧SubB (PV.f (Lf.v (Value.bool false))) (PV.f (Lf.v (Value.bool false)))∧True)∧True)∧SubB (PV.f (Lf.v (Value.int IntKind.u64 N))) (PV.f (Lf.v (Value.int IntKind.u64 (↑x1.snd:Int))))∧SubB (PV.f (Lf.v (Value.bool b))) (PV.f (Lf.v (Value.bool b)))∧SubB (PV.bp 0 0) (PV.bp 0 0)∧emptyT (PV.tl 1 (Lf.is IntKind.u32 (iN x1.fst)))∧True)∧(N.toNat=val 1000000000 x1.fst+1000000000 ^ x1.fst.length * x1.snd∧(∀ (y:Nat),y∈x1.fst→y<1000000000)∧x1.fst.length≤64∧x1.snd<18446744073709551616∧(0<x1.snd→1000000000 ^ x1.fst.length≤N.toNat))∧True∧∀ (z2:List Nat × Nat),N.toNat=val 1000000000 z2.fst+1000000000 ^ z2.fst.length * z2.snd∧(∀ (y:Nat),y∈z2.fst→y<1000000000)∧z2.fst.length≤64∧z2.snd<18446744073709551616∧(0<z2.snd→1000000000 ^ z2.fst.length≤N.toNat)→True→ifB (decide ((↑z2.snd:Int) > (0:Int))) (((iN z2.fst).length+1≤9223372036854775807∧((iN z2.fst).length+1) * 4≤140737488355328)∧∃ (x3:List Nat × Nat),(((SubB (PV.f (Lf.v (Value.slice none 0 0))) (PV.f (Lf.v (Value.slice none 0 0)))∧SubB (PV.f (Lf.v (Value.bool false))) (PV.f (Lf.v (Value.bool false)))∧True)∧True)∧SubB (PV.f (Lf.v (Value.int IntKind.u64 (IntKind.u64.wrap ((↑z2.snd:Int).tdiv (1000000000:Int)))))) (PV.f (Lf.v (Value.int IntKind.u64 (↑x3.snd:Int))))∧SubB (PV.f (Lf.v (Value.bool b))) (PV.f (Lf.v (Value.bool b)))∧SubB (PV.bp 0 0) (PV.bp 0 0)∧SubB (PV.tl 1 (Lf.is IntKind.u32 (iN z2.fst++[IntKind.u32.wrap ((↑z2.snd:Int).tmod (1000000000:Int))]))) (PV.tl 1 (Lf.is IntKind.u32 (iN x3.fst)))∧True)∧(N.toNat=val 1000000000 x3.fst+1000000000 ^ x3.fst.length * x3.snd∧(∀ (y:Nat),y∈x3.fst→y<1000000000)∧x3.fst.length≤64∧x3.snd<18446744073709551616∧(0<x3.snd→1000000000 ^ x3.fst.length≤N.toNat))∧True∧x3.snd.succ.le z2.snd) ((((∀ (x:Int),x∈iN z2.fst→(0:Int)≤x∧x<(4294967296:Int))∧True∧True)∧(iN z2.fst).length≤100000000)∧∀ (z3:Int),z3=zV b (List.map Int.toNat (iN z2.fst))→true=true∧Sub (PV.agg [PV.f (Lf.zd z3 ((iN z2.fst).length+1)),PV.f (Lf.zn z3)]) (PV.agg [PV.f (Lf.zd (zOf b N.toNat) 3),PV.f (Lf.zn (zOf b N.toNat))]))) (by kernel_rfl) ?_
   refine ⟨?x0,⟨?s0,⟨?s1,⟨trivial,fun z2=>fun hq0=>fun _=>ifB_iff.2 ⟨fun hb1=>⟨?s2,⟨?x1,⟨⟨⟨⟨.refl _,⟨.refl _,trivial⟩⟩,trivial⟩,⟨?m0,⟨.refl _,⟨.refl _,⟨?m1,trivial⟩⟩⟩⟩⟩,⟨?s3,⟨trivial,?m2⟩⟩⟩⟩⟩,fun hb1=>⟨?s4,fun z3=>fun hz3=>⟨rfl,?m3⟩⟩⟩⟩⟩⟩⟩
   case x0=>exact ([],N.toNat)
   case x1=>exact (z2.1++[z2.2 % 1000000000],z2.2 / 1000000000)
   case s0=>exact ⟨⟨⟨.refl _,.refl _,trivial⟩,trivial⟩,subB_int (by show N=(N.toNat:Int); omega),.refl _,.refl _,rfl,trivial⟩
   case s1=>exact ⟨by simp [val],by simp,by simp,by omega,fun h=>by simp at h ⊢; omega⟩
   all_goals obtain ⟨q1,q2,q3,q4,q5⟩:=hq0
   case s2=>rw [iN_len]; exact ⟨by omega,by omega⟩
   case m0 =>
    refine subB_int ?_
    rw [show ((z2.2:Nat):Int).tdiv 1000000000=((z2.2 / 1000000000:Nat):Int) from rfl]
    exact wU64 _ (by omega) (by omega)
   case m1 =>
    refine subB_tl ?_
    rw [show ((z2.2:Nat):Int).tmod 1000000000=((z2.2 % 1000000000:Nat):Int) from rfl,wU _ (by omega) (by omega)]
    simp [iN]
   case s3 =>
    have h1:=of_decide_eq_true hb1
    have h2:=q5 (by omega)
    have h3:z2.1.length≤2:=by
     refine Decidable.byContradiction fun hc=>?_
     have:=Nat.pow_le_pow_right (n:=1000000000) (by omega) (show 3≤z2.1.length by omega)
     omega
    have h4:z2.2=z2.2 % 1000000000+1000000000 * (z2.2 / 1000000000):=by omega
    have h5:N.toNat=val 1000000000 (z2.1++[z2.2 % 1000000000])+1000000000 ^ (z2.1++[z2.2 % 1000000000]).length * (z2.2 / 1000000000):=by
     rw [val_append,List.length_append,List.length_singleton,Nat.pow_succ,q1]
     conv=>lhs; rw [h4]
     simp only [val,Nat.mul_zero,Nat.add_zero]
     rw [Nat.mul_add,Nat.mul_assoc]
     omega
    refine ⟨h5,fun y hy=>?_,by simp; omega,by show z2.2 / 1000000000<_; omega,fun h6=>?_⟩
    · rcases List.mem_append.1 hy with hy | hy
      · exact q2 y hy
      · simp at hy; omega
    · have h7:1000000000 ^ (z2.1++[z2.2 % 1000000000]).length * 1≤1000000000 ^ (z2.1++[z2.2 % 1000000000]).length * (z2.2 / 1000000000):=Nat.mul_le_mul_left _ h6
      show 1000000000 ^ (z2.1++[z2.2 % 1000000000]).length≤_
      omega
   case m2=>have h1:=of_decide_eq_true hb1; show z2.2 / 1000000000+1≤z2.2; omega
   case s4 =>
    refine ⟨⟨fun x hx=>?_,trivial,trivial⟩,by rw [iN_len]; omega⟩
    obtain ⟨y,hy,rfl⟩:=List.mem_map.1 hx
    have:=q2 y hy
    have e:Int.ofNat y=(y:Int):=rfl
    exact ⟨by omega,by omega⟩
   case m3 =>
    have h1:=of_decide_eq_false hb1
    have h2:z2.2=0:=by omega
    rw [h2,Nat.mul_zero,Nat.add_zero] at q1
    have h3:z3=zOf b N.toNat:=by rw [hz3,show List.map Int.toNat (iN z2.1)=z2.1 from map_back z2.1,q1]; rfl
    subst h3
    exact nP_less (by unfold ZB; rw [zOf_abs]; omega)
 · cases hs
end
end Go.Proofs.YtdjnlgkpnjdchaaDoor
namespace Go.Proofs.YtdjnlgkpnjdchaaDoor
open Go.RowKit
set_option linter.unusedVariables false
set_option maxRecDepth 100000
def sRightNat:Spec
 | [.f x]=>match limL x with
  | some (l,k)=>some (some (k≤100000000),.one (.f (.v (.bool (rgtB l)))))
  | none=>none
 | _=>none
theorem cRightNat {E:Env}:Contract Tryd.prog E 169 sRightNat:=by
 intro xs p r hs hp w H vs hf hE hvs
 unfold sRightNat at hs
 split at hs
 · rename_i x
   split at hs
   · rename_i l k hx
     cases hs
     have hk:=hp _ rfl
     obtain ⟨v,rfl,hv⟩:=one_arg hvs
     obtain ⟨h1,h2,h3⟩:=limL_rd hx hv.rd hf
     refine (natRight_any v l w h1 (by omega)).mono ?_
     rintro e w' ⟨rfl,rfl⟩
     exact ⟨_,_,rfl,Ext.refl hf,.f (.v _ rfl)⟩
   · cases hs
 · cases hs
section
variable {E : Env} (hU : Up E)
include hU
theorem cOfNN:Contract Tryd.prog E 45 sOf:=by
 refine contract_loopsG [(93,sSmall),(94,sOutN)] Tryd.ntmps45 Tryd.func45 (by kernel_rfl) (by kernel_rfl) hU ⟨cSmall hU,cOutN hU,trivial⟩ ?_
 intro xs p r hs hp
 unfold sOf at hs
 split at hs
 · rename_i n
   cases hs
   have hk:=hp _ rfl
   refine ⟨[.f (.v (.int .i64 n))],[],.cons (.refl _) .nil,rfl,fun hgx hg=>?_⟩
   refine cast_rfl (p:=ifB (decide (n<(0:Int))) (((0:Int)≤IntKind.u64.wrap ((0:Int) - IntKind.u64.wrap n)∧IntKind.u64.wrap ((0:Int) - IntKind.u64.wrap n)<(18446744073709551616:Int))∧∀ (z1:Int),z1=zOf true (IntKind.u64.wrap ((0:Int) - IntKind.u64.wrap n)).toNat→z1=z1∧true=true∧Sub (PV.agg [PV.f (Lf.zn z1),PV.f (Lf.zd z1 3)]) (PV.agg [PV.f (Lf.zn n),PV.f (Lf.zd n 3)])) (((0:Int)≤IntKind.u64.wrap n∧IntKind.u64.wrap n<(18446744073709551616:Int))∧∀ (z1:Int),z1=zOf false (IntKind.u64.wrap n).toNat→z1=z1∧true=true∧Sub (PV.agg [PV.f (Lf.zn z1),PV.f (Lf.zd z1 3)]) (PV.agg [PV.f (Lf.zn n),PV.f (Lf.zd n 3)]))) (by kernel_rfl) ?_
   refine ifB_iff.2 ⟨fun hb0=>⟨?s0,fun z1=>fun hz1=>⟨rfl,⟨rfl,?m0⟩⟩⟩,fun hb0=>⟨?s1,fun z1=>fun hz1=>⟨rfl,⟨rfl,?m1⟩⟩⟩⟩
   case s0=>simp [IntKind.wrap,IntKind.bits,IntKind.signed]; omega
   case s1=>simp [IntKind.wrap,IntKind.bits,IntKind.signed]; omega
   case m0 =>
    have h1:=of_decide_eq_true hb0
    have e:z1=n:=by
     rw [hz1,zOf_true]
     simp [IntKind.wrap,IntKind.bits,IntKind.signed]
     omega
    subst e
    exact .refl _
   case m1 =>
    have h1:=of_decide_eq_false hb0
    have e:z1=n:=by
     rw [hz1,zOf_false]
     simp [IntKind.wrap,IntKind.bits,IntKind.signed]
     omega
    subst e
    exact .refl _
 · cases hs
theorem cRightN:Contract Tryd.prog E 140 sRight:=by
 refine contract_loopsG [(169,sRightNat)] Tryd.ntmps140 Tryd.func140 (by kernel_rfl) (by kernel_rfl) hU ⟨cRightNat,trivial⟩ ?_
 intro xs p r hs hp
 unfold sRight at hs
 split at hs
 · rename_i x
   split at hs
   · rename_i n l k j hx
     cases hs
     have hk:=hp _ rfl
     refine ⟨[rawP n l k],[],.cons (sub_raw hx) .nil,rfl,fun hgx hg=>?_⟩
     refine cast_rfl (p:=k≤100000000∧ifB (rgtB l) (ifB (!n) (true=true∧Sub (PV.f (Lf.v (Value.bool true))) (PV.f (Lf.v (Value.bool (rightZ n l))))) (true=true∧Sub (PV.f (Lf.v (Value.bool (decide ((↑l.length:Int) > (0:Int)))))) (PV.f (Lf.v (Value.bool (rightZ n l)))))) (true=true∧Sub (PV.f (Lf.v (Value.bool false))) (PV.f (Lf.v (Value.bool (rightZ n l)))))) (by kernel_rfl) ?_
     refine ⟨?s0,ifB_iff.2 ⟨fun hb0=>ifB_iff.2 ⟨fun hb1=>⟨rfl,?m0⟩,fun hb1=>⟨rfl,?m1⟩⟩,fun hb0=>⟨rfl,?m2⟩⟩⟩
     case s0=>exact hk
     case m0 =>
      refine sub_bool ?_
      unfold rightZ
      rw [hb0,hb1]; rfl
     case m1 =>
      refine sub_bool ?_
      unfold rightZ
      rw [hb0,hb1,Bool.true_and,Bool.false_or,Bool.eq_iff_iff,decide_eq_true_eq,decide_eq_true_eq]
      omega
     case m2 =>
      refine sub_bool ?_
      unfold rightZ
      rw [hb0]; rfl
   · cases hs
 · cases hs
end
end Go.Proofs.YtdjnlgkpnjdchaaDoor
namespace Go.Proofs.YtdjnlgkpnjdchaaDoor
open Go.RowKit
theorem cOf {E:Env} (hU:Up E):Contract Tryd.prog E 45 sOf:=cOfNN hU
theorem cRight {E:Env} (hU:Up E):Contract Tryd.prog E 140 sRight:=cRightN hU
end Go.Proofs.YtdjnlgkpnjdchaaDoor
