/- The contracts of the layer num. -/
import Derived.Test.YtijfaigpilfpaaaGreatDoorPl
namespace Go.Proofs.YtijfaigpilfpaaaGreatDoor
open Go.RowKit
set_option linter.unusedVariables false
set_option maxRecDepth 100000
section
variable {E : Env}
theorem cTrimN:Contract Tryz.prog E 202 QnQ:=by
 intro xs p r hs hp w H vs hf hE hvs
 unfold QnQ at hs
 split at hs
 · rename_i x
   split at hs
   · rename_i l k hx
     cases hs
     have hk:=hp _ rfl
     obtain ⟨v,rfl,hv⟩:=Qom hvs
     obtain ⟨h1,h2,h3⟩:=QoB hx hv.rd hf
     refine (QjU v l w h1 (by omega) h3).mono ?_
     rintro e w' ⟨u,rfl,ho,hbl⟩
     exact ⟨_,u,rfl,Qtl hf hbl,own_lP ho (zb_vB h3 h2)⟩
   · cases hs
 · cases hs
end
end Go.Proofs.YtijfaigpilfpaaaGreatDoor
namespace Go.Proofs.YtijfaigpilfpaaaGreatDoor
open Go.RowKit
set_option linter.unusedVariables false
set_option maxRecDepth 100000
def nP (z:Int) (k:Nat):PV:=.agg [.f (.zd z k),.f (.zn z)]
def QnO:Spec
 | [.agg [.f x]]=>match limL x with
  | some (l,k)=>some (none,.one (.f (.v (.bool (((l.length:Nat):Int)==0)))))
  | none=>none
 | _=>none
def QsI:Spec
 | [.f x,.f (.v (.bool n))]=>match limL x with
  | some (l,k)=>some (some (k≤100000000),.nm Int (zV n l) fun z=>nP z (k+1))
  | none=>none
 | _=>none
theorem Qsr {a b:Int} {k:Nat} (h:a.natAbs=b.natAbs):Sub (.f (.zd a k)) (.f (.zd b k)):=⟨fun H v hv=>by
 have hr:=hv.rd
 have hg:ZB a k:=hr.good'
 refine .f ?_
 cases hr with
 | sl hv2 hgd hc hm h0 bb o val hb hcell hkk hrec=>exact .sl (f:=.zd b k) (by rw [← hv2]; simp only [Lf.view,h]) (show ZB b k by unfold ZB at hg ⊢; rw [← h]; exact hg) hc hm h0 bb o val hb hcell hkk hrec⟩
theorem QrM {a z:Int} {b:Bool} {k:Nat} (hz:a.natAbs=z.natAbs) (hb:b=zNeg z):Sub (.agg [.f (.zd a k),.f (.v (.bool b))]) (.agg [.f (.zd z k),.f (.zn z)]):=by
 subst hb
 refine ⟨fun H v hv=>?_⟩
 obtain ⟨vs,rfl,h1⟩:=PRs.of_agg hv
 match vs,h1.1 with
 | [p,q],_ =>
  have a1:=(h1.2 1 _ _ rfl rfl).val
  subst a1
  exact (PRs.cons ((Qsr hz).out _ _ (h1.2 0 _ _ rfl rfl)) (.cons (.f (.zn _)) .nil)).agg
theorem Qqw (n:Nat):(((digs 1000000000 n).length:Int)==0)=decide (n=0):=by
 rw [Bool.eq_iff_iff,beq_iff_eq,decide_eq_true_eq]
 constructor
 · intro h
   have h1:=QgX 1000000000 (by omega) n
   rw [List.length_eq_zero_iff.1 (show (digs 1000000000 n).length=0 by omega)] at h1
   exact h1.symm
 · intro h; subst h; rw [Qbx]; rfl
def QsH:Spec
 | [.agg [.f (.zd z k),.f (.zn z')]]=>some (some (z=z'),.one (zP z k))
 | _=>none
theorem Qs2 {z:Int} {k k':Nat} (h:ZB z k'):Sub (nP z k) (nP z k'):=by
 refine ⟨fun H v hv=>?_⟩
 obtain ⟨vs,rfl,h1⟩:=PRs.of_agg hv
 match vs,h1.1 with
 | [p,q],_=>exact (PRs.cons ((sub_zd h).out _ _ (h1.2 0 _ _ rfl rfl)) (.cons (h1.2 1 _ _ rfl rfl) .nil)).agg
section
variable {E : Env} (hU : Up E)
include hU
theorem cZeroN:Contract Tryz.prog E 146 QnO:=by
 refine QaO [] Tryz.ntmps146 Tryz.func146 (by kernel_rfl) (by kernel_rfl) hU trivial ?_
 intro xs p r hs hp
 unfold QnO at hs
 split at hs
 · rename_i x
   split at hs
   · rename_i l k hx
     cases hs
     refine ⟨[.agg [.f (.lr l k)]],[],.cons ⟨fun H v hv=>by
      obtain ⟨vs,rfl,h1⟩:=PRs.of_agg hv
      match vs,h1.1 with
      | [p],_=>exact (PRs.cons ((Qlx hx).out _ _ (h1.2 0 _ _ rfl rfl)) .nil).agg⟩ .nil,rfl,fun hgx hg=>?_⟩
     refine Qab (p:=true=true∧rfS (PV.f (Lf.v (Value.bool ((↑l.length:Int)==(0:Int)))))) (by kernel_rfl) ?_
     refine ⟨rfl,?m0⟩
     case m0=>exact .refl _
   · cases hs
 · cases hs
theorem cMade:Contract Tryz.prog E 148 QsI:=by
 refine QaO [(202,QnQ),(146,QnO)] Tryz.ntmps148 Tryz.func148 (by kernel_rfl) (by kernel_rfl) hU ⟨cTrimN,cZeroN hU,trivial⟩ ?_
 intro xs p r hs hp
 unfold QsI at hs
 split at hs
 · rename_i x n
   split at hs
   · rename_i l k hx
     cases hs
     have hk:=hp _ rfl
     refine ⟨[.f (.lr l k),.f (.v (.bool n))],[],.cons (Qlx hx) (.cons (.refl _) .nil),rfl,fun hgx hg=>?_⟩
     refine Qab (p:=k≤100000000∧∀ (z1:Nat),z1=vB l→ifB n (true=true∧Sub (PV.agg [PV.f (Lf.zd (↑z1:Int) (k+1)),PV.f (Lf.v (Value.bool !(↑(digs 1000000000 (↑z1:Int).natAbs).length:Int)==(0:Int)))]) (PV.agg [PV.f (Lf.zd (zV n l) (k+1)),PV.f (Lf.zn (zV n l))])) (true=true∧Sub (PV.agg [PV.f (Lf.zd (↑z1:Int) (k+1)),PV.f (Lf.v (Value.bool false))]) (PV.agg [PV.f (Lf.zd (zV n l) (k+1)),PV.f (Lf.zn (zV n l))]))) (by kernel_rfl) ?_
     refine ⟨?s0,fun z1=>fun hz1=>Qaa.2 ⟨fun hb0=>⟨rfl,?m0⟩,fun hb0=>⟨rfl,?m1⟩⟩⟩
     case s0=>exact hk
     case m0 =>
      subst hb0
      rw [show zV true l=zOf true (vB l) from rfl,← hz1,QkD]
      refine QrM (by rw [Int.natAbs_neg]) ?_
      rw [Int.natAbs_natCast,Qqw]
      unfold zNeg
      rw [Bool.eq_iff_iff,Bool.not_eq_true',decide_eq_false_iff_not,decide_eq_true_eq]
      omega
     case m1 =>
      subst hb0
      rw [show zV false l=zOf false (vB l) from rfl,← hz1,Qh7]
      exact QrM rfl (by unfold zNeg; rw [decide_eq_false (by omega)])
   · cases hs
 · cases hs
theorem cOutN:Contract Tryz.prog E 92 QsH:=by
 refine QaO [] Tryz.ntmps92 Tryz.func92 (by kernel_rfl) (by kernel_rfl) hU trivial ?_
 intro xs p r hs hp
 unfold QsH at hs
 split at hs
 · rename_i z k z'
   cases hs
   obtain rfl:=hp _ rfl
   refine ⟨[nP z k],[],.cons (.refl _) .nil,rfl,fun hgx hg=>?_⟩
   refine Qab (p:=true=true∧Sub (PV.agg [PV.f (Lf.v (Value.bool (zNeg z))),PV.f (Lf.zd z k)]) (PV.agg [PV.f (Lf.zn z),PV.f (Lf.zd z k)])) (by kernel_rfl) ?_
   refine ⟨rfl,?m0⟩
   case m0 =>
    refine ⟨fun H v hv=>?_⟩
    obtain ⟨vs,rfl,h1⟩:=PRs.of_agg hv
    match vs,h1.1 with
    | [p,q],_ =>
     have a0:=(h1.2 0 _ _ rfl rfl).val
     subst a0
     exact (PRs.cons (.f (.zn _)) (.cons (h1.2 1 _ _ rfl rfl) .nil)).agg
 · cases hs
end
end Go.Proofs.YtijfaigpilfpaaaGreatDoor
namespace Go.Proofs.YtijfaigpilfpaaaGreatDoor
open Go.RowKit
set_option linter.unusedVariables false
set_option maxRecDepth 100000
def QnV:Spec
 | [.f (.v (.int .u64 N)),.f (.v (.bool b))]=>some (some (0≤N∧N<18446744073709551616),.nm Int (zOf b N.toNat) fun z=>nP z 3)
 | _=>none
theorem wU64 (n:Int) (h0:0≤n) (h1:n<18446744073709551616):IntKind.u64.wrap n=n:=by simp [IntKind.wrap,IntKind.bits,IntKind.signed]; omega
section
variable {E : Env} (hU : Up E)
include hU
theorem cSmall:Contract Tryz.prog E 91 QnV:=by
 refine QaO [(148,Qs8 QsI)] Tryz.ntmps91 Tryz.func91 (by kernel_rfl) (by kernel_rfl) hU ⟨(cMade hU).lent,trivial⟩ ?_
 intro xs p r hs hp
 unfold QnV at hs
 split at hs
 · rename_i N b
   cases hs
   obtain ⟨h0,h1⟩:=hp _ rfl
   refine ⟨[.f (.v (.int .u64 N)),.f (.v (.bool b))],[(2,.s ⟨List Nat × Nat,fun x=>⟨[(0,.f (.v (.int .u64 (x.2:Nat)))),(1,.f (.v (.bool b))),(4,.bp 0 0),(5,.tl 1 (.is .u32 (iN x.1)))],[.cells [.f (.v (.slice none 0 0)),.f (.v (.bool false))],.tail 162 1]⟩,
    fun x=>N.toNat=val 1000000000 x.1+1000000000 ^ x.1.length * x.2∧(∀ y∈x.1,y<1000000000)∧x.1.length≤64∧x.2<18446744073709551616∧(0<x.2→1000000000 ^ x.1.length≤N.toNat),fun x=>x.2⟩)],.cons (.refl _) (.cons (.refl _) .nil),rfl,fun hgx hg=>?_⟩
   refine Qab (p:=∃ (x1:List Nat × Nat),(((rfB (nlP)∧rfB (PV.f (Lf.v (Value.bool false)))∧True)∧True)∧SubB (PV.f (Lf.v (Value.int IntKind.u64 N))) (PV.f (Lf.v (Value.int IntKind.u64 (↑x1.snd:Int))))∧rfB (PV.f (Lf.v (Value.bool b)))∧rfB (PV.bp 0 0)∧Qbg (PV.tl 1 (Lf.is IntKind.u32 (iN x1.fst)))∧True)∧(N.toNat=val 1000000000 x1.fst+1000000000 ^ x1.fst.length * x1.snd∧(∀ (y:Nat),y∈x1.fst→y<1000000000)∧x1.fst.length≤64∧x1.snd<18446744073709551616∧(0<x1.snd→1000000000 ^ x1.fst.length≤N.toNat))∧True∧∀ (z2:List Nat × Nat),N.toNat=val 1000000000 z2.fst+1000000000 ^ z2.fst.length * z2.snd∧(∀ (y:Nat),y∈z2.fst→y<1000000000)∧z2.fst.length≤64∧z2.snd<18446744073709551616∧(0<z2.snd→1000000000 ^ z2.fst.length≤N.toNat)→True→ifB (decide ((↑z2.snd:Int) > (0:Int))) (((iN z2.fst).length+1≤9223372036854775807∧((iN z2.fst).length+1) * 4≤140737488355328)∧∃ (x3:List Nat × Nat),(((rfB (nlP)∧rfB (PV.f (Lf.v (Value.bool false)))∧True)∧True)∧SubB (PV.f (Lf.v (Value.int IntKind.u64 (IntKind.u64.wrap ((↑z2.snd:Int).tdiv (1000000000:Int)))))) (PV.f (Lf.v (Value.int IntKind.u64 (↑x3.snd:Int))))∧rfB (PV.f (Lf.v (Value.bool b)))∧rfB (PV.bp 0 0)∧SubB (PV.tl 1 (Lf.is IntKind.u32 (iN z2.fst++[IntKind.u32.wrap ((↑z2.snd:Int).tmod (1000000000:Int))]))) (PV.tl 1 (Lf.is IntKind.u32 (iN x3.fst)))∧True)∧(N.toNat=val 1000000000 x3.fst+1000000000 ^ x3.fst.length * x3.snd∧(∀ (y:Nat),y∈x3.fst→y<1000000000)∧x3.fst.length≤64∧x3.snd<18446744073709551616∧(0<x3.snd→1000000000 ^ x3.fst.length≤N.toNat))∧True∧x3.snd.succ.le z2.snd) ((((∀ (x:Int),x∈iN z2.fst→(0:Int)≤x∧x<(4294967296:Int))∧True∧True)∧(iN z2.fst).length≤100000000)∧∀ (z3:Int),z3=zV b (List.map Int.toNat (iN z2.fst))→true=true∧Sub (PV.agg [PV.f (Lf.zd z3 ((iN z2.fst).length+1)),PV.f (Lf.zn z3)]) (PV.agg [PV.f (Lf.zd (zOf b N.toNat) 3),PV.f (Lf.zn (zOf b N.toNat))]))) (by kernel_rfl) ?_
   refine ⟨?x0,⟨?s0,⟨?s1,⟨trivial,fun z2=>fun hq0=>fun _=>Qaa.2 ⟨fun hb1=>⟨?s2,⟨?x1,⟨⟨⟨⟨.refl _,⟨.refl _,trivial⟩⟩,trivial⟩,⟨?m0,⟨.refl _,⟨.refl _,⟨?m1,trivial⟩⟩⟩⟩⟩,⟨?s3,⟨trivial,?m2⟩⟩⟩⟩⟩,fun hb1=>⟨?s4,fun z3=>fun hz3=>⟨rfl,?m3⟩⟩⟩⟩⟩⟩⟩
   case x0=>exact ([],N.toNat)
   case x1=>exact (z2.1++[z2.2 % 1000000000],z2.2 / 1000000000)
   case s0=>exact ⟨⟨⟨.refl _,.refl _,trivial⟩,trivial⟩,QkV (by show N=(N.toNat:Int); omega),.refl _,.refl _,rfl,trivial⟩
   case s1=>exact ⟨by simp [val],by simp,by simp,by omega,fun h=>by simp at h ⊢; omega⟩
   all_goals obtain ⟨q1,q2,q3,q4,q5⟩:=hq0
   case s2=>rw [QrO]; exact ⟨by omega,by omega⟩
   case m0 =>
    refine QkV ?_
    rw [show ((z2.2:Nat):Int).tdiv 1000000000=((z2.2 / 1000000000:Nat):Int) from rfl]
    exact wU64 _ (by omega) (by omega)
   case m1 =>
    refine Qst ?_
    rw [show ((z2.2:Nat):Int).tmod 1000000000=((z2.2 % 1000000000:Nat):Int) from rfl,wU _ (by omega) (by omega)]
    simp [iN]
   case s3 =>
    have h1:=of_decide_eq_true hb1
    have h2:=q5 (by omega)
    have h3:z2.1.length≤2:=by
     refine Decidable.byContradiction fun hc=>?_
     have:=Nat.pow_le_pow_right (n:=1000000000) (by omega) (show 3≤z2.1.length by omega)
     omega
    have h4:z2.2=z2.2 % 1000000000+1000000000 * (z2.2 / 1000000000):=by omega
    have h5:N.toNat=val 1000000000 (z2.1++[z2.2 % 1000000000])+1000000000 ^ (z2.1++[z2.2 % 1000000000]).length * (z2.2 / 1000000000):=by
     rw [Qgj,List.length_append,List.length_singleton,Nat.pow_succ,q1]
     conv=>lhs; rw [h4]
     simp only [val,Nat.mul_zero,Nat.add_zero]
     rw [Nat.mul_add,Nat.mul_assoc]
     omega
    refine ⟨h5,fun y hy=>?_,by simp; omega,by show z2.2 / 1000000000<_; omega,fun h6=>?_⟩
    · rcases List.mem_append.1 hy with hy | hy
      · exact q2 y hy
      · simp at hy; omega
    · have h7:1000000000 ^ (z2.1++[z2.2 % 1000000000]).length * 1≤1000000000 ^ (z2.1++[z2.2 % 1000000000]).length * (z2.2 / 1000000000):=Nat.mul_le_mul_left _ h6
      show 1000000000 ^ (z2.1++[z2.2 % 1000000000]).length≤_
      omega
   case m2=>have h1:=of_decide_eq_true hb1; show z2.2 / 1000000000+1≤z2.2; omega
   case s4 =>
    refine ⟨⟨fun x hx=>?_,trivial,trivial⟩,by rw [QrO]; omega⟩
    obtain ⟨y,hy,rfl⟩:=List.mem_map.1 hx
    have:=q2 y hy
    have e:Int.ofNat y=(y:Int):=rfl
    exact ⟨by omega,by omega⟩
   case m3 =>
    have h1:=of_decide_eq_false hb1
    have h2:z2.2=0:=by omega
    rw [h2,Nat.mul_zero,Nat.add_zero] at q1
    have h3:z3=zOf b N.toNat:=by rw [hz3,show List.map Int.toNat (iN z2.1)=z2.1 from Qqs z2.1,q1]; rfl
    subst h3
    exact Qs2 (by unfold ZB; rw [QgR]; omega)
 · cases hs
end
end Go.Proofs.YtijfaigpilfpaaaGreatDoor
namespace Go.Proofs.YtijfaigpilfpaaaGreatDoor
open Go.RowKit
set_option linter.unusedVariables false
set_option maxRecDepth 100000
def Qfk:Spec
 | [.f x]=>match limL x with
  | some (l,k)=>some (some (k≤100000000),.one (.f (.v (.bool (rgtB l)))))
  | none=>none
 | _=>none
theorem Qps {E:Env}:Contract Tryz.prog E 140 Qfk:=by
 intro xs p r hs hp w H vs hf hE hvs
 unfold Qfk at hs
 split at hs
 · rename_i x
   split at hs
   · rename_i l k hx
     cases hs
     have hk:=hp _ rfl
     obtain ⟨v,rfl,hv⟩:=Qom hvs
     obtain ⟨h1,h2,h3⟩:=QoB hx hv.rd hf
     refine (QiG v l w h1 (by omega)).mono ?_
     rintro e w' ⟨rfl,rfl⟩
     exact ⟨_,_,rfl,Ext.refl hf,.f (.v _ rfl)⟩
   · cases hs
 · cases hs
section
variable {E : Env} (hU : Up E)
include hU
theorem cOfNN:Contract Tryz.prog E 28 sOf:=by
 refine QaO [(91,QnV),(92,QsH)] Tryz.ntmps28 Tryz.func28 (by kernel_rfl) (by kernel_rfl) hU ⟨cSmall hU,cOutN hU,trivial⟩ ?_
 intro xs p r hs hp
 unfold sOf at hs
 split at hs
 · rename_i n
   cases hs
   have hk:=hp _ rfl
   refine ⟨[.f (.v (.int .i64 n))],[],.cons (.refl _) .nil,rfl,fun hgx hg=>?_⟩
   refine Qab (p:=ifB (decide (n<(0:Int))) (((0:Int)≤IntKind.u64.wrap ((0:Int) - IntKind.u64.wrap n)∧IntKind.u64.wrap ((0:Int) - IntKind.u64.wrap n)<(18446744073709551616:Int))∧∀ (z1:Int),z1=zOf true (IntKind.u64.wrap ((0:Int) - IntKind.u64.wrap n)).toNat→z1=z1∧true=true∧Sub (PV.agg [PV.f (Lf.zn z1),PV.f (Lf.zd z1 3)]) (PV.agg [PV.f (Lf.zn n),PV.f (Lf.zd n 3)])) (((0:Int)≤IntKind.u64.wrap n∧IntKind.u64.wrap n<(18446744073709551616:Int))∧∀ (z1:Int),z1=zOf false (IntKind.u64.wrap n).toNat→z1=z1∧true=true∧Sub (PV.agg [PV.f (Lf.zn z1),PV.f (Lf.zd z1 3)]) (PV.agg [PV.f (Lf.zn n),PV.f (Lf.zd n 3)]))) (by kernel_rfl) ?_
   refine Qaa.2 ⟨fun hb0=>⟨?s0,fun z1=>fun hz1=>⟨rfl,⟨rfl,?m0⟩⟩⟩,fun hb0=>⟨?s1,fun z1=>fun hz1=>⟨rfl,⟨rfl,?m1⟩⟩⟩⟩
   case s0=>simp [IntKind.wrap,IntKind.bits,IntKind.signed]; omega
   case s1=>simp [IntKind.wrap,IntKind.bits,IntKind.signed]; omega
   case m0 =>
    have h1:=of_decide_eq_true hb0
    have e:z1=n:=by
     rw [hz1,QkD]
     simp [IntKind.wrap,IntKind.bits,IntKind.signed]
     omega
    subst e
    exact .refl _
   case m1 =>
    have h1:=of_decide_eq_false hb0
    have e:z1=n:=by
     rw [hz1,Qh7]
     simp [IntKind.wrap,IntKind.bits,IntKind.signed]
     omega
    subst e
    exact .refl _
 · cases hs
theorem QtO:Contract Tryz.prog E 83 Qk4:=by
 refine QaO [(140,Qfk)] Tryz.ntmps83 Tryz.func83 (by kernel_rfl) (by kernel_rfl) hU ⟨Qps,trivial⟩ ?_
 intro xs p r hs hp
 unfold Qk4 at hs
 split at hs
 · rename_i x
   split at hs
   · rename_i n l k j hx
     cases hs
     have hk:=hp _ rfl
     refine ⟨[rawP n l k],[],.cons (Qss hx) .nil,rfl,fun hgx hg=>?_⟩
     refine Qab (p:=k≤100000000∧ifB (rgtB l) (ifB (!n) (true=true∧Sub (PV.f (Lf.v (Value.bool true))) (PV.f (Lf.v (Value.bool (Qbv n l))))) (true=true∧Sub (PV.f (Lf.v (Value.bool (decide ((↑l.length:Int) > (0:Int)))))) (PV.f (Lf.v (Value.bool (Qbv n l)))))) (true=true∧Sub (PV.f (Lf.v (Value.bool false))) (PV.f (Lf.v (Value.bool (Qbv n l)))))) (by kernel_rfl) ?_
     refine ⟨?s0,Qaa.2 ⟨fun hb0=>Qaa.2 ⟨fun hb1=>⟨rfl,?m0⟩,fun hb1=>⟨rfl,?m1⟩⟩,fun hb0=>⟨rfl,?m2⟩⟩⟩
     case s0=>exact hk
     case m0 =>
      refine Qg3 ?_
      unfold Qbv
      rw [hb0,hb1]; rfl
     case m1 =>
      refine Qg3 ?_
      unfold Qbv
      rw [hb0,hb1,Bool.true_and,Bool.false_or,Bool.eq_iff_iff,decide_eq_true_eq,decide_eq_true_eq]
      omega
     case m2 =>
      refine Qg3 ?_
      unfold Qbv
      rw [hb0]; rfl
   · cases hs
 · cases hs
end
end Go.Proofs.YtijfaigpilfpaaaGreatDoor
namespace Go.Proofs.YtijfaigpilfpaaaGreatDoor
open Go.RowKit
theorem cOf {E:Env} (hU:Up E):Contract Tryz.prog E 28 sOf:=cOfNN hU
theorem cRight {E:Env} (hU:Up E):Contract Tryz.prog E 83 Qk4:=QtO hU
end Go.Proofs.YtijfaigpilfpaaaGreatDoor
