/- The layer num by the pure run: its numbers. -/
import Derived.Test.YtpjjdngoblfleaaGreatPm
namespace Go.Proofs.YtpjjdngoblfleaaGreat
open Go.RowKit
set_option linter.unusedVariables false
set_option maxRecDepth 100000
def nP (z:Int) (k:Nat):PV:=.agg [.f (.zd z k),.f (.zn z)]
def sZeroN:Spec
 | [.agg [.f x]]=>match limL x with
  | some (l,k)=>some (none,.one (.f (.v (.bool (((l.length:Nat):Int)==0)))))
  | none=>none
 | _=>none
def sMade:Spec
 | [.f x,.f (.v (.bool n))]=>match limL x with
  | some (l,k)=>some (some (k≤100000000),.nm Int (zV n l) fun z=>nP z (k+1))
  | none=>none
 | _=>none
def sOfN2:Spec
 | [x]=>match pvR x with
  | some ((n,l),k,j)=>some (some (k≤100000000),.nm Int (zV n l) fun z=>nP z (k+1))
  | none=>none
 | _=>none
theorem sub_zda {a b:Int} {k:Nat} (h:a.natAbs=b.natAbs):Sub (.f (.zd a k)) (.f (.zd b k)):=⟨fun H v hv=>by
 have hr:=hv.rd
 have hg:ZB a k:=hr.good'
 refine .f ?_
 cases hr with
 | sl hv2 hgd hc hm h0 bb o val hb hcell hkk hrec=>exact .sl (f:=.zd b k) (by rw [← hv2]; simp only [Lf.view,h]) (show ZB b k by unfold ZB at hg ⊢; rw [← h]; exact hg) hc hm h0 bb o val hb hcell hkk hrec⟩
theorem nP_sub {a z:Int} {b:Bool} {k:Nat} (hz:a.natAbs=z.natAbs) (hb:b=zNeg z):Sub (.agg [.f (.zd a k),.f (.v (.bool b))]) (.agg [.f (.zd z k),.f (.zn z)]):=by
 subst hb
 refine ⟨fun H v hv=>?_⟩
 obtain ⟨vs,rfl,h1⟩:=PRs.of_agg hv
 match vs,h1.1 with
 | [p,q],_ =>
  have a1:=(h1.2 1 _ _ rfl rfl).val
  subst a1
  exact (PRs.cons ((sub_zda hz).out _ _ (h1.2 0 _ _ rfl rfl)) (.cons (.f (.zn _)) .nil)).agg
theorem len_zero (n:Nat):(((digs 1000000000 n).length:Int)==0)=decide (n=0):=by
 rw [Bool.eq_iff_iff,beq_iff_eq,decide_eq_true_eq]
 constructor
 · intro h
   have h1:=val_digs 1000000000 (by omega) n
   rw [List.length_eq_zero_iff.1 (show (digs 1000000000 n).length=0 by omega)] at h1
   exact h1.symm
 · intro h; subst h; rw [digs_zero]; rfl
def sOutN:Spec
 | [.agg [.f (.zd z k),.f (.zn z')]]=>some (some (z=z'),.one (zP z k))
 | _=>none
def sCmpS:Spec
 | [.agg [.f (.zd z k)],.agg [.f (.zd z' k')]]=>some (some (k≤10000000∧k'≤10000000),.one (.f (.v (.int .i64 (cmpI (z.natAbs:Nat) (z'.natAbs:Nat))))))
 | _=>none
def sPlusN (Q:Int→Int→Prop):Spec
 | [.agg [.f (.zd a k),.f (.zn z)],.agg [.f (.zd a' k'),.f (.zn z')]]=>some (some (a=z∧a'=z'∧k+k'≤4500000∧Q z z'),.nm Int (z+z') fun y=>nP y (k+k'+1))
 | _=>none
theorem cPlusNo {E:Env}:Contract Tryz.prog E 117 (sPlusN (fun _ _=>False)):=by
 intro xs p r hs hp
 unfold sPlusN at hs
 split at hs
 · cases hs
   exact (hp _ rfl).2.2.2.elim
 · cases hs
theorem vB_dgs (n:Nat):vB (digs 1000000000 n)=n:=val_digs 1000000000 (by omega) n
theorem zV_dgs (neg:Bool) (n:Nat):zV neg (digs 1000000000 n)=zOf neg n:=by unfold zV; rw [val_digs _ (by omega)]
theorem nP_less {z:Int} {k k':Nat} (h:ZB z k'):Sub (nP z k) (nP z k'):=by
 refine ⟨fun H v hv=>?_⟩
 obtain ⟨vs,rfl,h1⟩:=PRs.of_agg hv
 match vs,h1.1 with
 | [p,q],_=>exact (PRs.cons ((sub_zd h).out _ _ (h1.2 0 _ _ rfl rfl)) (.cons (h1.2 1 _ _ rfl rfl) .nil)).agg
section
variable {E : Env} (hU : Up E)
include hU
theorem cZeroN:Contract Tryz.prog E 138 sZeroN:=by
 refine contract_loopsG [] Tryz.ntmps138 Tryz.func138 (by kernel_rfl) (by kernel_rfl) hU trivial ?_
 intro xs p r hs hp
 unfold sZeroN at hs
 split at hs
 · rename_i x
   split at hs
   · rename_i l k hx
     cases hs
     refine ⟨[.agg [.f (.lr l k)]],[],.cons ⟨fun H v hv=>by
      obtain ⟨vs,rfl,h1⟩:=PRs.of_agg hv
      match vs,h1.1 with
      | [p],_=>exact (PRs.cons ((limL_sub hx).out _ _ (h1.2 0 _ _ rfl rfl)) .nil).agg⟩ .nil,rfl,fun hgx hg=>?_⟩
     refine cast_rfl (p:=true=true∧Sub (PV.f (Lf.v (Value.bool ((↑l.length:Int)==(0:Int))))) (PV.f (Lf.v (Value.bool ((↑l.length:Int)==(0:Int)))))) (by kernel_rfl) ?_
     refine ⟨rfl,?m0⟩
     case m0=>exact .refl _
   · cases hs
 · cases hs
theorem cMade:Contract Tryz.prog E 125 sMade:=by
 refine contract_loopsG [(137,sTrimL),(138,sZeroN)] Tryz.ntmps125 Tryz.func125 (by kernel_rfl) (by kernel_rfl) hU ⟨cTrimN,cZeroN hU,trivial⟩ ?_
 intro xs p r hs hp
 unfold sMade at hs
 split at hs
 · rename_i x n
   split at hs
   · rename_i l k hx
     cases hs
     have hk:=hp _ rfl
     refine ⟨[.f (.lr l k),.f (.v (.bool n))],[],.cons (limL_sub hx) (.cons (.refl _) .nil),rfl,fun hgx hg=>?_⟩
     refine cast_rfl (p:=k≤100000000∧∀ (z1:Nat),z1=vB l→ifB n (true=true∧Sub (PV.agg [PV.f (Lf.zd (↑z1:Int) (k+1)),PV.f (Lf.v (Value.bool !(↑(digs 1000000000 (↑z1:Int).natAbs).length:Int)==(0:Int)))]) (PV.agg [PV.f (Lf.zd (zV n l) (k+1)),PV.f (Lf.zn (zV n l))])) (true=true∧Sub (PV.agg [PV.f (Lf.zd (↑z1:Int) (k+1)),PV.f (Lf.v (Value.bool false))]) (PV.agg [PV.f (Lf.zd (zV n l) (k+1)),PV.f (Lf.zn (zV n l))]))) (by kernel_rfl) ?_
     refine ⟨?s0,fun z1=>fun hz1=>ifB_iff.2 ⟨fun hb0=>⟨rfl,?m0⟩,fun hb0=>⟨rfl,?m1⟩⟩⟩
     case s0=>exact hk
     case m0 =>
      subst hb0
      rw [show zV true l=zOf true (vB l) from rfl,← hz1,zOf_true]
      refine nP_sub (by rw [Int.natAbs_neg]) ?_
      rw [Int.natAbs_natCast,len_zero]
      unfold zNeg
      rw [Bool.eq_iff_iff,Bool.not_eq_true',decide_eq_false_iff_not,decide_eq_true_eq]
      omega
     case m1 =>
      subst hb0
      rw [show zV false l=zOf false (vB l) from rfl,← hz1,zOf_false]
      exact nP_sub rfl (by unfold zNeg; rw [decide_eq_false (by omega)])
   · cases hs
 · cases hs
theorem cOfN2:Contract Tryz.prog E 122 sOfN2:=by
 refine contract_loopsG [(125,sMade)] Tryz.ntmps122 Tryz.func122 (by kernel_rfl) (by kernel_rfl) hU ⟨cMade hU,trivial⟩ ?_
 intro xs p r hs hp
 unfold sOfN2 at hs
 split at hs
 · rename_i x
   split at hs
   · rename_i n l k j hx
     cases hs
     have hk:=hp _ rfl
     refine ⟨[rawP n l k],[],.cons (sub_raw hx) .nil,rfl,fun hgx hg=>?_⟩
     refine cast_rfl (p:=k≤100000000∧∀ (z1:Int),z1=zV n l→true=true∧Sub (PV.agg [PV.f (Lf.zd z1 (k+1)),PV.f (Lf.zn z1)]) (PV.agg [PV.f (Lf.zd (zV n l) (k+1)),PV.f (Lf.zn (zV n l))])) (by kernel_rfl) ?_
     refine ⟨?s0,fun z1=>fun hz1=>⟨rfl,?m0⟩⟩
     case s0=>exact hk
     case m0=>subst hz1; exact .refl _
   · cases hs
 · cases hs
theorem cOutN:Contract Tryz.prog E 93 sOutN:=by
 refine contract_loopsG [] Tryz.ntmps93 Tryz.func93 (by kernel_rfl) (by kernel_rfl) hU trivial ?_
 intro xs p r hs hp
 unfold sOutN at hs
 split at hs
 · rename_i z k z'
   cases hs
   obtain rfl:=hp _ rfl
   refine ⟨[nP z k],[],.cons (.refl _) .nil,rfl,fun hgx hg=>?_⟩
   refine cast_rfl (p:=true=true∧Sub (PV.agg [PV.f (Lf.v (Value.bool (zNeg z))),PV.f (Lf.zd z k)]) (PV.agg [PV.f (Lf.zn z),PV.f (Lf.zd z k)])) (by kernel_rfl) ?_
   refine ⟨rfl,?m0⟩
   case m0 =>
    refine ⟨fun H v hv=>?_⟩
    obtain ⟨vs,rfl,h1⟩:=PRs.of_agg hv
    match vs,h1.1 with
    | [p,q],_ =>
     have a0:=(h1.2 0 _ _ rfl rfl).val
     subst a0
     exact (PRs.cons (.f (.zn _)) (.cons (h1.2 1 _ _ rfl rfl) .nil)).agg
 · cases hs
theorem cCmpS:Contract Tryz.prog E 123 sCmpS:=by
 refine contract_loopsG [(136,sCmpN)] Tryz.ntmps123 Tryz.func123 (by kernel_rfl) (by kernel_rfl) hU ⟨cCmpN,trivial⟩ ?_
 intro xs p r hs hp
 unfold sCmpS at hs
 split at hs
 · rename_i z k z' k'
   cases hs
   obtain ⟨h1,h2⟩:=hp _ rfl
   refine ⟨[.agg [.f (.zd z k)],.agg [.f (.zd z' k')]],[],.cons (.refl _) (.cons (.refl _) .nil),rfl,fun hgx hg=>?_⟩
   refine cast_rfl (p:=(k≤100000000∧k'≤100000000)∧true=true∧Sub (PV.f (Lf.v (Value.int IntKind.i64 (cmpI (↑(vB (digs 1000000000 z.natAbs)):Int) (↑(vB (digs 1000000000 z'.natAbs)):Int))))) (PV.f (Lf.v (Value.int IntKind.i64 (cmpI (↑z.natAbs:Int) (↑z'.natAbs:Int)))))) (by kernel_rfl) ?_
   refine ⟨?s0,⟨rfl,?m0⟩⟩
   case s0=>exact ⟨by omega,by omega⟩
   case m0=>rw [vB_dgs,vB_dgs]; exact .refl _
 · cases hs
theorem cPlusGe:Contract Tryz.prog E 117 (sPlusN (fun z z'=>zNeg z=zNeg z'∨z'.natAbs≤z.natAbs)):=by
 refine contract_loopsG [(131,sAddL),(125,sMade),(123,sCmpS),(132,sSubL),(117,sPlusN (fun _ _=>False))] Tryz.ntmps117 Tryz.func117 (by kernel_rfl) (by kernel_rfl) hU ⟨cAddN,cMade hU,cCmpS hU,cSubN,cPlusNo,trivial⟩ ?_
 intro xs p r hs hp
 unfold sPlusN at hs
 split at hs
 · rename_i a k z a' k' z'
   cases hs
   obtain ⟨rfl,rfl,hk,hq⟩:=hp _ rfl
   refine ⟨[nP a k,nP a' k'],[],.cons (.refl _) (.cons (.refl _) .nil),rfl,fun hgx hg=>?_⟩
   refine cast_rfl (p:=ifB (zNeg a==zNeg a') (sizeL [(digs 1000000000 a.natAbs,k),(digs 1000000000 a'.natAbs,k')]≤10000000∧∀ (z1:Nat),z1=sumL' [(digs 1000000000 a.natAbs,k),(digs 1000000000 a'.natAbs,k')] 0→sizeL [(digs 1000000000 a.natAbs,k),(digs 1000000000 a'.natAbs,k')]≤100000000∧∀ (z2:Int),z2=zV (zNeg a) (digs 1000000000 (↑z1:Int).natAbs)→true=true∧Sub (PV.agg [PV.f (Lf.zd z2 (sizeL [(digs 1000000000 a.natAbs,k),(digs 1000000000 a'.natAbs,k')]+1)),PV.f (Lf.zn z2)]) (PV.agg [PV.f (Lf.zd (a+a') (k+k'+1)),PV.f (Lf.zn (a+a'))])) ((k≤10000000∧k'≤10000000)∧ifB (decide (cmpI (↑a.natAbs:Int) (↑a'.natAbs:Int)<(0:Int))) ((a'=a'∧a=a∧k'+k≤4500000∧False)∧∀ (z1:Int),z1=a'+a→true=true∧Sub (PV.agg [PV.f (Lf.zd z1 (k'+k+1)),PV.f (Lf.zn z1)]) (PV.agg [PV.f (Lf.zd (a+a') (k+k'+1)),PV.f (Lf.zn (a+a'))])) ((k≤10000000∧k'≤10000000)∧∀ (z1:Nat),z1=vB (digs 1000000000 a.natAbs) - vB (digs 1000000000 a'.natAbs)→k+1≤100000000∧∀ (z2:Int),z2=zV (zNeg a) (digs 1000000000 (↑z1:Int).natAbs)→true=true∧Sub (PV.agg [PV.f (Lf.zd z2 (k+1+1)),PV.f (Lf.zn z2)]) (PV.agg [PV.f (Lf.zd (a+a') (k+k'+1)),PV.f (Lf.zn (a+a'))])))) (by kernel_rfl) ?_
   refine ifB_iff.2 ⟨fun hb0=>⟨?s0,fun z1=>fun hz1=>⟨?s1,fun z2=>fun hz2=>⟨rfl,?m0⟩⟩⟩,fun hb0=>⟨?s2,ifB_iff.2 ⟨fun hb1=>⟨?s3,fun z1=>fun hz1=>⟨rfl,?m1⟩⟩,fun hb1=>⟨?s4,fun z1=>fun hz1=>⟨?s5,fun z2=>fun hz2=>⟨rfl,?m2⟩⟩⟩⟩⟩⟩
   all_goals have hA:ZB a k:=hgx.1.1.1
   all_goals have hB:ZB a' k':=hgx.2.1.1.1
   all_goals (try simp only [sizeL,sumL',vB_dgs,Nat.zero_add] at *)
   all_goals first | omega | exact ⟨by omega,by omega⟩ | skip
   case m0 =>
    have h1:zNeg a=zNeg a':=by simpa using hb0
    have:z2=a+a':=by
     rw [hz2,Int.natAbs_natCast,zV_dgs,hz1,zOf_add,zOf_self,h1,zOf_self]
    subst this
    exact nP_less (hA.add hB)
   case s3 =>
    rcases hq with h | h
    · rw [h] at hb0; simp at hb0
    · exact absurd (of_decide_eq_true hb1) (fun hc=>by
       rcases Int.lt_trichotomy (a.natAbs:Int) (a'.natAbs:Int) with h2 | h2 | h2
       · omega
       · rw [cmpI_eq h2] at hc; exact absurd hc (by decide)
       · rw [cmpI_gt h2] at hc; exact absurd hc (by decide))
   case m1 =>
    have:z1=a+a':=by omega
    subst this
    exact nP_less (hA.add hB)
   case m2 =>
    have h1:zNeg a≠zNeg a':=by simpa using hb0
    have hl:a'.natAbs≤a.natAbs:=by
     rcases hq with h | h
     · exact absurd h h1
     · exact h
    have:z2=a+a':=by
     rw [hz2,Int.natAbs_natCast,zV_dgs,hz1,plus_other h1 hl]
    subst this
    exact nP_less (hA.add hB)
 · cases hs
theorem cPlusN:Contract Tryz.prog E 117 (sPlusN (fun _ _=>True)):=by
 refine contract_loopsG [(131,sAddL),(125,sMade),(123,sCmpS),(132,sSubL),(117,sPlusN (fun z z'=>zNeg z=zNeg z'∨z'.natAbs≤z.natAbs))] Tryz.ntmps117 Tryz.func117 (by kernel_rfl) (by kernel_rfl) hU ⟨cAddN,cMade hU,cCmpS hU,cSubN,cPlusGe hU,trivial⟩ ?_
 intro xs p r hs hp
 unfold sPlusN at hs
 split at hs
 · rename_i a k z a' k' z'
   cases hs
   obtain ⟨rfl,rfl,hk,hq⟩:=hp _ rfl
   refine ⟨[nP a k,nP a' k'],[],.cons (.refl _) (.cons (.refl _) .nil),rfl,fun hgx hg=>?_⟩
   refine cast_rfl (p:=ifB (zNeg a==zNeg a') (sizeL [(digs 1000000000 a.natAbs,k),(digs 1000000000 a'.natAbs,k')]≤10000000∧∀ (z1:Nat),z1=sumL' [(digs 1000000000 a.natAbs,k),(digs 1000000000 a'.natAbs,k')] 0→sizeL [(digs 1000000000 a.natAbs,k),(digs 1000000000 a'.natAbs,k')]≤100000000∧∀ (z2:Int),z2=zV (zNeg a) (digs 1000000000 (↑z1:Int).natAbs)→true=true∧Sub (PV.agg [PV.f (Lf.zd z2 (sizeL [(digs 1000000000 a.natAbs,k),(digs 1000000000 a'.natAbs,k')]+1)),PV.f (Lf.zn z2)]) (PV.agg [PV.f (Lf.zd (a+a') (k+k'+1)),PV.f (Lf.zn (a+a'))])) ((k≤10000000∧k'≤10000000)∧ifB (decide (cmpI (↑a.natAbs:Int) (↑a'.natAbs:Int)<(0:Int))) ((a'=a'∧a=a∧k'+k≤4500000∧(zNeg a'=zNeg a∨a.natAbs≤a'.natAbs))∧∀ (z1:Int),z1=a'+a→true=true∧Sub (PV.agg [PV.f (Lf.zd z1 (k'+k+1)),PV.f (Lf.zn z1)]) (PV.agg [PV.f (Lf.zd (a+a') (k+k'+1)),PV.f (Lf.zn (a+a'))])) ((k≤10000000∧k'≤10000000)∧∀ (z1:Nat),z1=vB (digs 1000000000 a.natAbs) - vB (digs 1000000000 a'.natAbs)→k+1≤100000000∧∀ (z2:Int),z2=zV (zNeg a) (digs 1000000000 (↑z1:Int).natAbs)→true=true∧Sub (PV.agg [PV.f (Lf.zd z2 (k+1+1)),PV.f (Lf.zn z2)]) (PV.agg [PV.f (Lf.zd (a+a') (k+k'+1)),PV.f (Lf.zn (a+a'))])))) (by kernel_rfl) ?_
   refine ifB_iff.2 ⟨fun hb0=>⟨?s0,fun z1=>fun hz1=>⟨?s1,fun z2=>fun hz2=>⟨rfl,?m0⟩⟩⟩,fun hb0=>⟨?s2,ifB_iff.2 ⟨fun hb1=>⟨?s3,fun z1=>fun hz1=>⟨rfl,?m1⟩⟩,fun hb1=>⟨?s4,fun z1=>fun hz1=>⟨?s5,fun z2=>fun hz2=>⟨rfl,?m2⟩⟩⟩⟩⟩⟩
   all_goals have hA:ZB a k:=hgx.1.1.1
   all_goals have hB:ZB a' k':=hgx.2.1.1.1
   all_goals (try simp only [sizeL,sumL',vB_dgs,Nat.zero_add] at *)
   all_goals first | omega | exact ⟨by omega,by omega⟩ | skip
   case m0 =>
    have h1:zNeg a=zNeg a':=by simpa using hb0
    have:z2=a+a':=by
     rw [hz2,Int.natAbs_natCast,zV_dgs,hz1,zOf_add,zOf_self,h1,zOf_self]
    subst this
    exact nP_less (hA.add hB)
   case s3 =>
    refine ⟨trivial,trivial,by omega,.inr ?_⟩
    rcases Int.lt_trichotomy (a.natAbs:Int) (a'.natAbs:Int) with h2 | h2 | h2
    · omega
    · omega
    · have hc:=of_decide_eq_true hb1
      rw [cmpI_gt h2] at hc; exact absurd hc (by decide)
   case m1 =>
    have:z1=a+a':=by omega
    subst this
    exact nP_less (hA.add hB)
   case m2 =>
    have h1:zNeg a≠zNeg a':=by simpa using hb0
    have hl:a'.natAbs≤a.natAbs:=by
     rcases Int.lt_trichotomy (a.natAbs:Int) (a'.natAbs:Int) with h2 | h2 | h2
     · have hc:=of_decide_eq_false hb1
       rw [cmpI_lt h2] at hc; exact absurd (by decide) hc
     · omega
     · omega
    have:z2=a+a':=by
     rw [hz2,Int.natAbs_natCast,zV_dgs,hz1,plus_other h1 hl]
    subst this
    exact nP_less (hA.add hB)
 · cases hs
end
end Go.Proofs.YtpjjdngoblfleaaGreat
