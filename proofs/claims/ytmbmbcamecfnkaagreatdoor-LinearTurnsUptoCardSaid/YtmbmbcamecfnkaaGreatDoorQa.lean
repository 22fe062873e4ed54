/- The layer ratio by the pure run: one, positive, reduced. The layer ratio by the pure run: folds. The layer ratio by the pure run: its functions. The layer ratio by the pure run: Of, Mul, Div; the kit's SameRatio; few. The layer ratio by the pure run: Parse; the examples. -/
import Derived.Test.YtmbmbcamecfnkaaGreatDoorPn
set_option linter.unusedSimpArgs false
namespace Go.Proofs.YtmbmbcamecfnkaaGreatDoor
open Go.RowKit
set_option linter.unusedVariables false
set_option maxRecDepth 100000
theorem Qf9 (a b:Int):(cmpI a b==0)=decide (a=b):=by
 rcases Int.lt_trichotomy a b with h | h | h
 · rw [Qcd h,decide_eq_false (by omega)]; rfl
 · rw [Qg9 h,decide_eq_true h]; rfl
 · rw [Qce h,decide_eq_false (by omega)]; rfl
theorem Qqd (y:Int):gcd2 0 y=(y.natAbs:Int):=by unfold gcd2; rw [show (0:Int).natAbs=0 from rfl,Nat.gcd_zero_left]
theorem Qf2 (y x:Int):gcd2 (gcd2 0 y) x=gcd2 y x:=by rw [Qqd]; unfold gcd2; rw [Int.natAbs_natCast]
theorem Qcr {y x:Int} (hx:x≠0):0<gcd2 y x:=by
 unfold gcd2
 have:0<Nat.gcd y.natAbs x.natAbs:=Nat.gcd_pos_of_pos_right _ (by omega)
 omega
theorem QmP {y x:Int} {a:Int} (ha:(gcd2 y x:Int) ∣ a):Int.fdiv a (gcd2 y x)=a / gcd2 y x:=Int.fdiv_eq_ediv_of_dvd ha
theorem Qqf (y x:Int):gcd2 y x ∣ y:=Int.natAbs_dvd_natAbs.1 (by unfold gcd2; rw [Int.natAbs_natCast]; exact Nat.gcd_dvd_left _ _)
theorem Qqe (y x:Int):gcd2 y x ∣ x:=Int.natAbs_dvd_natAbs.1 (by unfold gcd2; rw [Int.natAbs_natCast]; exact Nat.gcd_dvd_right _ _)
theorem QmL (y x:Int):((x.gcd y:Nat):Int)=gcd2 y x:=by unfold gcd2; rw [Int.gcd_comm]; rfl
theorem QgG {y x:Int} (hx:0<x):Int.fdiv y (gcd2 y x)=(Rat.divInt y x).num:=by
 rw [QmP (Qqf y x),Rat.num_divInt,QmL,Int.sign_eq_one_of_pos hx,Int.one_mul]
theorem QgH {y x:Int} (hx:0<x):Int.fdiv x (gcd2 y x)=((Rat.divInt y x).den:Int):=by
 rw [QmP (Qqe y x),Rat.den_divInt,if_neg (by omega),Int.natCast_ediv,QmL]
 congr 1
 omega
theorem Qc1 (y x:Int):Rat.divInt (-y) (-x)=Rat.divInt y x:=Rat.neg_divInt_neg y x
def sOne:Spec
 | []=>some (none,.one (zP 1 3))
 | _=>none
def Qex:Spec
 | [x]=>match pvR x with
  | some ((n,l),k,_)=>some (some (k≤4000000),.one (.f (.v (.bool (decide (0<zV n l))))))
  | none=>none
 | _=>none
def qP (r:Rat) (k j:Nat):PV:=.agg [.f (.zn r.num),.f (.zd r.num k),.f (.zn r.den),.f (.zd r.den j)]
def QfQ:Spec
 | [x,y]=>match pvR x,pvR y with
  | some ((n,l),k,_),some ((n',l'),k',_)=>some (some (k≤435000∧k'≤435000∧zV n' l'≠0),.nm Rat (Rat.divInt (zV n l) (zV n' l')) fun r=>qP r (k+2) (k'+2))
  | _,_=>none
 | _=>none
def pvQ:PV→Option (((Bool × List Nat) × Nat × Nat) × ((Bool × List Nat) × Nat × Nat))
 | .agg [.f a,.f b,.f c,.f d]=>match asR a b,asR c d with
  | some x,some y=>some (x,y)
  | _,_=>none
 | _=>none
def rawQ (n:Bool) (l:List Nat) (k:Nat) (n':Bool) (l':List Nat) (k':Nat):PV:=.agg [.f (.v (.bool n)),.f (.lr l k),.f (.v (.bool n')),.f (.lr l' k')]
theorem Qbg {x:PV} {n n':Bool} {l l':List Nat} {k j k' j':Nat} (h:pvQ x=some (((n,l),k,j),((n',l'),k',j'))):Sub x (rawQ n l k n' l' k'):=by
 refine ⟨fun H v hv=>?_⟩
 unfold pvQ at h
 split at h
 · rename_i a b c d
   split at h
   · rename_i x y hx hy
     cases h
     obtain ⟨vs,rfl,h1⟩:=PRs.of_agg hv
     obtain ⟨p,q,r,s,rfl⟩:∃ p q r s,vs=[p,q,r,s]:=by
      have:=h1.1
      match vs,this with
      | [p,q,r,s],_=>exact ⟨p,q,r,s,rfl⟩
     obtain ⟨h3,h4⟩:=QgJ hx (h1.2 0 _ _ rfl rfl).rd (h1.2 1 _ _ rfl rfl).rd
     obtain ⟨h5,h6⟩:=QgJ hy (h1.2 2 _ _ rfl rfl).rd (h1.2 3 _ _ rfl rfl).rd
     exact (PRs.cons (.f h3) (.cons (.f h4) (.cons (.f h5) (.cons (.f h6) .nil)))).agg
   · cases h
 · cases h
def Qa7 (n:Bool) (l:List Nat) (n':Bool) (l':List Nat):Bool:=Qak n l && (Qak n' l' && (decide (0<zV n' l') && decide (gcd2 (zV n l) (zV n' l')=1)))
def Qaw (n:Bool) (l:List Nat) (n':Bool) (l':List Nat):Rat:=match Qa7 n l n' l' with | true=>Rat.divInt (zV n l) (zV n' l') | false=>0
def Qgu:Spec
 | [x]=>match pvQ x with
  | some (((n,l),k,_),((n',l'),k',_))=>some (some (k≤435000∧k'≤435000),.one (.f (.v (.bool (Qa7 n l n' l')))))
  | none=>none
 | _=>none
def sOfQ:Spec
 | [x]=>match pvQ x with
  | some (((n,l),k,_),((n',l'),k',_))=>some (some (k≤435000∧k'≤435000),.nm Rat (Qaw n l n' l') fun r=>qP r (k+3) (k'+3))
  | none=>none
 | _=>none
def Qpg:Spec
 | [x,y]=>match pvQ x,pvQ y with
  | some (((n,l),k,_),((n',l'),k',_)),some (((m,u),i,_),((m',u'),i',_))=>some (some (k≤100000∧k'≤100000∧i≤100000∧i'≤100000∧zV n' l'≠0∧zV m' u'≠0),
    .nm Rat (Rat.divInt (zV n l) (zV n' l')+Rat.divInt (zV m u) (zV m' u')) fun r=>qP r (k+k'+i+i'+20) (k'+i'+20))
  | _,_=>none
 | _=>none
def QkG:Spec
 | [x,y]=>match pvQ x,pvQ y with
  | some (((n,l),k,_),((n',l'),k',_)),some (((m,u),i,_),((m',u'),i',_))=>some (some (k≤100000∧k'≤100000∧i≤100000∧i'≤100000∧zV n' l'≠0∧zV m' u'≠0),
    .nm Rat (Rat.divInt (zV n l) (zV n' l') * Rat.divInt (zV m u) (zV m' u')) fun r=>qP r (k+i+20) (k'+i'+20))
  | _,_=>none
 | _=>none
theorem Qjk {n n':Bool} {l l':List Nat} (h:Qa7 n l n' l'=true):(Qaw n l n' l').num=zV n l∧((Qaw n l n' l').den:Int)=zV n' l':=by
 unfold Qaw
 rw [h]
 unfold Qa7 at h
 simp only [Bool.and_eq_true,decide_eq_true_eq] at h
 obtain ⟨-,-,h1,h2⟩:=h
 rw [← QgG h1,← QgH h1,h2]
 exact ⟨by rw [Int.fdiv_one],by rw [Int.fdiv_one]⟩
theorem Qib {n n':Bool} {l l':List Nat} (h:Qa7 n l n' l'=false):Qaw n l n' l'=0:=by
 unfold Qaw; rw [h]
section
variable {E : Env} (hU : Up E)
include hU
theorem cOne:Contract Tryz.prog E 77 sOne:=by
 refine Qao [(21,sOf)] Tryz.ntmps77 Tryz.func77 (by kernel_rfl) (by kernel_rfl) hU ⟨(cOf hU),trivial⟩ ?_
 intro xs p r hs hp
 unfold sOne at hs
 split at hs
 · cases hs
   refine ⟨[],.nil,rfl,?_⟩
   refine Qag (p:=((-9223372036854775808:Int)≤(1:Int)∧(1:Int)≤(9223372036854775807:Int))∧∀ (z1:Int),z1=(1:Int)→true=true∧Sub (PV.agg [PV.f (Lf.zn z1),PV.f (Lf.zd z1 3)]) (PV.agg [PV.f (Lf.zn (1:Int)),PV.f (Lf.zd (1:Int) 3)])) ?kr ?_
   case kr=>kernel_rfl
   refine ⟨?s0,fun z1=>fun hz1=>⟨rfl,?m0⟩⟩
   case s0=>decide
   case m0=>subst hz1; exact .refl _
 · cases hs
theorem Qkg:Contract Tryz.prog E 75 Qex:=by
 refine Qao [(35,sCmp)] Tryz.ntmps75 Tryz.func75 (by kernel_rfl) (by kernel_rfl) hU ⟨(cCmp hU),trivial⟩ ?_
 intro xs p r hs hp
 unfold Qex at hs
 split at hs
 · rename_i x
   split at hs
   · rename_i n l k j hx
     cases hs
     have hk:=hp _ rfl
     refine ⟨[rawP n l k],.cons (QaG hx) .nil,rfl,?_⟩
     refine Qag (p:=k+0≤9000000∧true=true∧Sub (PV.f (Lf.v (Value.bool (decide (cmpI (zV n l) (zV false []) > (0:Int)))))) (PV.f (Lf.v (Value.bool (decide ((0:Int)<zV n l)))))) ?kr ?_
     case kr=>kernel_rfl
     refine ⟨?s0,⟨rfl,?m0⟩⟩
     case s0=>omega
     case m0 =>
      refine QbZ ?_
      have e:zV false []=0:=rfl
      rw [e]
      rcases Int.lt_trichotomy (zV n l) 0 with h | h | h
      · rw [Qcd h,decide_eq_false (by decide),decide_eq_false (by omega)]
      · rw [Qg9 h,decide_eq_false (by decide),decide_eq_false (by omega)]
      · rw [Qce h,decide_eq_true (by decide),decide_eq_true (by omega)]
   · cases hs
 · cases hs
theorem Qnb:Contract Tryz.prog E 225 QfQ:=by
 refine Qao [(75,Qex),(82,sNeg),(76,sGcd),(289,sDiv)] Tryz.ntmps225 Tryz.func225 (by kernel_rfl) (by kernel_rfl) hU ⟨Qkg hU,(cNeg hU),(cGcd hU),(cDiv hU),trivial⟩ ?_
 intro xs p r hs hp
 unfold QfQ at hs
 split at hs
 · rename_i x y
   split at hs
   · rename_i n l k j n' l' k' j' hx hy
     cases hs
     obtain ⟨hk,hk',h0⟩:=hp _ rfl
     refine ⟨[rawP n l k,rawP n' l' k'],.cons (QaG hx) (.cons (QaG hy) .nil),rfl,?_⟩
     refine Qag (p:=let A1:=fun (z1:Int)=>(zV (zNeg z1) (digs 1000000000 z1.natAbs)); let A2:=0+(k+1)+1+(k'+1)+1; let A3:=Rat.divInt (zV n l) (zV n' l'); let A4:=fun (z3:Int)=>(zV (zNeg z3) (digs 1000000000 z3.natAbs)); let A0:=PV.agg [PV.f (Lf.zn A3.num),PV.f (Lf.zd A3.num (k+2)),PV.f (Lf.zn (↑A3.den:Int)),PV.f (Lf.zd (↑A3.den:Int) (k'+2))]; k'≤4000000∧ifB (!decide ((0:Int)<zV n' l')) (k≤10000000∧∀ (z1:Int),z1=-zV n l→k'≤10000000∧∀ (z2:Int),z2=-zV n' l'→k+1+2+(k'+1+2+0)≤2000000∧∀ (z3:Int),z3=gcd2 (gcd2 (0:Int) (A1 z1)) (zV (zNeg z2) (digs 1000000000 z2.natAbs))→(k+1+2 * A2≤4400000∧zV (zNeg z3) (digs 1000000000 z3.natAbs)≠(0:Int))∧∀ (z4:Int),z4=(A1 z1).fdiv (A4 z3)→∀ (z5:Int),z5=(A1 z1).fmod (A4 z3)→(k'+1+2 * A2≤4400000∧zV (zNeg z3) (digs 1000000000 z3.natAbs)≠(0:Int))∧∀ (z6:Int),z6=(zV (zNeg z2) (digs 1000000000 z2.natAbs)).fdiv (A4 z3)→∀ (z7:Int),z7=(zV (zNeg z2) (digs 1000000000 z2.natAbs)).fmod (A4 z3)→true=true∧Sub (PV.agg [PV.f (Lf.zn z4),PV.f (Lf.zd z4 (k+1+1)),PV.f (Lf.zn z6),PV.f (Lf.zd z6 (k'+1+1))]) A0) (k+2+(k'+2+0)≤2000000∧∀ (z1:Int),z1=gcd2 (gcd2 (0:Int) (zV n l)) (zV n' l')→(k+2 * A2≤4400000∧zV (zNeg z1) (digs 1000000000 z1.natAbs)≠(0:Int))∧∀ (z2:Int),z2=(zV n l).fdiv (A1 z1)→∀ (z3:Int),z3=(zV n l).fmod (A1 z1)→(k'+2 * A2≤4400000∧zV (zNeg z1) (digs 1000000000 z1.natAbs)≠(0:Int))∧∀ (z4:Int),z4=(zV n' l').fdiv (A1 z1)→∀ (z5:Int),z5=(zV n' l').fmod (A1 z1)→true=true∧Sub (PV.agg [PV.f (Lf.zn z2),PV.f (Lf.zd z2 (k+1+1)),PV.f (Lf.zn z4),PV.f (Lf.zd z4 (k'+1+1))]) A0)) ?kr ?_
     case kr=>kernel_rfl
     conv=>zeta
     refine ⟨?s0,Qae.2 ⟨fun hb0=>⟨?s1,fun z1=>fun hz1=>⟨?s2,fun z2=>fun hz2=>⟨?s3,fun z3=>fun hz3=>⟨?s4,fun z4=>fun hz4=>fun z5=>fun hz5=>⟨?s5,fun z6=>fun hz6=>fun z7=>fun hz7=>⟨rfl,?m0⟩⟩⟩⟩⟩⟩,fun hb0=>⟨?s6,fun z1=>fun hz1=>⟨?s7,fun z2=>fun hz2=>fun z3=>fun hz3=>⟨?s8,fun z4=>fun hz4=>fun z5=>fun hz5=>⟨rfl,?m1⟩⟩⟩⟩⟩⟩
     all_goals (try simp only [QaI,Qf2] at *)
     case s0=>omega
     case s1=>omega
     case s2=>omega
     case s3=>omega
     case s4 =>
      subst hz2
      exact ⟨by omega,by have:=Qcr (y:=z1) (x:=-zV n' l') (by omega); omega⟩
     case s5 =>
      subst hz2
      exact ⟨by omega,by have:=Qcr (y:=z1) (x:=-zV n' l') (by omega); omega⟩
     case m0 =>
      simp at hb0
      have hx0:0<z2:=by omega
      refine Subl.agg (.zd ?_ (by omega) (.zd ?_ (by omega) .nil))
      · rw [hz4,hz3,QgG hx0,hz1,hz2,Qc1]
      · rw [hz6,hz3,QgH hx0,hz1,hz2,Qc1]
     case s6=>omega
     case s7=>exact ⟨by omega,by have:=Qcr (y:=zV n l) (x:=zV n' l') h0; omega⟩
     case s8=>exact ⟨by omega,by have:=Qcr (y:=zV n l) (x:=zV n' l') h0; omega⟩
     case m1 =>
      simp at hb0
      refine Subl.agg (.zd ?_ (by omega) (.zd ?_ (by omega) .nil))
      · rw [hz2,hz1,QgG hb0]
      · rw [hz4,hz1,QgH hb0]
   · cases hs
 · cases hs
theorem Qlw:Contract Tryz.prog E 16 Qgu:=by
 refine Qao [(73,Qgw),(75,Qex),(76,sGcd),(77,sOne),(35,sCmp)] Tryz.ntmps16 Tryz.func16 (by kernel_rfl) (by kernel_rfl) hU ⟨(Qna hU),Qkg hU,(cGcd hU),cOne hU,(cCmp hU),trivial⟩ ?_
 intro xs p r hs hp
 unfold Qgu at hs
 split at hs
 · rename_i x
   split at hs
   · rename_i n l k j n' l' k' j' hx
     cases hs
     obtain ⟨hk,hk'⟩:=hp _ rfl
     refine ⟨[rawQ n l k n' l' k'],.cons (Qbg hx) .nil,rfl,?_⟩
     refine Qag (p:=k≤100000000∧ifB (Qak n l) (k'≤100000000∧ifB (Qak n' l') (k'≤4000000∧ifB (decide ((0:Int)<zV n' l')) (k+2+(k'+2+0)≤2000000∧∀ (z1:Int),z1=gcd2 (gcd2 (0:Int) (zV n l)) (zV n' l')→0+(k+1)+1+(k'+1)+1+3≤9000000∧true=true∧Sub (PV.f (Lf.v (Value.bool (cmpI (zV (zNeg z1) (digs 1000000000 z1.natAbs)) (zV (zNeg (1:Int)) (digs 1000000000 (Int.natAbs (1:Int))))==(0:Int))))) (PV.f (Lf.v (Value.bool (Qa7 n l n' l'))))) (true=true∧Sub (PV.f (Lf.v (Value.bool false))) (PV.f (Lf.v (Value.bool (Qa7 n l n' l')))))) (true=true∧Sub (PV.f (Lf.v (Value.bool false))) (PV.f (Lf.v (Value.bool (Qa7 n l n' l')))))) (true=true∧Sub (PV.f (Lf.v (Value.bool false))) (PV.f (Lf.v (Value.bool (Qa7 n l n' l')))))) ?kr ?_
     case kr=>kernel_rfl
     refine ⟨?s0,Qae.2 ⟨fun hb0=>⟨?s1,Qae.2 ⟨fun hb1=>⟨?s2,Qae.2 ⟨fun hb2=>⟨?s3,fun z1=>fun hz1=>⟨?s4,⟨rfl,?m0⟩⟩⟩,fun hb2=>⟨rfl,?m1⟩⟩⟩,fun hb1=>⟨rfl,?m2⟩⟩⟩,fun hb0=>⟨rfl,?m3⟩⟩⟩
     all_goals (try simp only [QaI,Qf2] at *)
     all_goals first | omega | skip
     all_goals refine QbZ ?_
     all_goals unfold Qa7
     case m0=>rw [Qf9,hb0,hb1,hb2,hz1]; rfl
     case m1=>rw [hb0,hb1,hb2]; rfl
     case m2=>rw [hb0,hb1]; rfl
     case m3=>rw [hb0]; rfl
   · cases hs
 · cases hs
theorem cOfQ:Contract Tryz.prog E 79 sOfQ:=by
 refine Qao [(16,Qgu),(77,sOne),(32,sAdd)] Tryz.ntmps79 Tryz.func79 (by kernel_rfl) (by kernel_rfl) hU ⟨Qlw hU,cOne hU,(cAdd hU),trivial⟩ ?_
 intro xs p r hs hp
 unfold sOfQ at hs
 split at hs
 · rename_i x
   split at hs
   · rename_i n l k j n' l' k' j' hx
     cases hs
     obtain ⟨hk,hk'⟩:=hp _ rfl
     refine ⟨[rawQ n l k n' l' k'],.cons (Qbg hx) .nil,rfl,?_⟩
     refine Qag (p:=(k≤435000∧k'≤435000)∧ifB (!Qa7 n l n' l') (true=true∧Sub (PV.agg [PV.f (Lf.v (Value.bool false)),nlP,PV.f (Lf.zn (1:Int)),PV.f (Lf.zd (1:Int) 3)]) (PV.agg [PV.f (Lf.zn (Qaw n l n' l').num),PV.f (Lf.zd (Qaw n l n' l').num (k+3)),PV.f (Lf.zn (↑(Qaw n l n' l').den:Int)),PV.f (Lf.zd (↑(Qaw n l n' l').den:Int) (k'+3))])) (k+2+0≤2000000∧∀ (z1:Int),z1=(0:Int)+zV n l→k'+2+0≤2000000∧∀ (z2:Int),z2=(0:Int)+zV n' l'→true=true∧Sub (PV.agg [PV.f (Lf.zn z1),PV.f (Lf.zd z1 (0+(k+1)+1)),PV.f (Lf.zn z2),PV.f (Lf.zd z2 (0+(k'+1)+1))]) (PV.agg [PV.f (Lf.zn (Qaw n l n' l').num),PV.f (Lf.zd (Qaw n l n' l').num (k+3)),PV.f (Lf.zn (↑(Qaw n l n' l').den:Int)),PV.f (Lf.zd (↑(Qaw n l n' l').den:Int) (k'+3))]))) ?kr ?_
     case kr=>kernel_rfl
     refine ⟨?s0,Qae.2 ⟨fun hb0=>⟨rfl,?m0⟩,fun hb0=>⟨?s1,fun z1=>fun hz1=>⟨?s2,fun z2=>fun hz2=>⟨rfl,?m1⟩⟩⟩⟩⟩
     all_goals (try simp only [QaI,Qf2] at *)
     all_goals first | omega | skip
     case m0 =>
      rw [Bool.not_eq_true'] at hb0
      rw [Qib hb0]
      exact Subl.agg (.zero rfl (.zd rfl (by omega) .nil))
     case m1 =>
      rw [Bool.not_eq_false'] at hb0
      obtain ⟨h1,h2⟩:=Qjk hb0
      exact Subl.agg (.zd (by rw [h1,hz1]; omega) (by omega) (.zd (by rw [h2,hz2]; omega) (by omega) .nil))
   · cases hs
 · cases hs
theorem cPlusQ:Contract Tryz.prog E 224 Qpg:=by
 refine Qao [(34,sMul),(32,sAdd),(225,QfQ)] Tryz.ntmps224 Tryz.func224 (by kernel_rfl) (by kernel_rfl) hU ⟨(cMul hU),(cAdd hU),Qnb hU,trivial⟩ ?_
 intro xs p r hs hp
 unfold Qpg at hs
 split at hs
 · rename_i x y
   split at hs
   · rename_i n l k j n' l' k' j' m u i _ m' u' i' _ hx hy
     cases hs
     obtain ⟨hk,hk',hi,hi',h1,h2⟩:=hp _ rfl
     refine ⟨[rawQ n l k n' l' k',rawQ m u i m' u' i'],.cons (Qbg hx) (.cons (Qbg hy) .nil),rfl,?_⟩
     refine Qag (p:=k+2+(i'+2+0)≤2000000∧∀ (z1:Int),z1=(1:Int) * zV n l * zV m' u'→i+2+(k'+2+0)≤2000000∧∀ (z2:Int),z2=(1:Int) * zV m u * zV n' l'→1+(k+1)+(i'+1)+2+(1+(i+1)+(k'+1)+2+0)≤2000000∧∀ (z3:Int),z3=(0:Int)+zV (zNeg z1) (digs 1000000000 z1.natAbs)+zV (zNeg z2) (digs 1000000000 z2.natAbs)→k'+2+(i'+2+0)≤2000000∧∀ (z4:Int),z4=(1:Int) * zV n' l' * zV m' u'→(0+(1+(k+1)+(i'+1))+1+(1+(i+1)+(k'+1))+1≤435000∧1+(k'+1)+(i'+1)≤435000∧zV (zNeg z4) (digs 1000000000 z4.natAbs)≠(0:Int))∧∀ (z5:Rat),z5=Rat.divInt (zV (zNeg z3) (digs 1000000000 z3.natAbs)) (zV (zNeg z4) (digs 1000000000 z4.natAbs))→true=true∧Sub (PV.agg [PV.f (Lf.zn z5.num),PV.f (Lf.zd z5.num (0+(1+(k+1)+(i'+1))+1+(1+(i+1)+(k'+1))+1+2)),PV.f (Lf.zn (↑z5.den:Int)),PV.f (Lf.zd (↑z5.den:Int) (1+(k'+1)+(i'+1)+2))]) (PV.agg [PV.f (Lf.zn (Rat.divInt (zV n l) (zV n' l')+Rat.divInt (zV m u) (zV m' u')).num),PV.f (Lf.zd (Rat.divInt (zV n l) (zV n' l')+Rat.divInt (zV m u) (zV m' u')).num (k+k'+i+i'+20)),PV.f (Lf.zn (↑(Rat.divInt (zV n l) (zV n' l')+Rat.divInt (zV m u) (zV m' u')).den:Int)),PV.f (Lf.zd (↑(Rat.divInt (zV n l) (zV n' l')+Rat.divInt (zV m u) (zV m' u')).den:Int) (k'+i'+20))])) ?kr ?_
     case kr=>kernel_rfl
     refine ⟨?s0,fun z1=>fun hz1=>⟨?s1,fun z2=>fun hz2=>⟨?s2,fun z3=>fun hz3=>⟨?s3,fun z4=>fun hz4=>⟨?s4,fun z5=>fun hz5=>⟨rfl,?m0⟩⟩⟩⟩⟩⟩
     all_goals (try simp only [QaI] at *)
     all_goals first | omega | skip
     case s4=>exact ⟨by omega,by omega,by rw [hz4]; simp [h1,h2]⟩
     case m0 =>
      have e:z5=Rat.divInt (zV n l) (zV n' l')+Rat.divInt (zV m u) (zV m' u'):=by
       rw [Rat.divInt_add_divInt _ _ h1 h2,hz5,hz3,hz4,hz1,hz2]
       simp only [Int.one_mul,Int.zero_add]
      rw [e]
      exact Subl.agg (.zd rfl (by omega) (.zd rfl (by omega) .nil))
   · cases hs
 · cases hs
theorem Quo:Contract Tryz.prog E 146 QkG:=by
 refine Qao [(34,sMul),(225,QfQ)] Tryz.ntmps146 Tryz.func146 (by kernel_rfl) (by kernel_rfl) hU ⟨(cMul hU),Qnb hU,trivial⟩ ?_
 intro xs p r hs hp
 unfold QkG at hs
 split at hs
 · rename_i x y
   split at hs
   · rename_i n l k j n' l' k' j' m u i _ m' u' i' _ hx hy
     cases hs
     obtain ⟨hk,hk',hi,hi',h1,h2⟩:=hp _ rfl
     refine ⟨[rawQ n l k n' l' k',rawQ m u i m' u' i'],.cons (Qbg hx) (.cons (Qbg hy) .nil),rfl,?_⟩
     refine Qag (p:=k+2+(i+2+0)≤2000000∧∀ (z1:Int),z1=(1:Int) * zV n l * zV m u→k'+2+(i'+2+0)≤2000000∧∀ (z2:Int),z2=(1:Int) * zV n' l' * zV m' u'→(1+(k+1)+(i+1)≤435000∧1+(k'+1)+(i'+1)≤435000∧zV (zNeg z2) (digs 1000000000 z2.natAbs)≠(0:Int))∧∀ (z3:Rat),z3=Rat.divInt (zV (zNeg z1) (digs 1000000000 z1.natAbs)) (zV (zNeg z2) (digs 1000000000 z2.natAbs))→true=true∧Sub (PV.agg [PV.f (Lf.zn z3.num),PV.f (Lf.zd z3.num (1+(k+1)+(i+1)+2)),PV.f (Lf.zn (↑z3.den:Int)),PV.f (Lf.zd (↑z3.den:Int) (1+(k'+1)+(i'+1)+2))]) (PV.agg [PV.f (Lf.zn (Rat.divInt (zV n l) (zV n' l') * Rat.divInt (zV m u) (zV m' u')).num),PV.f (Lf.zd (Rat.divInt (zV n l) (zV n' l') * Rat.divInt (zV m u) (zV m' u')).num (k+i+20)),PV.f (Lf.zn (↑(Rat.divInt (zV n l) (zV n' l') * Rat.divInt (zV m u) (zV m' u')).den:Int)),PV.f (Lf.zd (↑(Rat.divInt (zV n l) (zV n' l') * Rat.divInt (zV m u) (zV m' u')).den:Int) (k'+i'+20))])) ?kr ?_
     case kr=>kernel_rfl
     refine ⟨?s0,fun z1=>fun hz1=>⟨?s1,fun z2=>fun hz2=>⟨?s2,fun z3=>fun hz3=>⟨rfl,?m0⟩⟩⟩⟩
     all_goals (try simp only [QaI] at *)
     all_goals first | omega | skip
     case s2=>exact ⟨by omega,by omega,by rw [hz2]; simp [h1,h2]⟩
     case m0 =>
      have e:z3=Rat.divInt (zV n l) (zV n' l') * Rat.divInt (zV m u) (zV m' u'):=by
       rw [Rat.divInt_mul_divInt,hz3,hz1,hz2]
       simp only [Int.one_mul]
      rw [e]
      exact Subl.agg (.zd rfl (by omega) (.zd rfl (by omega) .nil))
   · cases hs
 · cases hs
end
end Go.Proofs.YtmbmbcamecfnkaaGreatDoor
namespace Go.Proofs.YtmbmbcamecfnkaaGreatDoor
open Go.RowKit
set_option linter.unusedVariables false
set_option maxRecDepth 100000
abbrev QE:=(Bool × List Nat × Nat) × (Bool × List Nat × Nat)
def entQ:List Lf→Option QE
 | [a,b,c,d]=>match asR a b,asR c d with
  | some ((n,l),k,_),some ((n',l'),k',_)=>some ((n,l,k),(n',l',k'))
  | _,_=>none
 | _=>none
def QkP:List (List Lf)→Option (List QE)
 | []=>some []
 | r::L=>match entQ r,QkP L with
  | some x,some l=>some (x::l)
  | _,_=>none
def Qgo:Lf→Option (List QE)
 | .row 4 L=>QkP L
 | .qs L=>some L
 | .v (.slice none 0 0)=>some []
 | _=>none
theorem Qme:∀ {L:List (List Lf)} {l:List QE},QkP L=some l→l.length=L.length∧∀ (i:Nat) x,l[i]?=some x→∃ r,L[i]?=some r∧entQ r=some x
 | [],l,h=>by simp only [QkP,Option.some.injEq] at h; subst h; simp
 | r::L,l,h=>by
  simp only [QkP] at h
  split at h
  · rename_i x l' hx hl
    cases h
    obtain ⟨h1,h2⟩:=Qme hl
    refine ⟨by simp [h1],fun i y hy=>?_⟩
    cases i with
    | zero=>simp at hy; subst hy; exact ⟨r,rfl,hx⟩
    | succ i=>simpa using h2 i y (by simpa using hy)
  · cases h
theorem Qhy {y:Lf} {L:List QE} (h:Qgo y=some L):Sub (.f y) (.f (.qs L)):=by
 refine ⟨fun H v hv=>?_⟩
 unfold Qgo at h
 split at h
 · rename_i R
   obtain ⟨h1,h2⟩:=Qme h
   have hr:=hv.rd
   cases hr with
   | @sl _ k n get ao cap hview hg hc hm h0 b o val hb hcell hk hrec =>
    simp only [Lf.view,Option.some.injEq,Prod.mk.injEq] at hview
    obtain ⟨rfl,rfl,rfl⟩:=hview
    refine .f (.slf (fun _=>rfl) (f:=.qs L) (k:=4) (n:=R.length) (get:=fun i=>[.v (.bool (L.getD i ((false,[],0),(false,[],0))).1.1),.lr (L.getD i ((false,[],0),(false,[],0))).1.2.1 (L.getD i ((false,[],0),(false,[],0))).1.2.2,.v (.bool (L.getD i ((false,[],0),(false,[],0))).2.1),.lr (L.getD i ((false,[],0),(false,[],0))).2.2.1 (L.getD i ((false,[],0),(false,[],0))).2.2.2]) (by simp [Lf.view,h1]) trivial hc hm h0 b o val hb hcell (fun i hi=>rfl) (fun i hi j x hx=>?_))
    have hil:i<L.length:=by rw [h1]; exact hi
    obtain ⟨r,h3,h4⟩:=h2 i _ (List.getElem?_eq_getElem hil)
    have hget:R.getD i []=r:=by rw [List.getD_eq_getElem?_getD,h3]; rfl
    have hLi:L.getD i ((false,[],0),(false,[],0))=L[i]:=by rw [List.getD_eq_getElem?_getD,List.getElem?_eq_getElem hil]; rfl
    rw [hLi] at hx
    generalize L[i]=e at h4 hx
    unfold entQ at h4
    split at h4
    · rename_i p q s t
      split at h4
      · rename_i n l k' j1 n' l' k'' j2 ha hb'
        cases h4
        obtain ⟨r0,r1⟩:=QgJ ha (hrec i hi 0 p (by show (R.getD i [])[0]?=_; rw [hget]; rfl)) (hrec i hi 1 q (by show (R.getD i [])[1]?=_; rw [hget]; rfl))
        obtain ⟨r2,r3⟩:=QgJ hb' (hrec i hi 2 s (by show (R.getD i [])[2]?=_; rw [hget]; rfl)) (hrec i hi 3 t (by show (R.getD i [])[3]?=_; rw [hget]; rfl))
        match j with
        | 0=>simp at hx; subst hx; exact r0
        | 1=>simp at hx; subst hx; exact r1
        | 2=>simp at hx; subst hx; exact r2
        | 3=>simp at hx; subst hx; exact r3
        | j+4=>simp at hx
      · cases h4
    · cases h4
 · cases h; exact hv
 · cases h
   have:=hv.val
   subst this
   exact .f (QgQ rfl trivial)
 · cases h
def ofE (e:QE):Rat:=Qaw e.1.1 e.1.2.1 e.2.1 e.2.2.1
def bPl (b:Nat × Nat) (e:QE):Nat × Nat:=(b.1+b.2+(e.1.2.2+3)+(e.2.2.2+3)+20,b.2+(e.2.2.2+3)+20)
def bTi (b:Nat × Nat) (e:QE):Nat × Nat:=(b.1+(e.1.2.2+3)+20,b.2+(e.2.2.2+3)+20)
def qL (r:Rat) (k j:Nat):List PV:=[.f (.zn r.num),.f (.zd r.num k),.f (.zn r.den),.f (.zd r.den j)]
def QnD (f:FuncId) (op:Rat→Rat→Rat) (bn:Nat × Nat→QE→Nat × Nat):Spec
 | [.agg [.f (.zn a),.f (.zd a' k),.f (.zn b),.f (.zd b' j)],.f (.v (.func (.func g) x z)),.f y]=>match Qgo y,Nat.beq g f,x.size,z.size with
  | some L,true,0,0=>some (some (a=a'∧b=b'∧(Rat.divInt a b).num=a∧((Rat.divInt a b).den:Int)=b∧(L.foldl bn (k,j)).1≤95000∧(L.foldl bn (k,j)).2≤95000∧L.length≤1000000),
    .nm Rat (L.foldl (fun a e=>op a (ofE e)) (Rat.divInt a b)) fun r=>qP r (L.foldl bn (k,j)).1 (L.foldl bn (k,j)).2)
  | _,_,_,_=>none
 | _=>none
theorem Qgm {z z':Int} (h:z=z'):SubB (.f (.zn z)) (.f (.zn z')):=by subst h; exact .refl _
theorem Qdj {z z':Int} {k k':Nat} (h:z=z') (hk:k≤k'):SubB (.f (.zd z k)) (.f (.zd z' k')):=by
 subst h; exact ⟨fun H B v hv=>.f (Qkq hv.rd hk)⟩
theorem Qa8 {α β:Type} (f:β→α→β) (b:β) (L:List α) (d:α) {i:Nat} (h:i<L.length):(L.take (i+1)).foldl f b=f ((L.take i).foldl f b) (L.getD i d):=by
 rw [List.take_succ_eq_append_getElem h,List.foldl_append,List.getD_eq_getElem?_getD,List.getElem?_eq_getElem h]; rfl
theorem Qsg (L M:List QE) (b:Nat × Nat):(L.foldl bPl b).1≤((L++M).foldl bPl b).1∧(L.foldl bPl b).2≤((L++M).foldl bPl b).2:=by
 rw [List.foldl_append]
 generalize L.foldl bPl b=c
 induction M generalizing c with
 | nil=>exact ⟨Nat.le_refl _,Nat.le_refl _⟩
 | cons e M ih=>obtain ⟨h1,h2⟩:=ih (bPl c e); simp only [List.foldl_cons]; unfold bPl at h1 h2 ⊢; dsimp only at h1 h2; exact ⟨by omega,by omega⟩
theorem Qsf (L M:List QE) (b:Nat × Nat):(L.foldl bTi b).1≤((L++M).foldl bTi b).1∧(L.foldl bTi b).2≤((L++M).foldl bTi b).2:=by
 rw [List.foldl_append]
 generalize L.foldl bTi b=c
 induction M generalizing c with
 | nil=>exact ⟨Nat.le_refl _,Nat.le_refl _⟩
 | cons e M ih=>obtain ⟨h1,h2⟩:=ih (bTi c e); simp only [List.foldl_cons]; unfold bTi at h1 h2 ⊢; dsimp only at h1 h2; exact ⟨by omega,by omega⟩
theorem Qjp {a a' b b':Int} {k j:Nat} (ha:a=a') (hb:b=b') (h1:(Rat.divInt a b).num=a) (h2:((Rat.divInt a b).den:Int)=b):Sub (.agg [.f (.zn a),.f (.zd a' k),.f (.zn b),.f (.zd b' j)]) (.agg (qL (Rat.divInt a b) k j)):=by
 subst ha hb
 unfold qL
 rw [h1,h2]
 exact .refl _
section
variable {E : Env} (hU : Up E)
include hU
theorem cFoldP:Contract Tryz.prog E 145 (QnD 224 (fun a b=>a+b) bPl):=by
 refine Qa9 [(79,sOfQ),(224,Qpg)] Tryz.ntmps145 Tryz.func145 (by kernel_rfl) (by kernel_rfl) hU ⟨cOfQ hU,cPlusQ hU,trivial⟩ ?_
 intro xs p r hs hp
 unfold QnD at hs
 split at hs
 · rename_i a a' k b b' j g x z y
   split at hs
   · rename_i L hy hg hx hz
     cases hs
     obtain ⟨ha,hb,h1,h2,hk,hj,hL⟩:=hp _ rfl
     obtain rfl:x=#[]:=Array.eq_empty_of_size_eq_zero hx
     obtain rfl:z=#[]:=Array.eq_empty_of_size_eq_zero hz
     obtain rfl:=Nat.eq_of_beq_eq_true hg
     refine ⟨[.agg (qL (Rat.divInt a b) k j),.f (.v (.func (.func 224) #[] #[])),.f (.qs L)],
      [(2,.s ⟨Nat,fun i=>⟨[(1,.f (.v (.func (.func 224) #[] #[]))),(3,.bp 0 0),(6,.bp 1 0),(9,.f (.qs L)),(10,.f (.v (.int .i64 L.length))),(11,.f (.v (.int .i64 i)))],
       [.cells (qL ((L.take i).foldl (fun a e=>a+ofE e) (Rat.divInt a b)) ((L.take i).foldl bPl (k,j)).1 ((L.take i).foldl bPl (k,j)).2),.cells [.f (.v (.bool false)),.f (.v (.slice none 0 0)),.f (.v (.bool false)),.f (.v (.slice none 0 0))]]⟩,fun i=>i≤L.length,fun i=>L.length - i⟩)],.cons (Qjp ha hb h1 h2) (.cons (.refl _) (.cons (Qhy hy) .nil)),rfl,?_⟩
     have key:∀ i,i<L.length→(L.getD i ((false,[],0),(false,[],0))).1.2.2+3≤95000∧(L.getD i ((false,[],0),(false,[],0))).2.2.2+3≤95000∧((L.take i).foldl bPl (k,j)).1≤95000∧((L.take i).foldl bPl (k,j)).2≤95000 ∧
       (L.take (i+1)).foldl bPl (k,j)=bPl ((L.take i).foldl bPl (k,j)) (L.getD i ((false,[],0),(false,[],0))):=by
      intro i hi
      have h3:=Qa8 bPl (k,j) L ((false,[],0),(false,[],0)) hi
      have h4:=Qsg (L.take (i+1)) (L.drop (i+1)) (k,j)
      rw [List.take_append_drop,h3] at h4
      generalize (L.take i).foldl bPl (k,j)=B at *
      generalize L.foldl bPl (k,j)=F at *
      generalize L.getD i ((false,[],0),(false,[],0))=e at *
      unfold bPl at h4
      dsimp only at h4
      exact ⟨by omega,by omega,by omega,by omega,h3⟩
     have hden:∀ q:Rat,(q.den:Int)≠0:=fun q=>by have:=q.den_pos; omega
     refine Qag (p:=let A0:=fun (a:Rat) (e:QE)=>a+ofE e; let A1:=fun (z2:Nat)=>(L.getD (↑z2:Int).toNat ((false,[],0),false,[],0)); let A3:=Rat.divInt a b; let A4:=fun (z2:Nat)=>(List.foldl bPl (k,j) (List.take z2 L)); let A5:=rfB (PV.f (Lf.v (Value.bool false)))∧rfB (nlP)∧rfB (PV.f (Lf.v (Value.bool false)))∧rfB (nlP)∧True; let A2:=fun (z2:Nat)=>(List.foldl A0 A3 (List.take z2 L)); ∃ (x1:Nat),(((SubB (PV.f (Lf.zn A3.num)) (PV.f (Lf.zn (List.foldl A0 A3 (List.take x1 L)).num))∧SubB (PV.f (Lf.zd A3.num k)) (PV.f (Lf.zd (List.foldl A0 A3 (List.take x1 L)).num (List.foldl bPl (k,j) (List.take x1 L)).fst))∧SubB (PV.f (Lf.zn (↑A3.den:Int))) (PV.f (Lf.zn (↑(List.foldl A0 A3 (List.take x1 L)).den:Int)))∧SubB (PV.f (Lf.zd (↑A3.den:Int) j)) (PV.f (Lf.zd (↑(List.foldl A0 A3 (List.take x1 L)).den:Int) (List.foldl bPl (k,j) (List.take x1 L)).snd))∧True)∧A5∧True)∧rfB (PV.f (Lf.v (Value.func (Fn.func 224) #[] #[])))∧rfB (PV.bp 0 0)∧rfB (PV.bp 1 0)∧rfB (PV.f (Lf.qs L))∧rfB (PV.f (Lf.v (Value.int IntKind.i64 (↑L.length:Int))))∧SubB (PV.f (Lf.v (Value.int IntKind.i64 (0:Int)))) (PV.f (Lf.v (Value.int IntKind.i64 (↑x1:Int))))∧True)∧x1≤L.length∧True∧∀ (z2:Nat),z2≤L.length→True→ifB (decide ((↑z2:Int)<(↑L.length:Int))) (((0:Int)≤(↑z2:Int)∧(↑z2:Int)<(↑L.length:Int))∧((A1 z2).fst.snd.snd≤435000∧(A1 z2).snd.snd.snd≤435000)∧∀ (z3:Rat),z3=Qaw (A1 z2).fst.fst (A1 z2).fst.snd.fst (A1 z2).snd.fst (A1 z2).snd.snd.fst→((A4 z2).fst≤100000∧(A4 z2).snd≤100000∧(A1 z2).fst.snd.snd+3≤100000∧(A1 z2).snd.snd.snd+3≤100000∧zV (zNeg (↑(A2 z2).den:Int)) (digs 1000000000 (↑(A2 z2).den:Int).natAbs)≠(0:Int)∧zV (zNeg (↑z3.den:Int)) (digs 1000000000 (↑z3.den:Int).natAbs)≠(0:Int))∧∀ (z4:Rat),z4=Rat.divInt (zV (zNeg (A2 z2).num) (digs 1000000000 (A2 z2).num.natAbs)) (zV (zNeg (↑(A2 z2).den:Int)) (digs 1000000000 (↑(A2 z2).den:Int).natAbs))+Rat.divInt (zV (zNeg z3.num) (digs 1000000000 z3.num.natAbs)) (zV (zNeg (↑z3.den:Int)) (digs 1000000000 (↑z3.den:Int).natAbs))→∃ (x5:Nat),(((SubB (PV.f (Lf.zn z4.num)) (PV.f (Lf.zn (List.foldl A0 A3 (List.take x5 L)).num))∧SubB (PV.f (Lf.zd z4.num ((A4 z2).fst+(A4 z2).snd+((A1 z2).fst.snd.snd+3)+((A1 z2).snd.snd.snd+3)+20))) (PV.f (Lf.zd (List.foldl A0 A3 (List.take x5 L)).num (List.foldl bPl (k,j) (List.take x5 L)).fst))∧SubB (PV.f (Lf.zn (↑z4.den:Int))) (PV.f (Lf.zn (↑(List.foldl A0 A3 (List.take x5 L)).den:Int)))∧SubB (PV.f (Lf.zd (↑z4.den:Int) ((A4 z2).snd+((A1 z2).snd.snd.snd+3)+20))) (PV.f (Lf.zd (↑(List.foldl A0 A3 (List.take x5 L)).den:Int) (List.foldl bPl (k,j) (List.take x5 L)).snd))∧True)∧A5∧True)∧rfB (PV.f (Lf.v (Value.func (Fn.func 224) #[] #[])))∧rfB (PV.bp 0 0)∧rfB (PV.bp 1 0)∧rfB (PV.f (Lf.qs L))∧rfB (PV.f (Lf.v (Value.int IntKind.i64 (↑L.length:Int))))∧SubB (PV.f (Lf.v (Value.int IntKind.i64 (IntKind.i64.wrap ((↑z2:Int)+(1:Int)))))) (PV.f (Lf.v (Value.int IntKind.i64 (↑x5:Int))))∧True)∧x5≤L.length∧True∧(L.length - x5).succ.le (L.length - z2)) (true=true∧Sub (PV.agg [PV.f (Lf.zn (A2 z2).num),PV.f (Lf.zd (A2 z2).num (A4 z2).fst),PV.f (Lf.zn (↑(A2 z2).den:Int)),PV.f (Lf.zd (↑(A2 z2).den:Int) (A4 z2).snd)]) (PV.agg [PV.f (Lf.zn (List.foldl A0 A3 L).num),PV.f (Lf.zd (List.foldl A0 A3 L).num (List.foldl bPl (k,j) L).fst),PV.f (Lf.zn (↑(List.foldl A0 A3 L).den:Int)),PV.f (Lf.zd (↑(List.foldl A0 A3 L).den:Int) (List.foldl bPl (k,j) L).snd)]))) ?kr ?_
     case kr=>kernel_rfl
     conv=>zeta
     refine ⟨?x0,⟨⟨⟨⟨?m0,⟨?m1,⟨?m2,⟨?m3,trivial⟩⟩⟩⟩,⟨⟨.refl _,⟨.refl _,⟨.refl _,⟨.refl _,trivial⟩⟩⟩⟩,trivial⟩⟩,⟨.refl _,⟨.refl _,⟨.refl _,⟨.refl _,⟨?m4,⟨?m5,trivial⟩⟩⟩⟩⟩⟩⟩,⟨?s0,⟨trivial,fun z2=>fun hq0=>fun _=>Qae.2 ⟨fun hb1=>⟨?s1,⟨?s2,fun z3=>fun hz3=>⟨?s3,fun z4=>fun hz4=>⟨?x1,⟨⟨⟨⟨?m6,⟨?m7,⟨?m8,⟨?m9,trivial⟩⟩⟩⟩,⟨⟨.refl _,⟨.refl _,⟨.refl _,⟨.refl _,trivial⟩⟩⟩⟩,trivial⟩⟩,⟨.refl _,⟨.refl _,⟨.refl _,⟨.refl _,⟨.refl _,⟨?m10,trivial⟩⟩⟩⟩⟩⟩⟩,⟨?s4,⟨trivial,?m11⟩⟩⟩⟩⟩⟩⟩,fun hb1=>⟨rfl,?m12⟩⟩⟩⟩⟩⟩
     case x0=>exact 0
     case x1=>exact z2+1
     all_goals (try simp only [QaI,Int.toNat_natCast,decide_eq_true_eq,Rat.num_divInt_den] at *)
     case m0=>exact Qgm rfl
     case m1=>exact Qdj rfl (Nat.le_refl _)
     case m2=>exact Qgm rfl
     case m3=>exact Qdj rfl (Nat.le_refl _)
     case m4=>exact .refl _
     case m5=>exact QaN rfl
     case s0=>exact Nat.zero_le _
     case s1=>omega
     case s2=>obtain ⟨h3,h4,-⟩:=key z2 (by omega); exact ⟨by omega,by omega⟩
     case s3=>obtain ⟨h3,h4,h5,h6,-⟩:=key z2 (by omega); exact ⟨by omega,by omega,by omega,by omega,hden _,hden _⟩
     case m6 =>
      obtain ⟨-,-,-,-,h7⟩:=key z2 (by omega)
      rw [Qa8 _ _ L ((false,[],0),(false,[],0)) (by omega:z2<L.length),hz4,hz3]
      exact .refl _
     case m7 =>
      obtain ⟨-,-,-,-,h7⟩:=key z2 (by omega)
      rw [h7,Qa8 _ _ L ((false,[],0),(false,[],0)) (by omega:z2<L.length),hz4,hz3]
      exact Qdj rfl (by unfold bPl; dsimp only; omega)
     case m8 =>
      obtain ⟨-,-,-,-,h7⟩:=key z2 (by omega)
      rw [Qa8 _ _ L ((false,[],0),(false,[],0)) (by omega:z2<L.length),hz4,hz3]
      exact .refl _
     case m9 =>
      obtain ⟨-,-,-,-,h7⟩:=key z2 (by omega)
      rw [h7,Qa8 _ _ L ((false,[],0),(false,[],0)) (by omega:z2<L.length),hz4,hz3]
      exact Qdj rfl (by unfold bPl; dsimp only; omega)
     case m10=>exact QaN (by rw [Qjc _ (by omega)]; rfl)
     case s4=>omega
     case m11=>show L.length - (z2+1)<L.length - z2; omega
     case m12 =>
      rw [decide_eq_false_iff_not] at hb1
      obtain rfl:z2=L.length:=by omega
      rw [List.take_length]
      exact .refl _
   · cases hs
 · cases hs
theorem cFoldT:Contract Tryz.prog E 145 (QnD 146 (fun a b=>a * b) bTi):=by
 refine Qa9 [(79,sOfQ),(146,QkG)] Tryz.ntmps145 Tryz.func145 (by kernel_rfl) (by kernel_rfl) hU ⟨cOfQ hU,Quo hU,trivial⟩ ?_
 intro xs p r hs hp
 unfold QnD at hs
 split at hs
 · rename_i a a' k b b' j g x z y
   split at hs
   · rename_i L hy hg hx hz
     cases hs
     obtain ⟨ha,hb,h1,h2,hk,hj,hL⟩:=hp _ rfl
     obtain rfl:x=#[]:=Array.eq_empty_of_size_eq_zero hx
     obtain rfl:z=#[]:=Array.eq_empty_of_size_eq_zero hz
     obtain rfl:=Nat.eq_of_beq_eq_true hg
     refine ⟨[.agg (qL (Rat.divInt a b) k j),.f (.v (.func (.func 146) #[] #[])),.f (.qs L)],
      [(2,.s ⟨Nat,fun i=>⟨[(1,.f (.v (.func (.func 146) #[] #[]))),(3,.bp 0 0),(6,.bp 1 0),(9,.f (.qs L)),(10,.f (.v (.int .i64 L.length))),(11,.f (.v (.int .i64 i)))],
       [.cells (qL ((L.take i).foldl (fun a e=>a * ofE e) (Rat.divInt a b)) ((L.take i).foldl bTi (k,j)).1 ((L.take i).foldl bTi (k,j)).2),.cells [.f (.v (.bool false)),.f (.v (.slice none 0 0)),.f (.v (.bool false)),.f (.v (.slice none 0 0))]]⟩,fun i=>i≤L.length,fun i=>L.length - i⟩)],.cons (Qjp ha hb h1 h2) (.cons (.refl _) (.cons (Qhy hy) .nil)),rfl,?_⟩
     have key:∀ i,i<L.length→(L.getD i ((false,[],0),(false,[],0))).1.2.2+3≤95000∧(L.getD i ((false,[],0),(false,[],0))).2.2.2+3≤95000∧((L.take i).foldl bTi (k,j)).1≤95000∧((L.take i).foldl bTi (k,j)).2≤95000 ∧
       (L.take (i+1)).foldl bTi (k,j)=bTi ((L.take i).foldl bTi (k,j)) (L.getD i ((false,[],0),(false,[],0))):=by
      intro i hi
      have h3:=Qa8 bTi (k,j) L ((false,[],0),(false,[],0)) hi
      have h4:=Qsf (L.take (i+1)) (L.drop (i+1)) (k,j)
      rw [List.take_append_drop,h3] at h4
      generalize (L.take i).foldl bTi (k,j)=B at *
      generalize L.foldl bTi (k,j)=F at *
      generalize L.getD i ((false,[],0),(false,[],0))=e at *
      unfold bTi at h4
      dsimp only at h4
      exact ⟨by omega,by omega,by omega,by omega,h3⟩
     have hden:∀ q:Rat,(q.den:Int)≠0:=fun q=>by have:=q.den_pos; omega
     refine Qag (p:=let A0:=fun (a:Rat) (e:QE)=>a * ofE e; let A1:=fun (z2:Nat)=>(L.getD (↑z2:Int).toNat ((false,[],0),false,[],0)); let A3:=Rat.divInt a b; let A4:=fun (z2:Nat)=>(List.foldl bTi (k,j) (List.take z2 L)); let A5:=rfB (PV.f (Lf.v (Value.bool false)))∧rfB (nlP)∧rfB (PV.f (Lf.v (Value.bool false)))∧rfB (nlP)∧True; let A2:=fun (z2:Nat)=>(List.foldl A0 A3 (List.take z2 L)); ∃ (x1:Nat),(((SubB (PV.f (Lf.zn A3.num)) (PV.f (Lf.zn (List.foldl A0 A3 (List.take x1 L)).num))∧SubB (PV.f (Lf.zd A3.num k)) (PV.f (Lf.zd (List.foldl A0 A3 (List.take x1 L)).num (List.foldl bTi (k,j) (List.take x1 L)).fst))∧SubB (PV.f (Lf.zn (↑A3.den:Int))) (PV.f (Lf.zn (↑(List.foldl A0 A3 (List.take x1 L)).den:Int)))∧SubB (PV.f (Lf.zd (↑A3.den:Int) j)) (PV.f (Lf.zd (↑(List.foldl A0 A3 (List.take x1 L)).den:Int) (List.foldl bTi (k,j) (List.take x1 L)).snd))∧True)∧A5∧True)∧rfB (PV.f (Lf.v (Value.func (Fn.func 146) #[] #[])))∧rfB (PV.bp 0 0)∧rfB (PV.bp 1 0)∧rfB (PV.f (Lf.qs L))∧rfB (PV.f (Lf.v (Value.int IntKind.i64 (↑L.length:Int))))∧SubB (PV.f (Lf.v (Value.int IntKind.i64 (0:Int)))) (PV.f (Lf.v (Value.int IntKind.i64 (↑x1:Int))))∧True)∧x1≤L.length∧True∧∀ (z2:Nat),z2≤L.length→True→ifB (decide ((↑z2:Int)<(↑L.length:Int))) (((0:Int)≤(↑z2:Int)∧(↑z2:Int)<(↑L.length:Int))∧((A1 z2).fst.snd.snd≤435000∧(A1 z2).snd.snd.snd≤435000)∧∀ (z3:Rat),z3=Qaw (A1 z2).fst.fst (A1 z2).fst.snd.fst (A1 z2).snd.fst (A1 z2).snd.snd.fst→((A4 z2).fst≤100000∧(A4 z2).snd≤100000∧(A1 z2).fst.snd.snd+3≤100000∧(A1 z2).snd.snd.snd+3≤100000∧zV (zNeg (↑(A2 z2).den:Int)) (digs 1000000000 (↑(A2 z2).den:Int).natAbs)≠(0:Int)∧zV (zNeg (↑z3.den:Int)) (digs 1000000000 (↑z3.den:Int).natAbs)≠(0:Int))∧∀ (z4:Rat),z4=Rat.divInt (zV (zNeg (A2 z2).num) (digs 1000000000 (A2 z2).num.natAbs)) (zV (zNeg (↑(A2 z2).den:Int)) (digs 1000000000 (↑(A2 z2).den:Int).natAbs)) * Rat.divInt (zV (zNeg z3.num) (digs 1000000000 z3.num.natAbs)) (zV (zNeg (↑z3.den:Int)) (digs 1000000000 (↑z3.den:Int).natAbs))→∃ (x5:Nat),(((SubB (PV.f (Lf.zn z4.num)) (PV.f (Lf.zn (List.foldl A0 A3 (List.take x5 L)).num))∧SubB (PV.f (Lf.zd z4.num ((A4 z2).fst+((A1 z2).fst.snd.snd+3)+20))) (PV.f (Lf.zd (List.foldl A0 A3 (List.take x5 L)).num (List.foldl bTi (k,j) (List.take x5 L)).fst))∧SubB (PV.f (Lf.zn (↑z4.den:Int))) (PV.f (Lf.zn (↑(List.foldl A0 A3 (List.take x5 L)).den:Int)))∧SubB (PV.f (Lf.zd (↑z4.den:Int) ((A4 z2).snd+((A1 z2).snd.snd.snd+3)+20))) (PV.f (Lf.zd (↑(List.foldl A0 A3 (List.take x5 L)).den:Int) (List.foldl bTi (k,j) (List.take x5 L)).snd))∧True)∧A5∧True)∧rfB (PV.f (Lf.v (Value.func (Fn.func 146) #[] #[])))∧rfB (PV.bp 0 0)∧rfB (PV.bp 1 0)∧rfB (PV.f (Lf.qs L))∧rfB (PV.f (Lf.v (Value.int IntKind.i64 (↑L.length:Int))))∧SubB (PV.f (Lf.v (Value.int IntKind.i64 (IntKind.i64.wrap ((↑z2:Int)+(1:Int)))))) (PV.f (Lf.v (Value.int IntKind.i64 (↑x5:Int))))∧True)∧x5≤L.length∧True∧(L.length - x5).succ.le (L.length - z2)) (true=true∧Sub (PV.agg [PV.f (Lf.zn (A2 z2).num),PV.f (Lf.zd (A2 z2).num (A4 z2).fst),PV.f (Lf.zn (↑(A2 z2).den:Int)),PV.f (Lf.zd (↑(A2 z2).den:Int) (A4 z2).snd)]) (PV.agg [PV.f (Lf.zn (List.foldl A0 A3 L).num),PV.f (Lf.zd (List.foldl A0 A3 L).num (List.foldl bTi (k,j) L).fst),PV.f (Lf.zn (↑(List.foldl A0 A3 L).den:Int)),PV.f (Lf.zd (↑(List.foldl A0 A3 L).den:Int) (List.foldl bTi (k,j) L).snd)]))) ?kr ?_
     case kr=>kernel_rfl
     conv=>zeta
     refine ⟨?x0,⟨⟨⟨⟨?m0,⟨?m1,⟨?m2,⟨?m3,trivial⟩⟩⟩⟩,⟨⟨.refl _,⟨.refl _,⟨.refl _,⟨.refl _,trivial⟩⟩⟩⟩,trivial⟩⟩,⟨.refl _,⟨.refl _,⟨.refl _,⟨.refl _,⟨?m4,⟨?m5,trivial⟩⟩⟩⟩⟩⟩⟩,⟨?s0,⟨trivial,fun z2=>fun hq0=>fun _=>Qae.2 ⟨fun hb1=>⟨?s1,⟨?s2,fun z3=>fun hz3=>⟨?s3,fun z4=>fun hz4=>⟨?x1,⟨⟨⟨⟨?m6,⟨?m7,⟨?m8,⟨?m9,trivial⟩⟩⟩⟩,⟨⟨.refl _,⟨.refl _,⟨.refl _,⟨.refl _,trivial⟩⟩⟩⟩,trivial⟩⟩,⟨.refl _,⟨.refl _,⟨.refl _,⟨.refl _,⟨.refl _,⟨?m10,trivial⟩⟩⟩⟩⟩⟩⟩,⟨?s4,⟨trivial,?m11⟩⟩⟩⟩⟩⟩⟩,fun hb1=>⟨rfl,?m12⟩⟩⟩⟩⟩⟩
     case x0=>exact 0
     case x1=>exact z2+1
     all_goals (try simp only [QaI,Int.toNat_natCast,decide_eq_true_eq,Rat.num_divInt_den] at *)
     case m0=>exact Qgm rfl
     case m1=>exact Qdj rfl (Nat.le_refl _)
     case m2=>exact Qgm rfl
     case m3=>exact Qdj rfl (Nat.le_refl _)
     case m4=>exact .refl _
     case m5=>exact QaN rfl
     case s0=>exact Nat.zero_le _
     case s1=>omega
     case s2=>obtain ⟨h3,h4,-⟩:=key z2 (by omega); exact ⟨by omega,by omega⟩
     case s3=>obtain ⟨h3,h4,h5,h6,-⟩:=key z2 (by omega); exact ⟨by omega,by omega,by omega,by omega,hden _,hden _⟩
     case m6 =>
      obtain ⟨-,-,-,-,h7⟩:=key z2 (by omega)
      rw [Qa8 _ _ L ((false,[],0),(false,[],0)) (by omega:z2<L.length),hz4,hz3]
      exact .refl _
     case m7 =>
      obtain ⟨-,-,-,-,h7⟩:=key z2 (by omega)
      rw [h7,Qa8 _ _ L ((false,[],0),(false,[],0)) (by omega:z2<L.length),hz4,hz3]
      exact Qdj rfl (by unfold bTi; dsimp only; omega)
     case m8 =>
      obtain ⟨-,-,-,-,h7⟩:=key z2 (by omega)
      rw [Qa8 _ _ L ((false,[],0),(false,[],0)) (by omega:z2<L.length),hz4,hz3]
      exact .refl _
     case m9 =>
      obtain ⟨-,-,-,-,h7⟩:=key z2 (by omega)
      rw [h7,Qa8 _ _ L ((false,[],0),(false,[],0)) (by omega:z2<L.length),hz4,hz3]
      exact Qdj rfl (by unfold bTi; dsimp only; omega)
     case m10=>exact QaN (by rw [Qjc _ (by omega)]; rfl)
     case s4=>omega
     case m11=>show L.length - (z2+1)<L.length - z2; omega
     case m12 =>
      rw [decide_eq_false_iff_not] at hb1
      obtain rfl:z2=L.length:=by omega
      rw [List.take_length]
      exact .refl _
   · cases hs
 · cases hs
end
end Go.Proofs.YtmbmbcamecfnkaaGreatDoor
namespace Go.Proofs.YtmbmbcamecfnkaaGreatDoor
open Go.RowKit
set_option linter.unusedVariables false
set_option maxRecDepth 100000
theorem QpL:Qa7 false [] false []=false:=by decide
theorem Qjm:Qaw false [] false []=0:=Qib QpL
theorem Qco (r:Rat):Qa7 (zNeg r.num) (digs 1000000000 r.num.natAbs) (zNeg r.den) (digs 1000000000 (r.den:Int).natAbs)=true:=by
 unfold Qa7
 have h:=r.den_pos
 rw [Qa6,Qa6,QaI,QaI,decide_eq_true (by omega),decide_eq_true]
 · rfl
 · unfold gcd2
   have:=r.reduced
   rw [Int.natAbs_natCast]
   exact congrArg Int.ofNat this
theorem Qaz (r:Rat):Qaw (zNeg r.num) (digs 1000000000 r.num.natAbs) (zNeg r.den) (digs 1000000000 (r.den:Int).natAbs)=r:=by
 unfold Qaw
 rw [Qco]
 dsimp only
 rw [QaI,QaI,Rat.num_divInt_den]
theorem Qjl (n:Bool) (l:List Nat):Qaw n l (zNeg 1) (digs 1000000000 (Int.natAbs 1))=(match Qak n l with | true=>((zV n l:Int):Rat) | false=>0):=by
 have h1:=Qa6 1
 have h2:=QaI 1
 unfold Qaw Qa7
 rw [h1,h2]
 have h3:gcd2 (zV n l) 1=1:=by unfold gcd2; simp
 rw [h3]
 cases Qak n l
 · rfl
 · show Rat.divInt (zV n l) 1=_
   have:=Rat.num_divInt_den ((zV n l:Int):Rat)
   rw [Rat.num_intCast,Rat.den_intCast] at this
   exact this
def Qjx (op:Rat→Rat→Rat) (q0:Rat) (b0:Nat × Nat) (bn:Nat × Nat→QE→Nat × Nat):Spec
 | [.f y]=>match Qgo y with
  | some L=>some (some ((L.foldl bn b0).1≤95000∧(L.foldl bn b0).2≤95000∧L.length≤1000000),.nm Rat (L.foldl (fun a e=>op a (ofE e)) q0) fun r=>qP r (L.foldl bn b0).1 (L.foldl bn b0).2)
  | none=>none
 | _=>none
def Qtv:Spec
 | [x]=>match pvQ x with
  | some (((n,l),k,_),((n',l'),k',_))=>some (some (k≤95000∧k'≤95000),.nm Rat (-(Qaw n l n' l')) fun r=>qP r (k+3) (k'+3))
  | none=>none
 | _=>none
def Qcx:Spec
 | [x]=>match pvR x with
  | some ((n,l),k,_)=>some (some (k≤95000),.nm Rat (match Qak n l with | true=>((zV n l:Int):Rat) | false=>0) fun r=>qP r (k+3) 6)
  | none=>none
 | _=>none
def QtC:Spec
 | [x,y]=>match pvQ x,pvQ y with
  | some (((n,l),k,_),((n',l'),k',_)),some (((m,u),i,_),((m',u'),i',_))=>some (some (k≤95000∧k'≤95000∧i≤95000∧i'≤95000),
    .one (.f (.v (.int .i64 (cmpI ((Qaw n l n' l').num * (Qaw m u m' u').den) ((Qaw m u m' u').num * (Qaw n l n' l').den))))))
  | _,_=>none
 | _=>none
def Qhh (r:Rat):List UInt8:=if (r.den:Int)=1 then QbQ r.num else QbQ r.num++47::QbQ r.den
def Qpb:Spec
 | [x]=>match pvQ x with
  | some (((n,l),k,_),((n',l'),k',_))=>some (some (k≤95000∧k'≤95000∧(QbQ (Qaw n l n' l').num).length≤1000000∧(QbQ (Qaw n l n' l').den).length≤1000000),.one (.f (.v (.string ⟨(Qhh (Qaw n l n' l')).toArray⟩))))
  | none=>none
 | _=>none
section
variable {E : Env} (hU : Up E)
include hU
theorem cAddQ:Contract Tryz.prog E 143 (Qjx (fun a b=>a+b) 0 (3,3) bPl):=by
 refine Qao [(79,sOfQ),(145,QnD 224 (fun a b=>a+b) bPl)] Tryz.ntmps143 Tryz.func143 (by kernel_rfl) (by kernel_rfl) hU ⟨cOfQ hU,cFoldP hU,trivial⟩ ?_
 intro xs p r hs hp
 unfold Qjx at hs
 split at hs
 · rename_i y
   split at hs
   · rename_i L hy
     cases hs
     obtain ⟨hk,hj,hL⟩:=hp _ rfl
     refine ⟨[.f (.qs L)],.cons (Qhy hy) .nil,rfl,?_⟩
     refine Qag (p:=(0≤435000∧0≤435000)∧∀ (z1:Rat),z1=Qaw false [] false []→(z1.num=z1.num∧(↑z1.den:Int)=(↑z1.den:Int)∧(Rat.divInt z1.num (↑z1.den:Int)).num=z1.num∧(↑(Rat.divInt z1.num (↑z1.den:Int)).den:Int)=(↑z1.den:Int)∧(List.foldl bPl (0+3,0+3) L).fst≤95000∧(List.foldl bPl (0+3,0+3) L).snd≤95000∧L.length≤1000000)∧∀ (z2:Rat),z2=List.foldl (fun (a:Rat) (e:QE)=>a+ofE e) (Rat.divInt z1.num (↑z1.den:Int)) L→true=true∧Sub (PV.agg [PV.f (Lf.zn z2.num),PV.f (Lf.zd z2.num (List.foldl bPl (0+3,0+3) L).fst),PV.f (Lf.zn (↑z2.den:Int)),PV.f (Lf.zd (↑z2.den:Int) (List.foldl bPl (0+3,0+3) L).snd)]) (PV.agg [PV.f (Lf.zn (List.foldl (fun (a:Rat) (e:QE)=>a+ofE e) (0:Rat) L).num),PV.f (Lf.zd (List.foldl (fun (a:Rat) (e:QE)=>a+ofE e) (0:Rat) L).num (List.foldl bPl (3,3) L).fst),PV.f (Lf.zn (↑(List.foldl (fun (a:Rat) (e:QE)=>a+ofE e) (0:Rat) L).den:Int)),PV.f (Lf.zd (↑(List.foldl (fun (a:Rat) (e:QE)=>a+ofE e) (0:Rat) L).den:Int) (List.foldl bPl (3,3) L).snd)])) ?kr ?_
     case kr=>kernel_rfl
     refine ⟨?s0,fun z1=>fun hz1=>⟨?s1,fun z2=>fun hz2=>⟨rfl,?m0⟩⟩⟩
     case s0=>exact ⟨by decide,by decide⟩
     case s1=>exact ⟨rfl,rfl,by rw [Rat.num_divInt_den],by rw [Rat.num_divInt_den],hk,hj,hL⟩
     case m0 =>
      subst hz1 hz2
      rw [Rat.num_divInt_den,Qjm]
      exact .refl _
   · cases hs
 · cases hs
theorem cNegQ:Contract Tryz.prog E 22 Qtv:=by
 refine Qao [(79,sOfQ),(82,sNeg)] Tryz.ntmps22 Tryz.func22 (by kernel_rfl) (by kernel_rfl) hU ⟨cOfQ hU,(cNeg hU),trivial⟩ ?_
 intro xs p r hs hp
 unfold Qtv at hs
 split at hs
 · rename_i x
   split at hs
   · rename_i n l k j n' l' k' j' hx
     cases hs
     obtain ⟨hk,hk'⟩:=hp _ rfl
     refine ⟨[rawQ n l k n' l' k'],.cons (Qbg hx) .nil,rfl,?_⟩
     refine Qag (p:=(k≤435000∧k'≤435000)∧∀ (z1:Rat),z1=Qaw n l n' l'→k+3≤10000000∧∀ (z2:Int),z2=-zV (zNeg z1.num) (digs 1000000000 z1.num.natAbs)→true=true∧Sub (PV.agg [PV.f (Lf.zn z2),PV.f (Lf.zd z2 (k+3)),PV.f (Lf.zn (↑z1.den:Int)),PV.f (Lf.zd (↑z1.den:Int) (k'+3))]) (PV.agg [PV.f (Lf.zn (-Qaw n l n' l').num),PV.f (Lf.zd (-Qaw n l n' l').num (k+3)),PV.f (Lf.zn (↑(-Qaw n l n' l').den:Int)),PV.f (Lf.zd (↑(-Qaw n l n' l').den:Int) (k'+3))])) ?kr ?_
     case kr=>kernel_rfl
     refine ⟨?s0,fun z1=>fun hz1=>⟨?s1,fun z2=>fun hz2=>⟨rfl,?m0⟩⟩⟩
     case s0=>omega
     case s1=>omega
     case m0 =>
      subst hz1 hz2
      rw [QaI]
      exact Subl.agg (.zd (by rw [Rat.neg_num]) (by omega) (.zd (by rw [Rat.neg_den]) (by omega) .nil))
   · cases hs
 · cases hs
theorem QqB:Contract Tryz.prog E 20 Qcx:=by
 refine Qao [(79,sOfQ),(77,sOne)] Tryz.ntmps20 Tryz.func20 (by kernel_rfl) (by kernel_rfl) hU ⟨cOfQ hU,cOne hU,trivial⟩ ?_
 intro xs p r hs hp
 unfold Qcx at hs
 split at hs
 · rename_i x
   split at hs
   · rename_i n l k j hx
     cases hs
     have hk:=hp _ rfl
     refine ⟨[rawP n l k],.cons (QaG hx) .nil,rfl,?_⟩
     refine Qag (p:=(k≤435000∧3≤435000)∧∀ (z1:Rat),z1=Qaw n l (zNeg (1:Int)) (digs 1000000000 (Int.natAbs (1:Int)))→true=true∧Sub (PV.agg [PV.f (Lf.zn z1.num),PV.f (Lf.zd z1.num (k+3)),PV.f (Lf.zn (↑z1.den:Int)),PV.f (Lf.zd (↑z1.den:Int) 6)]) (PV.agg [PV.f (Lf.zn (match Qak n l with | true=>(↑(zV n l):Rat) | false=>(0:Rat)).num),PV.f (Lf.zd (match Qak n l with | true=>(↑(zV n l):Rat) | false=>(0:Rat)).num (k+3)),PV.f (Lf.zn (↑(match Qak n l with | true=>(↑(zV n l):Rat) | false=>(0:Rat)).den:Int)),PV.f (Lf.zd (↑(match Qak n l with | true=>(↑(zV n l):Rat) | false=>(0:Rat)).den:Int) 6)])) ?kr ?_
     case kr=>kernel_rfl
     refine ⟨?s0,fun z1=>fun hz1=>⟨rfl,?m0⟩⟩
     case s0=>omega
     case m0 =>
      subst hz1
      rw [Qjl]
      exact .refl _
   · cases hs
 · cases hs
theorem cCmpQ:Contract Tryz.prog E 23 QtC:=by
 refine Qao [(79,sOfQ),(34,sMul),(35,sCmp)] Tryz.ntmps23 Tryz.func23 (by kernel_rfl) (by kernel_rfl) hU ⟨cOfQ hU,(cMul hU),(cCmp hU),trivial⟩ ?_
 intro xs p r hs hp
 unfold QtC at hs
 split at hs
 · rename_i x y
   split at hs
   · rename_i n l k j n' l' k' j' m u i _ m' u' i' _ hx hy
     cases hs
     obtain ⟨hk,hk',hi,hi'⟩:=hp _ rfl
     refine ⟨[rawQ n l k n' l' k',rawQ m u i m' u' i'],.cons (Qbg hx) (.cons (Qbg hy) .nil),rfl,?_⟩
     refine Qag (p:=(k≤435000∧k'≤435000)∧∀ (z1:Rat),z1=Qaw n l n' l'→(i≤435000∧i'≤435000)∧∀ (z2:Rat),z2=Qaw m u m' u'→k+3+2+(i'+3+2+0)≤2000000∧∀ (z3:Int),z3=(1:Int) * zV (zNeg z1.num) (digs 1000000000 z1.num.natAbs) * zV (zNeg (↑z2.den:Int)) (digs 1000000000 (↑z2.den:Int).natAbs)→i+3+2+(k'+3+2+0)≤2000000∧∀ (z4:Int),z4=(1:Int) * zV (zNeg z2.num) (digs 1000000000 z2.num.natAbs) * zV (zNeg (↑z1.den:Int)) (digs 1000000000 (↑z1.den:Int).natAbs)→1+(k+3)+(i'+3)+(1+(i+3)+(k'+3))≤9000000∧true=true∧Sub (PV.f (Lf.v (Value.int IntKind.i64 (cmpI (zV (zNeg z3) (digs 1000000000 z3.natAbs)) (zV (zNeg z4) (digs 1000000000 z4.natAbs)))))) (PV.f (Lf.v (Value.int IntKind.i64 (cmpI ((Qaw n l n' l').num * (↑(Qaw m u m' u').den:Int)) ((Qaw m u m' u').num * (↑(Qaw n l n' l').den:Int))))))) ?kr ?_
     case kr=>kernel_rfl
     refine ⟨?s0,fun z1=>fun hz1=>⟨?s1,fun z2=>fun hz2=>⟨?s2,fun z3=>fun hz3=>⟨?s3,fun z4=>fun hz4=>⟨?s4,⟨rfl,?m0⟩⟩⟩⟩⟩⟩
     all_goals (try simp only [QaI,Int.one_mul] at *)
     case s0=>omega
     case s1=>omega
     case s2=>omega
     case s3=>omega
     case s4=>omega
     case m0 =>
      subst hz1 hz2 hz3 hz4
      exact .refl _
   · cases hs
 · cases hs
end
theorem cTextQ:Contract Tryz.prog EZ 64 Qpb:=by
 refine Qao [(79,sOfQ),(77,sOne),(35,sCmp),(142,Qra)] Tryz.ntmps64 Tryz.func64 (by kernel_rfl) (by kernel_rfl) EZ.up ⟨cOfQ EZ.up,cOne EZ.up,(cCmp EZ.up),cText,trivial⟩ ?_
 intro xs p r hs hp
 unfold Qpb at hs
 split at hs
 · rename_i x
   split at hs
   · rename_i n l k j n' l' k' j' hx
     cases hs
     obtain ⟨hk,hk',ht,ht'⟩:=hp _ rfl
     refine ⟨[rawQ n l k n' l' k'],.cons (Qbg hx) .nil,rfl,?_⟩
     refine Qag (p:=(k≤435000∧k'≤435000)∧∀ (z1:Rat),z1=Qaw n l n' l'→k'+3+3≤9000000∧ifB (cmpI (zV (zNeg (↑z1.den:Int)) (digs 1000000000 (↑z1.den:Int).natAbs)) (zV (zNeg (1:Int)) (digs 1000000000 (Int.natAbs (1:Int))))==(0:Int)) (k+3≤9000000∧true=true∧Sub (PV.f (Lf.v (Value.string (ByteArray.mk (QbQ (zV (zNeg z1.num) (digs 1000000000 z1.num.natAbs))).toArray)))) (PV.f (Lf.v (Value.string (ByteArray.mk (Qhh (Qaw n l n' l')).toArray))))) (k+3≤9000000∧(↑((ByteArray.mk (QbQ (zV (zNeg z1.num) (digs 1000000000 z1.num.natAbs))).toArray).size+1):Int)≤IntKind.i64.max∧k'+3≤9000000∧(↑((ByteArray.mk (QbQ (zV (zNeg z1.num) (digs 1000000000 z1.num.natAbs))).toArray++ByteArray.mk #[(47:UInt8)]).size+(ByteArray.mk (QbQ (zV (zNeg (↑z1.den:Int)) (digs 1000000000 (↑z1.den:Int).natAbs))).toArray).size):Int)≤IntKind.i64.max∧true=true∧Sub (PV.f (Lf.v (Value.string (ByteArray.mk (QbQ (zV (zNeg z1.num) (digs 1000000000 z1.num.natAbs))).toArray++ByteArray.mk #[(47:UInt8)]++ByteArray.mk (QbQ (zV (zNeg (↑z1.den:Int)) (digs 1000000000 (↑z1.den:Int).natAbs))).toArray)))) (PV.f (Lf.v (Value.string (ByteArray.mk (Qhh (Qaw n l n' l')).toArray)))))) ?kr ?_
     case kr=>kernel_rfl
     refine ⟨?s0,fun z1=>fun hz1=>⟨?s1,Qae.2 ⟨fun hb0=>⟨?s2,⟨rfl,?m0⟩⟩,fun hb0=>⟨?s3,⟨?s4,⟨?s5,⟨?s6,⟨rfl,?m1⟩⟩⟩⟩⟩⟩⟩⟩
     all_goals (try simp only [QaI,Qf9,decide_eq_true_eq,decide_eq_false_iff_not] at *)
     case s0=>omega
     case s1=>omega
     case s2=>omega
     case s3=>omega
     case s4 => subst hz1; have : IntKind.i64.max = 9223372036854775807 := by decide
                rw [this]; simp only [ByteArray.size,Array.size]; simp; omega
     case s5=>omega
     case s6 => subst hz1; have : IntKind.i64.max = 9223372036854775807 := by decide
                rw [this]; simp only [ByteArray.size_append]; simp only [ByteArray.size,Array.size]; simp; omega
     case m0 =>
      subst hz1
      unfold Qhh
      rw [if_pos hb0]
      exact .refl _
     case m1 =>
      subst hz1
      unfold Qhh
      rw [if_neg hb0]
      have e:∀ A B:List UInt8,(⟨A.toArray⟩++⟨#[47]⟩++⟨B.toArray⟩:ByteArray)=⟨(A++47::B).toArray⟩:=by
       intro A B
       apply ByteArray.ext
       simp [ByteArray.data_append]
      rw [e]
      exact .refl _
   · cases hs
 · cases hs
end Go.Proofs.YtmbmbcamecfnkaaGreatDoor
namespace Go.Proofs.YtmbmbcamecfnkaaGreatDoor
open Go.RowKit
set_option linter.unusedVariables false
set_option maxRecDepth 100000
def Qd8 (n:Bool) (l:List Nat) (n':Bool) (l':List Nat):Rat:=match Qak n l && Qak n' l' with | true=>Rat.divInt (zV n l) (zV n' l') | false=>0
def QgN (n:Bool) (l:List Nat) (n':Bool) (l':List Nat):Int:=match Qak n l && Qak n' l' with | true=>(if zV n' l'=0 then 9 else 0) | false=>2
def Ql3:Spec
 | [x,y]=>match pvQ x,pvQ y with
  | some (((n,l),k,_),((n',l'),k',_)),some (((m,u),i,_),((m',u'),i',_))=>some (some (k+k'+i+i'≤800000),
    .one (.f (.v (.bool (((n==m) && eqB l u) && ((n'==m') && eqB l' u'))))))
  | _,_=>none
 | _=>none
theorem Qeu {l m:List PV} {x:PV} (h:Subl l m):Sub (.tup [.agg l,x]) (.tup [.agg m,x]):=by
 refine ⟨fun H v hv=>?_⟩
 obtain ⟨vs,rfl,h1⟩:=PRs.of_tup hv
 have h2:=h1.1
 match vs,h2 with
 | [u,t],_ =>
  refine .tup rfl fun i v x hv hx=>?_
  match i with
  | 0=>simp at hv hx; subst hv hx; exact h.agg.out _ _ (h1.2 0 _ _ rfl rfl)
  | 1=>simp at hv hx; subst hv hx; exact h1.2 1 _ _ rfl rfl
  | i+2=>simp at hv
theorem Qnu:Qaw (zNeg 1) (digs 1000000000 (Int.natAbs 1)) (zNeg 1) (digs 1000000000 (Int.natAbs 1))=1:=by
 rw [Qjl,Qa6 1,QaI 1]; rfl
section
variable {E : Env} (hU : Up E)
include hU
theorem cMulQ:Contract Tryz.prog E 69 (Qjx (fun a b=>a * b) 1 (6,6) bTi):=by
 refine Qao [(77,sOne),(79,sOfQ),(145,QnD 146 (fun a b=>a * b) bTi)] Tryz.ntmps69 Tryz.func69 (by kernel_rfl) (by kernel_rfl) hU ⟨cOne hU,cOfQ hU,cFoldT hU,trivial⟩ ?_
 intro xs p r hs hp
 unfold Qjx at hs
 split at hs
 · rename_i y
   split at hs
   · rename_i L hy
     cases hs
     obtain ⟨hk,hj,hL⟩:=hp _ rfl
     refine ⟨[.f (.qs L)],.cons (Qhy hy) .nil,rfl,?_⟩
     refine Qag (p:=(3≤435000∧3≤435000)∧∀ (z1:Rat),z1=Qaw (zNeg (1:Int)) (digs 1000000000 (Int.natAbs (1:Int))) (zNeg (1:Int)) (digs 1000000000 (Int.natAbs (1:Int)))→(z1.num=z1.num∧(↑z1.den:Int)=(↑z1.den:Int)∧(Rat.divInt z1.num (↑z1.den:Int)).num=z1.num∧(↑(Rat.divInt z1.num (↑z1.den:Int)).den:Int)=(↑z1.den:Int)∧(List.foldl bTi (3+3,3+3) L).fst≤95000∧(List.foldl bTi (3+3,3+3) L).snd≤95000∧L.length≤1000000)∧∀ (z2:Rat),z2=List.foldl (fun (a:Rat) (e:QE)=>a * ofE e) (Rat.divInt z1.num (↑z1.den:Int)) L→true=true∧Sub (PV.agg [PV.f (Lf.zn z2.num),PV.f (Lf.zd z2.num (List.foldl bTi (3+3,3+3) L).fst),PV.f (Lf.zn (↑z2.den:Int)),PV.f (Lf.zd (↑z2.den:Int) (List.foldl bTi (3+3,3+3) L).snd)]) (PV.agg [PV.f (Lf.zn (List.foldl (fun (a:Rat) (e:QE)=>a * ofE e) (1:Rat) L).num),PV.f (Lf.zd (List.foldl (fun (a:Rat) (e:QE)=>a * ofE e) (1:Rat) L).num (List.foldl bTi (6,6) L).fst),PV.f (Lf.zn (↑(List.foldl (fun (a:Rat) (e:QE)=>a * ofE e) (1:Rat) L).den:Int)),PV.f (Lf.zd (↑(List.foldl (fun (a:Rat) (e:QE)=>a * ofE e) (1:Rat) L).den:Int) (List.foldl bTi (6,6) L).snd)])) ?kr ?_
     case kr=>kernel_rfl
     refine ⟨?s0,fun z1=>fun hz1=>⟨?s1,fun z2=>fun hz2=>⟨rfl,?m0⟩⟩⟩
     case s0=>exact ⟨by decide,by decide⟩
     case s1=>exact ⟨rfl,rfl,by rw [Rat.num_divInt_den],by rw [Rat.num_divInt_den],hk,hj,hL⟩
     case m0 =>
      subst hz1 hz2
      rw [Rat.num_divInt_den,Qnu]
      exact .refl _
   · cases hs
 · cases hs
theorem QsS:Contract Tryz.prog E 19 Ql3:=by
 refine Qao [(78,Qpe)] Tryz.ntmps19 Tryz.func19 (by kernel_rfl) (by kernel_rfl) hU ⟨Quv,trivial⟩ ?_
 intro xs p r hs hp
 unfold Ql3 at hs
 split at hs
 · rename_i x y
   split at hs
   · rename_i n l k j n' l' k' j' m u i _ m' u' i' _ hx hy
     cases hs
     have hk:=hp _ rfl
     refine ⟨[rawQ n l k n' l' k',rawQ m u i m' u' i'],.cons (Qbg hx) (.cons (Qbg hy) .nil),rfl,?_⟩
     refine Qag (p:=k+i≤90000000∧ifB (n==m && eqB l u) (k'+i'≤90000000∧true=true∧Sub (PV.f (Lf.v (Value.bool (n'==m' && eqB l' u')))) (PV.f (Lf.v (Value.bool (n==m && eqB l u && (n'==m' && eqB l' u')))))) (true=true∧Sub (PV.f (Lf.v (Value.bool false))) (PV.f (Lf.v (Value.bool (n==m && eqB l u && (n'==m' && eqB l' u'))))))) ?kr ?_
     case kr=>kernel_rfl
     refine ⟨?s0,Qae.2 ⟨fun hb0=>⟨?s1,⟨rfl,?m0⟩⟩,fun hb0=>⟨rfl,?m1⟩⟩⟩
     case s0=>omega
     case s1=>omega
     case m0=>rw [hb0]; exact .refl _
     case m1=>rw [hb0]; exact .refl _
   · cases hs
 · cases hs
end
end Go.Proofs.YtmbmbcamecfnkaaGreatDoor
