/- LinearTurns: the law. -/
import Derived.Test.YtmbmbcamecfnkaaGreatDoorLy
import Derived.Test.YtmbmbcamecfnkaaGreatDoorKz
import Derived.Test.YtmbmbcamecfnkaaGreatDoorRp
namespace Go.Proofs.YtmbmbcamecfnkaaGreatDoor
open Go.RowKit
set_option linter.unusedVariables false
set_option linter.unusedSimpArgs false
set_option maxRecDepth 100000
def QkN:Spec
 | []=>some (none,.one (bV true))
 | _=>none
theorem QuA:Contract Tryz.prog EZ 11 QkN:=by
 have hU:Up EZ:=EZ.up
 have hT:∀ K w H,EZ K w H→Tab w:=EZ.tab
 refine Qan [(57,Qtz),(58,sX6),(59,Qph),(60,QkI),(61,sN6),(27,sOfL 40),(62,Qts),(63,sOf),(14,sSumL),(30,Qff),(17,Qik),(64,Qpb)] [] Tryz.ntmps11 Tryz.func11 (by kernel_rfl) (by kernel_rfl) hU ⟨cKeyR hU hT,cX6 hU,cPlus6 hU,Quq hU (Qly hU),cN6 hU (Qly hU),cOfL hU hT 40,cOfNR hU,Qly hU,cSumL hU,cSame6 hU,QqF hU,cTextQ,trivial⟩ trivial ?_
 intro xs p r hs hp
 unfold QkN at hs
 split at hs
 · cases hs
   refine ⟨[],[],.nil,rfl,fun _ hsh=>?_⟩
   have h0:=hU
   refine Qag (p:=let A0:=fun (z17:Option (Lz × Rat))=>((Qbh z17).getD (Int.toNat (0:Int)) ((false,[],0),false,[],0)); let A1:=fun (z11:Rat)=>((zNeg z11.num,digs 1000000000 z11.num.natAbs,3+6),zNeg (↑z11.den:Int),digs 1000000000 (↑z11.den:Int).natAbs,3+6); let A2:=true=true∧Sub (bV false) (bV true); let A3:=fun (e:Bool × List Nat × Nat)=>((e.fst,e.snd.fst),e.snd.snd,e.snd.snd+1); let A4:=fun (z17:Option (Lz × Rat))=>(Qaw (zNeg (numO z17).num) (digs 1000000000 (numO z17).num.natAbs) (zNeg (↑(numO z17).den:Int)) (digs 1000000000 (↑(numO z17).den:Int).natAbs)); let A5:=(-9223372036854775808:Int); let A6:=(9223372036854775807:Int); let A7:=fun (z17:Option (Lz × Rat))=>(Qaw (A0 z17).fst.fst (A0 z17).fst.snd.fst (A0 z17).snd.fst (A0 z17).snd.snd.fst); (QbN (etaT x6)∧(etaT x6).fitT∧9≤140737488355328)∧(A5≤(2:Int)∧(2:Int)≤A6)∧∀ (z1:Tw),z1=times6 (2:Int) [etaT x6]→(A5≤(3:Int)∧(3:Int)≤A6)∧∀ (z2:Tw),z2=n6 (3:Int)→(A5≤(-3:Int)∧(-3:Int)≤A6)∧∀ (z3:Tw),z3=n6 (-3:Int)→∀ (z4:Tw),z4=plus6 [etaT x6,etaT z1,etaT z2,etaT z3]→FitO 40 (etaT z4)∧∀ (z5:Ln × Bool),z5=lnO (ofO 40 (etaT z4))→(A5≤(0:Int)∧(0:Int)≤A6)∧∀ (z6:Tw),z6=times6 (0:Int) [etaT x6]→FitO 40 (etaT z6)∧∀ (z7:Ln × Bool),z7=lnO (ofO 40 (etaT z6))→FitO 40 (Tw.mk (8:Int) (ByteArray.mk #[]) false [] [etaT x6,etaT x6])∧∀ (z8:Ln × Bool),z8=lnO (ofO 40 (Tw.mk (8:Int) (ByteArray.mk #[]) false [] [etaT x6,etaT x6]))→(A5≤(1:Int)∧(1:Int)≤A6)∧∀ (z9:Int),z9=(1:Int)→(A5≤(2:Int)∧(2:Int)≤A6)∧∀ (z10:Int),z10=(2:Int)→(3≤900∧3≤900)∧∀ (z11:Rat),z11=Qd8 (zNeg z9) (digs 1000000000 z9.natAbs) (zNeg z10) (digs 1000000000 z10.natAbs)→∀ (z12:Int),z12=QgN (zNeg z9) (digs 1000000000 z9.natAbs) (zNeg z10) (digs 1000000000 z10.natAbs)→(A5≤(1:Int)∧(1:Int)≤A6)∧∀ (z13:Tw),z13=n6 (1:Int)→∀ (z14:Tw),z14=plus6 [etaT x6,etaT z13]→FitO 40 (etaT z14)∧∀ (z15:Ln × Bool),z15=lnO (ofO 40 (etaT z14))→FitO 40 (etaT x6)∧∀ (z16:Ln × Bool),z16=lnO (ofO 40 (etaT x6))→FitS [(A1 z11),(A1 z11)] [Ln.mk z15.fst.K z15.fst.C z15.fst.n z15.fst.l z15.fst.k,Ln.mk z16.fst.K z16.fst.C z16.fst.n z16.fst.l z16.fst.k]∧∀ (z17:Option (Lz × Rat)),z17=sumF [(A1 z11),(A1 z11)] [Ln.mk z15.fst.K z15.fst.C z15.fst.n z15.fst.l z15.fst.k,Ln.mk z16.fst.K z16.fst.C z16.fst.n z16.fst.l z16.fst.k]→ifB z5.snd ((A5≤(3:Int)∧(3:Int)≤A6)∧∀ (z18:Int),z18=(3:Int)→(Qer (zsOf (List.map A3 z5.fst.C))∧Qer (zsOf [((zNeg z18,digs 1000000000 z18.natAbs),3,3)])∧z5.fst.k≤100000∧0≤100000)∧∀ (z19:Bool),z19=Qcm z5.fst.K (zsOf (List.map A3 z5.fst.C)) z5.fst.n z5.fst.l [bA (keyB (etaT x6))] (zsOf [((zNeg z18,digs 1000000000 z18.natAbs),3,3)]) false []→ifB z19 (ifB z7.snd ((Qer (zsOf (List.map A3 z7.fst.C))∧Qer (zsOf [])∧z7.fst.k≤100000∧0≤100000)∧∀ (z20:Bool),z20=Qcm z7.fst.K (zsOf (List.map A3 z7.fst.C)) z7.fst.n z7.fst.l [] (zsOf []) false []→ifB z20 (ifB (!z8.snd) (ifB z17.isSome (∀ (z21:Bool),z21=Qfe (Qcb z17) [bA (keyB (etaT x6))]→ifB z21 (((0:Int)≤(0:Int)∧(0:Int)<(↑(Qbh z17).length:Int))∧((A0 z17).fst.snd.snd≤95000∧(A0 z17).snd.snd.snd≤95000∧(QbQ (A7 z17).num).length≤1000000∧(QbQ (↑(A7 z17).den:Int)).length≤1000000)∧ifB ((ByteArray.mk (Qhh (A7 z17)).toArray).toList==(ByteArray.mk #[(49:UInt8)]).toList) ((5000≤95000∧5000≤95000∧(QbQ (A4 z17).num).length≤1000000∧(QbQ (↑(A4 z17).den:Int)).length≤1000000)∧true=true∧Sub (bV ((ByteArray.mk (Qhh (A4 z17)).toArray).toList==(ByteArray.mk #[(49:UInt8),(47:UInt8),(50:UInt8)]).toList)) (bV true)) A2) A2) A2) A2) A2) A2) A2) A2) ?kr ?_
   case kr=>kernel_rfl
   conv=>zeta
   refine ⟨?s0,⟨?s1,fun z1=>fun hz1=>⟨?s2,fun z2=>fun hz2=>⟨?s3,fun z3=>fun hz3=>fun z4=>fun hz4=>⟨?s4,fun z5=>fun hz5=>⟨?s5,fun z6=>fun hz6=>⟨?s6,fun z7=>fun hz7=>⟨?s7,fun z8=>fun hz8=>⟨?s8,fun z9=>fun hz9=>⟨?s9,fun z10=>fun hz10=>⟨?s10,fun z11=>fun hz11=>fun z12=>fun hz12=>⟨?s11,fun z13=>fun hz13=>fun z14=>fun hz14=>⟨?s12,fun z15=>fun hz15=>⟨?s13,fun z16=>fun hz16=>⟨?s14,fun z17=>fun hz17=>Qae.2 ⟨fun hb0=>⟨?s15,fun z18=>fun hz18=>⟨?s16,fun z19=>fun hz19=>Qae.2 ⟨fun hb1=>Qae.2 ⟨fun hb2=>⟨?s17,fun z20=>fun hz20=>Qae.2 ⟨fun hb3=>Qae.2 ⟨fun hb4=>Qae.2 ⟨fun hb5=>fun z21=>fun hz21=>Qae.2 ⟨fun hb6=>⟨?s18,⟨?s19,Qae.2 ⟨fun hb7=>⟨?s20,⟨rfl,?m0⟩⟩,fun hb7=>⟨rfl,?m1⟩⟩⟩⟩,fun hb6=>⟨rfl,?m2⟩⟩,fun hb5=>⟨rfl,?m3⟩⟩,fun hb4=>⟨rfl,?m4⟩⟩,fun hb3=>⟨rfl,?m5⟩⟩⟩,fun hb2=>⟨rfl,?m6⟩⟩,fun hb1=>⟨rfl,?m7⟩⟩⟩⟩,fun hb0=>⟨rfl,?m8⟩⟩⟩⟩⟩⟩⟩⟩⟩⟩⟩⟩⟩⟩⟩⟩⟩
   all_goals try simp only [etaT] at *
   all_goals try simp only [Tw.eta] at *
   case s0=>exact ⟨QeI,(Qf0 QeI (by decide)).1,by decide⟩
   case s1=>decide
   all_goals subst hz1
   case s2=>decide
   all_goals subst hz2
   case s3=>decide
   all_goals subst hz3 hz4
   case s4=>exact fit_a
   all_goals rw [ofO_a] at hz5
   all_goals subst hz5
   case s5=>decide
   all_goals subst hz6
   case s6=>exact fit_b
   all_goals rw [ofO_b] at hz7
   all_goals subst hz7
   case s7=>exact fit_g
   all_goals rw [ofO_g] at hz8
   all_goals subst hz8
   case s8=>decide
   all_goals subst hz9
   case s9=>decide
   all_goals subst hz10
   case s10=>decide
   all_goals rw [half6] at hz11
   all_goals subst hz11
   case s11=>decide
   all_goals subst hz13 hz14
   case s12=>exact fit_c
   all_goals rw [ofO_c] at hz15
   all_goals subst hz15
   case s13=>exact fit_d
   all_goals rw [ofO_d] at hz16
   all_goals subst hz16
   case s14=>exact fit_h6 _ Qtl
   all_goals have e17:z17=some ([(keyS x6,1)],Rat.divInt 1 2):=hz17.trans (Qth (keyS x6))
   all_goals clear hz17
   all_goals subst e17
   case s15=>decide
   case m8=>exact Bool.noConfusion (hb0:true=false)
   all_goals subst hz18
   case s16=>exact ⟨few_a,few_c,few_k _ (by decide),by decide⟩
   all_goals have e19:=hz19.trans (same_a (keyS x6))
   case m7=>rw [hb1] at e19; cases e19
   case m6=>exact Bool.noConfusion (hb2:true=false)
   case s17=>exact ⟨few_b,few_b,few_k _ (by decide),by decide⟩
   all_goals have e20:=hz20.trans same_b
   case m5=>rw [hb3] at e20; cases e20
   case m4=>exact Bool.noConfusion (hb4:true=false)
   case m3=>exact Bool.noConfusion (hb5:true=false)
   all_goals have e21:z21=true:=hz21.trans (decide_eq_true rfl)
   case m2=>rw [hb6] at e21; cases e21
   case s18=>decide
   all_goals have f1:Qaw ((Qbh (some ([(keyS x6,1)],Rat.divInt 1 2))).getD (Int.toNat 0) ((false,[],0),false,[],0)).1.1 ((Qbh (some ([(keyS x6,1)],Rat.divInt 1 2))).getD (Int.toNat 0) ((false,[],0),false,[],0)).1.2.1 ((Qbh (some ([(keyS x6,1)],Rat.divInt 1 2))).getD (Int.toNat 0) ((false,[],0),false,[],0)).2.1 ((Qbh (some ([(keyS x6,1)],Rat.divInt 1 2))).getD (Int.toNat 0) ((false,[],0),false,[],0)).2.2.1=1:=Qaz 1
   case s19 =>
    rw [f1]
    refine ⟨by decide,by decide,?_,?_⟩
    · show (QbQ 1).length≤_
      rw [QbK rfl,show Int.natAbs 1=1 from rfl,Lib.decDigits_one (by decide)]; decide
    · show (QbQ 1).length≤_
      rw [QbK rfl,show Int.natAbs 1=1 from rfl,Lib.decDigits_one (by decide)]; decide
   case m1 =>
    rw [f1,QqZ] at hb7
    have h9:=beq_self_eq_true (ByteArray.mk #[(49:UInt8)]).toList
    exact Bool.noConfusion (h9.symm.trans hb7)
   all_goals have f2:Qaw (zNeg (numO (some ([(keyS x6,1)],Rat.divInt 1 2))).num) (digs 1000000000 (numO (some ([(keyS x6,1)],Rat.divInt 1 2))).num.natAbs) (zNeg ((numO (some ([(keyS x6,1)],Rat.divInt 1 2))).den:Int)) (digs 1000000000 ((numO (some ([(keyS x6,1)],Rat.divInt 1 2))).den:Int).natAbs)=Rat.divInt 1 2:=Qaz (Rat.divInt 1 2)
   case s20 =>
    rw [f2,QmK,Qqb]
    refine ⟨by decide,by decide,?_,?_⟩
    · rw [QbK rfl,show Int.natAbs 1=1 from rfl,Lib.decDigits_one (by decide)]; decide
    · rw [QbK rfl,show Int.natAbs ((2:Nat):Int)=2 from rfl,Lib.decDigits_one (by decide)]; decide
   case m0 =>
    rw [f2,Qtf]
    exact (QaT (beq_self_eq_true _)).sub
 · cases hs
end Go.Proofs.YtmbmbcamecfnkaaGreatDoor
namespace Go.Proofs.YtmbmbcamecfnkaaGreatDoor
open Go.RowKit
set_option linter.unusedVariables false
set_option linter.unusedSimpArgs false
set_option maxRecDepth 100000
def Qo9:Spec
 | [.agg [.f (.dt .str K),.f (.zs C),.f (.v (.bool n)),.f (.lr l k)],.agg [.f (.dt .str K'),.f (.zs C'),.f (.v (.bool n')),.f (.lr l' k')],.agg [.f (.v (.bool a)),.f (.lr b j),.f (.v (.bool c)),.f (.lr d i)],.agg [.f (.v (.bool a')),.f (.lr b' j'),.f (.v (.bool c')),.f (.lr d' i')]] =>
  some (some ((FitN ⟨K,C,n,l,k⟩∧FitN ⟨K',C',n',l',k'⟩)∧((k=l.length∧∀ e∈C,e.2.2=e.2.1.length)∧(k'=l'.length∧∀ e∈C',e.2.2=e.2.1.length))∧(j=b.length∧i=d.length∧j'=b'.length∧i'=d'.length)∧(b.length≤100000000∧d.length≤100000000∧b'.length≤100000000∧d'.length≤100000000)),.one (bV true))
 | _=>none
theorem Qsl {C:List Ze} (h:(Lf.zs C).deep):∀ e∈C,∀ x∈e.2.1,x<4294967296:=fun e he=>by
 obtain ⟨i,hi,rfl⟩:=List.getElem_of_mem he
 have:=h i hi 1 _ rfl
 rw [List.getD_eq_getElem?_getD,List.getElem?_eq_getElem hi] at this
 exact this.2
theorem QhA (A:List ByteArray):Qfe A A=true:=decide_eq_true rfl
def oneR (x:Ln):Option (Lz × Rat):=some (QfC x x.K.length,((zV x.n x.l:Int):Rat))
set_option maxHeartbeats 4000000 in
theorem Qum:Contract Tryz.prog EZ 4 Qo9:=by
 have hU:Up EZ:=EZ.up
 refine Qan [(11,QkN),(12,Qty),(13,Qpf),(14,sSumL),(15,QfP),(16,Qgu),(17,Qik),(18,QkK),(19,Ql3),(20,Qcx),(21,sOf),(22,Qtv),(23,QtC)] [] Tryz.ntmps4 Tryz.func4 (by kernel_rfl) (by kernel_rfl) hU ⟨QuA,cLnOf hU,cRatOf hU,cSumL hU,Qm9 hU,Qlw hU,QqF hU,Qus hU,QsS hU,QqB hU,cOf hU,cNegQ hU,cCmpQ hU,trivial⟩ trivial ?_
 intro xs p r hs hp
 unfold Qo9 at hs
 split at hs
 · rename_i K C n l k K' C' n' l' k' a b j c d i a' b' j' c' d' i'
   cases hs
   have hF:=hp _ rfl
   refine ⟨[.agg [.f (.dt .str K),.f (.zs C),.f (.v (.bool n)),.f (.lr l k)],.agg [.f (.dt .str K'),.f (.zs C'),.f (.v (.bool n')),.f (.lr l' k')],.agg [.f (.v (.bool a)),.f (.lr b j),.f (.v (.bool c)),.f (.lr d i)],.agg [.f (.v (.bool a')),.f (.lr b' j'),.f (.v (.bool c')),.f (.lr d' i')]],[(18,.s ⟨Nat,fun t=>⟨[(4,.bp 0 0),(19,.f (.dt .str (Qcb (oneR ⟨K,C,n,l,k⟩)))),(20,.f (.qs (Qbh (oneR ⟨K,C,n,l,k⟩)))),(21,.bp 7 0),(22,bV true),(23,iV t)],[.cells [.f (.dt .str K),.f (.zs C),.f (.v (.bool n)),.f (.lr l k)],.gone,.gone,.gone,.gone,.gone,.gone,.cells [.f (.zn (numO (oneR ⟨K,C,n,l,k⟩)).num),.f (.zd (numO (oneR ⟨K,C,n,l,k⟩)).num 5000),.f (.zn (numO (oneR ⟨K,C,n,l,k⟩)).den),.f (.zd (numO (oneR ⟨K,C,n,l,k⟩)).den 5000)]]⟩,fun t=>t≤C.length∧QaX K C n l=true,fun t=>C.length - t⟩)],.cons (.refl _) (.cons (.refl _) (.cons (.refl _) (.cons (.refl _) .nil))),rfl,fun hgx hsh=>?_⟩
   have h0:=hU
   obtain ⟨⟨hFa,hFb⟩,⟨hka,hkb⟩,⟨hj1,hi1,hj2,hi2⟩,hb1',hd1',hb2',hd2'⟩:=hF
   have hgC:∀ e∈C,∀ x∈e.2.1,x<4294967296:=Qsl hgx.1.2.1.2
   have hgl:∀ x∈l,x<4294967296:=hgx.1.2.2.2.1.1.2
   have hgC':∀ e∈C',∀ x∈e.2.1,x<4294967296:=Qsl hgx.2.1.2.1.2
   have hgl':∀ x∈l',x<4294967296:=hgx.2.1.2.2.2.1.1.2
   have hgb:∀ x∈b,x<4294967296:=hgx.2.2.1.2.1.1.2
   have hgd:∀ x∈d,x<4294967296:=hgx.2.2.1.2.2.2.1.1.2
   have hgb':∀ x∈b',x<4294967296:=hgx.2.2.2.1.2.1.1.2
   have hgd':∀ x∈d',x<4294967296:=hgx.2.2.2.1.2.2.2.1.1.2
   have q1:=QsM hFa
   have q2:=QsM hFb
   refine Qag (p:=let A2:=true=true∧Sub (bV false) (bV true); let A3:=oneR (Ln.mk K C n l k); let A4:=fun (z3:Option (Lz × Rat)) (z4:Option (Lz × Rat))=>(!(zNeg (numO z3).num==zNeg (numO z4).num && eqB (digs 1000000000 (numO z3).num.natAbs) (digs 1000000000 (numO z4).num.natAbs) && (zNeg (↑(numO z3).den:Int)==zNeg (↑(numO z4).den:Int) && eqB (digs 1000000000 (↑(numO z3).den:Int).natAbs) (digs 1000000000 (↑(numO z4).den:Int).natAbs)))); let A5:=(↑(numO A3).den:Int); let A6:=fun (z15:Nat)=>(C.getD (↑z15:Int).toNat (false,[],0)); let A7:=fun (z3:Option (Lz × Rat)) (z4:Option (Lz × Rat))=>((Qbh z3).length≤1000000000∧∀ (e:(Bool × List Nat × Nat) × Bool × List Nat × Nat),e∈Qbh z3++Qbh z4→e.fst.snd.snd≤100000∧e.snd.snd.snd≤100000); let A8:=fun (z10:Option (Lz × Rat))=>(Qaw (zNeg (numO z10).num) (digs 1000000000 (numO z10).num.natAbs) (zNeg (↑(numO z10).den:Int)) (digs 1000000000 (↑(numO z10).den:Int).natAbs)); let A9:=Qaw (zNeg (numO A3).num) (digs 1000000000 (numO A3).num.natAbs) (zNeg A5) (digs 1000000000 A5.natAbs); let A10:=fun (z9:Rat)=>((zNeg z9.num,digs 1000000000 z9.num.natAbs,j+3),zNeg (↑z9.den:Int),digs 1000000000 (↑z9.den:Int).natAbs,i+3); let A11:=rfB (dP Sh.str K)∧rfB (PV.f (Lf.zs C))∧rfB (bV n)∧rfB (PV.f (Lf.lr l k))∧True; let A12:=fun (z12:Rat)=>(Qaw (zNeg z12.num) (digs 1000000000 z12.num.natAbs) (zNeg (↑z12.den:Int)) (digs 1000000000 (↑z12.den:Int).natAbs)); let A13:=fun (z8:Rat)=>((zNeg z8.num,digs 1000000000 z8.num.natAbs,3+3),zNeg (↑z8.den:Int),digs 1000000000 (↑z8.den:Int).natAbs,6); let A14:=fun (z16:Rat)=>(Qaw (zNeg z16.num) (digs 1000000000 z16.num.natAbs) (zNeg (↑z16.den:Int)) (digs 1000000000 (↑z16.den:Int).natAbs)); let A15:=fun (z17:Rat)=>(Qaw (zNeg z17.num) (digs 1000000000 z17.num.natAbs) (zNeg (↑z17.den:Int)) (digs 1000000000 (↑z17.den:Int).natAbs)); let A16:= ((a,b,j),c,d,i); let A0:=fun (z3:Option (Lz × Rat)) (z4:Option (Lz × Rat))=>(ifB (!z3.isSome==false) A2 (ifB (!z4.isSome==false) A2 (∀ (z5:Bool),z5=Qfe (Qcb z3) (Qcb z4)→ifB (!z5) A2 ((A7 z3 z4)∧∀ (z6:Bool),z6=Qgs (Qbh z3) (Qbh z4)→ifB (!z6) A2 (20000≤800000∧ifB (A4 z3 z4) A2 (ifB ((↑(Qcb z3).length:Int) != (↑(Qbh z3).length:Int)) A2 (true=true∧Sub (bV ((↑(Qcb z3).length:Int)==(0:Int))) (bV true)))))))); let A1:=fun (z15:Nat)=>((Qbh A3).getD (↑z15:Int).toNat ((false,[],0),false,[],0)); (FitN (Ln.mk K C n l k)∧(0:Int)≤(2000:Int)∧(2000:Int)≤(1000000:Int))∧∀ (z1:Nat),z1=Qc2 (Int.toNat (2000:Int)) (Ln.mk K C n l k)→(FitN (Ln.mk K' C' n' l' k')∧(0:Int)≤(2000:Int)∧(2000:Int)≤(1000000:Int))∧∀ (z2:Nat),z2=Qc2 (Int.toNat (2000:Int)) (Ln.mk K' C' n' l' k')→(b.length≤1000000000∧d.length≤1000000000)∧(b'.length≤1000000000∧d'.length≤1000000000)∧ifB (decide (IntKind.i64.wrap (IntKind.i64.wrap (IntKind.i64.wrap ((↑z1:Int)+(↑z2:Int))+(↑(1+b.length+(1+d.length)):Int))+(↑(1+b'.length+(1+d'.length)):Int)) > (2000:Int))) (true=true∧rfS (bV true)) (FitS [A16,((a',b',j'),c',d',i')] [Ln.mk K C n l k,Ln.mk K' C' n' l' k']∧∀ (z3:Option (Lz × Rat)),z3=sumF [A16,((a',b',j'),c',d',i')] [Ln.mk K C n l k,Ln.mk K' C' n' l' k']→FitS [((a',b',j'),c',d',i'),A16] [Ln.mk K' C' n' l' k',Ln.mk K C n l k]∧∀ (z4:Option (Lz × Rat)),z4=sumF [((a',b',j'),c',d',i'),A16] [Ln.mk K' C' n' l' k',Ln.mk K C n l k]→((∀ (c:Bool × List Nat × Nat),c∈C→c.snd.snd≤1000000)∧(C.length≤100000000∧K.length≤100000000)∧k≤1000000)∧ifB (QaX K C n l) (((∀ (c:Bool × List Nat × Nat),c∈C'→c.snd.snd≤1000000)∧(C'.length≤100000000∧K'.length≤100000000)∧k'≤1000000)∧ifB (QaX K' C' n' l') ((j≤435000∧i≤435000)∧ifB (Qa7 a b c d) ((j'≤435000∧i'≤435000)∧ifB (!z3.isSome==Qa7 a' b' c' d') A2 (ifB (!z4.isSome==Qa7 a' b' c' d') A2 (∀ (z5:Bool),z5=Qfe (Qcb z3) (Qcb z4)→ifB (!z5) A2 ((A7 z3 z4)∧∀ (z6:Bool),z6=Qgs (Qbh z3) (Qbh z4)→ifB (!z6) A2 (20000≤800000∧ifB (A4 z3 z4) A2 (ifB ((↑(Qcb z3).length:Int) != (↑(Qbh z3).length:Int)) A2 (ifB (!Qa7 a' b' c' d') (true=true∧Sub (bV ((↑(Qcb z3).length:Int)==(0:Int))) (bV true)) (((-9223372036854775808:Int)≤(1:Int)∧(1:Int)≤(9223372036854775807:Int))∧∀ (z7:Int),z7=(1:Int)→3≤95000∧∀ (z8:Rat),(z8=match Qak (zNeg z7) (digs 1000000000 z7.natAbs) with | true=>(↑(zV (zNeg z7) (digs 1000000000 z7.natAbs)):Rat) | false=>(0:Rat))→(j≤95000∧i≤95000)∧∀ (z9:Rat),z9=-Qaw a b c d→FitS [A16,(A10 z9)] [Ln.mk K C n l k,Ln.mk K C n l k]∧∀ (z10:Option (Lz × Rat)),z10=sumF [A16,(A10 z9)] [Ln.mk K C n l k,Ln.mk K C n l k]→ifB (!z10.isSome) A2 (ifB ((↑(Qcb z10).length:Int) != (0:Int)) A2 (ifB ((↑(Qbh z10).length:Int) != (0:Int)) A2 (((-9223372036854775808:Int)≤(0:Int)∧(0:Int)≤(9223372036854775807:Int))∧∀ (z11:Int),z11=(0:Int)→3≤95000∧∀ (z12:Rat),(z12=match Qak (zNeg z11) (digs 1000000000 z11.natAbs) with | true=>(↑(zV (zNeg z11) (digs 1000000000 z11.natAbs)):Rat) | false=>(0:Rat))→(5000≤95000∧5000≤95000∧6≤95000∧6≤95000)∧ifB (cmpI ((A8 z10).num * (↑(A12 z12).den:Int)) ((A12 z12).num * (↑(A8 z10).den:Int)) != (0:Int)) A2 (FitS [(A13 z8)] [Ln.mk K C n l k]∧∀ (z13:Option (Lz × Rat)),z13=sumF [(A13 z8)] [Ln.mk K C n l k]→∃ (x14:Nat),((A11∧(SubB (PV.f (Lf.zn (numO z13).num)) (PV.f (Lf.zn (numO A3).num))∧SubB (PV.f (Lf.zd (numO z13).num 5000)) (PV.f (Lf.zd (numO A3).num 5000))∧SubB (PV.f (Lf.zn (↑(numO z13).den:Int))) (PV.f (Lf.zn A5))∧SubB (PV.f (Lf.zd (↑(numO z13).den:Int) 5000)) (PV.f (Lf.zd A5 5000))∧True)∧True)∧rfB (PV.bp 0 0)∧SubB (dP Sh.str (Qcb z13)) (dP Sh.str (Qcb A3))∧SubB (PV.f (Lf.qs (Qbh z13))) (PV.f (Lf.qs (Qbh A3)))∧rfB (PV.bp 7 0)∧SubB (bV z13.isSome) (bV true)∧SubB (iV 0) (iV (↑x14:Int))∧True)∧(x14≤C.length∧QaX K C n l=true)∧True∧∀ (z15:Nat),z15≤C.length∧QaX K C n l=true→True→ifB (decide ((↑z15:Int)<(↑(Qbh A3).length:Int))) (((0:Int)≤(↑z15:Int)∧(↑z15:Int)<(↑(Qbh A3).length:Int))∧((0:Int)≤(↑z15:Int)∧(↑z15:Int)<(↑C.length:Int))∧(A6 z15).snd.snd≤95000∧∀ (z16:Rat),(z16=match Qak (A6 z15).fst (A6 z15).snd.fst with | true=>(↑(zV (A6 z15).fst (A6 z15).snd.fst):Rat) | false=>(0:Rat))→((A1 z15).fst.snd.snd≤95000∧(A1 z15).snd.snd.snd≤95000∧(A6 z15).snd.snd+3≤95000∧6≤95000)∧ifB (cmpI ((Qaw (A1 z15).fst.fst (A1 z15).fst.snd.fst (A1 z15).snd.fst (A1 z15).snd.snd.fst).num * (↑(A14 z16).den:Int)) ((A14 z16).num * (↑(Qaw (A1 z15).fst.fst (A1 z15).fst.snd.fst (A1 z15).snd.fst (A1 z15).snd.snd.fst).den:Int)) != (0:Int)) A2 (∃ (x17:Nat),((A11∧(rfB (PV.f (Lf.zn (numO A3).num))∧rfB (PV.f (Lf.zd (numO A3).num 5000))∧rfB (PV.f (Lf.zn A5))∧rfB (PV.f (Lf.zd A5 5000))∧True)∧True)∧rfB (PV.bp 0 0)∧rfB (dP Sh.str (Qcb A3))∧rfB (PV.f (Lf.qs (Qbh A3)))∧rfB (PV.bp 7 0)∧rfB (bV true)∧SubB (iV (IntKind.i64.wrap ((↑z15:Int)+(1:Int)))) (iV (↑x17:Int))∧True)∧(x17≤C.length∧QaX K C n l=true)∧True∧(C.length - x17).succ.le (C.length - z15))) (∀ (z16:Bool),z16=Qfe (Qcb A3) K→ifB z16 (k≤95000∧∀ (z17:Rat),(z17=match Qak n l with | true=>(↑(zV n l):Rat) | false=>(0:Rat))→(5000≤95000∧5000≤95000∧k+3≤95000∧6≤95000)∧true=true∧Sub (bV (cmpI (A9.num * (↑(A15 z17).den:Int)) ((A15 z17).num * (↑A9.den:Int))==(0:Int))) (bV true)) A2))))))))))))) (A0 z3 z4)) (A0 z3 z4)) (A0 z3 z4))) ?kr ?_
   case kr=>kernel_rfl
   conv=>zeta
   refine ⟨?s0,fun z1=>fun hz1=>⟨?s1,fun z2=>fun hz2=>⟨?s2,⟨?s3,Qae.2 ⟨fun hb0=>⟨rfl,?m0⟩,fun hb0=>⟨?s4,fun z3=>fun hz3=>⟨?s5,fun z4=>fun hz4=>⟨?s6,Qae.2 ⟨fun hb1=>⟨?s7,Qae.2 ⟨fun hb2=>⟨?s8,Qae.2 ⟨fun hb3=>⟨?s9,Qae.2 ⟨fun hb4=>⟨rfl,?m1⟩,fun hb4=>Qae.2 ⟨fun hb5=>⟨rfl,?m2⟩,fun hb5=>fun z5=>fun hz5=>Qae.2 ⟨fun hb6=>⟨rfl,?m3⟩,fun hb6=>⟨?s10,fun z6=>fun hz6=>Qae.2 ⟨fun hb7=>⟨rfl,?m4⟩,fun hb7=>⟨?s11,Qae.2 ⟨fun hb8=>⟨rfl,?m5⟩,fun hb8=>Qae.2 ⟨fun hb9=>⟨rfl,?m6⟩,fun hb9=>Qae.2 ⟨fun hb10=>⟨rfl,?m7⟩,fun hb10=>⟨?s12,fun z7=>fun hz7=>⟨?s13,fun z8=>fun hz8=>⟨?s14,fun z9=>fun hz9=>⟨?s15,fun z10=>fun hz10=>Qae.2 ⟨fun hb11=>⟨rfl,?m8⟩,fun hb11=>Qae.2 ⟨fun hb12=>⟨rfl,?m9⟩,fun hb12=>Qae.2 ⟨fun hb13=>⟨rfl,?m10⟩,fun hb13=>⟨?s16,fun z11=>fun hz11=>⟨?s17,fun z12=>fun hz12=>⟨?s18,Qae.2 ⟨fun hb14=>⟨rfl,?m11⟩,fun hb14=>⟨?s19,fun z13=>fun hz13=>⟨?x0,⟨⟨⟨⟨.refl _,⟨.refl _,⟨.refl _,⟨.refl _,trivial⟩⟩⟩⟩,⟨⟨?m12,⟨?m13,⟨?m14,⟨?m15,trivial⟩⟩⟩⟩,trivial⟩⟩,⟨.refl _,⟨?m16,⟨?m17,⟨.refl _,⟨?m18,⟨?m19,trivial⟩⟩⟩⟩⟩⟩⟩,⟨?s20,⟨trivial,fun z15=>fun hq15=>fun _=>Qae.2 ⟨fun hb16=>⟨?s21,⟨?s22,⟨?s23,fun z16=>fun hz16=>⟨?s24,Qae.2 ⟨fun hb17=>⟨rfl,?m20⟩,fun hb17=>⟨?x1,⟨⟨⟨⟨.refl _,⟨.refl _,⟨.refl _,⟨.refl _,trivial⟩⟩⟩⟩,⟨⟨.refl _,⟨.refl _,⟨.refl _,⟨.refl _,trivial⟩⟩⟩⟩,trivial⟩⟩,⟨.refl _,⟨.refl _,⟨.refl _,⟨.refl _,⟨.refl _,⟨?m21,trivial⟩⟩⟩⟩⟩⟩⟩,⟨?s25,⟨trivial,?m22⟩⟩⟩⟩⟩⟩⟩⟩⟩,fun hb16=>fun z16=>fun hz16=>Qae.2 ⟨fun hb18=>⟨?s26,fun z17=>fun hz17=>⟨?s27,⟨rfl,?m23⟩⟩⟩,fun hb18=>⟨rfl,?m24⟩⟩⟩⟩⟩⟩⟩⟩⟩⟩⟩⟩⟩⟩⟩⟩⟩⟩⟩⟩⟩⟩⟩⟩⟩⟩⟩⟩⟩,fun hb3=>Qae.2 ⟨fun hb19=>⟨rfl,?m25⟩,fun hb19=>Qae.2 ⟨fun hb20=>⟨rfl,?m26⟩,fun hb20=>fun z5=>fun hz5=>Qae.2 ⟨fun hb21=>⟨rfl,?m27⟩,fun hb21=>⟨?s28,fun z6=>fun hz6=>Qae.2 ⟨fun hb22=>⟨rfl,?m28⟩,fun hb22=>⟨?s29,Qae.2 ⟨fun hb23=>⟨rfl,?m29⟩,fun hb23=>Qae.2 ⟨fun hb24=>⟨rfl,?m30⟩,fun hb24=>⟨rfl,?m31⟩⟩⟩⟩⟩⟩⟩⟩⟩⟩⟩,fun hb2=>Qae.2 ⟨fun hb25=>⟨rfl,?m32⟩,fun hb25=>Qae.2 ⟨fun hb26=>⟨rfl,?m33⟩,fun hb26=>fun z5=>fun hz5=>Qae.2 ⟨fun hb27=>⟨rfl,?m34⟩,fun hb27=>⟨?s30,fun z6=>fun hz6=>Qae.2 ⟨fun hb28=>⟨rfl,?m35⟩,fun hb28=>⟨?s31,Qae.2 ⟨fun hb29=>⟨rfl,?m36⟩,fun hb29=>Qae.2 ⟨fun hb30=>⟨rfl,?m37⟩,fun hb30=>⟨rfl,?m38⟩⟩⟩⟩⟩⟩⟩⟩⟩⟩⟩,fun hb1=>Qae.2 ⟨fun hb31=>⟨rfl,?m39⟩,fun hb31=>Qae.2 ⟨fun hb32=>⟨rfl,?m40⟩,fun hb32=>fun z5=>fun hz5=>Qae.2 ⟨fun hb33=>⟨rfl,?m41⟩,fun hb33=>⟨?s32,fun z6=>fun hz6=>Qae.2 ⟨fun hb34=>⟨rfl,?m42⟩,fun hb34=>⟨?s33,Qae.2 ⟨fun hb35=>⟨rfl,?m43⟩,fun hb35=>Qae.2 ⟨fun hb36=>⟨rfl,?m44⟩,fun hb36=>⟨rfl,?m45⟩⟩⟩⟩⟩⟩⟩⟩⟩⟩⟩⟩⟩⟩⟩⟩⟩⟩
   case x0=>exact 0
   case x1=>exact z15+1
   case s0=>exact ⟨hFa,by omega,by omega⟩
   case s1=>exact ⟨hFb,by omega,by omega⟩
   case s2=>omega
   case s3=>omega
   case m0=>exact .refl _
   all_goals have hz1':z1=Qc2 2000 (Ln.mk K C n l k):=hz1
   all_goals have hz2':z2=Qc2 2000 (Ln.mk K' C' n' l' k'):=hz2
   all_goals have hsm:z1+z2+(1+b.length+(1+d.length))+(1+b'.length+(1+d'.length))≤2000:=(by
    have:=of_decide_eq_false hb0
    rw [wJ ((z1:Int)+z2) (by omega) (by omega),wJ (_+((1+b.length+(1+d.length):Nat):Int)) (by omega) (by omega),wJ _ (by omega) (by omega)] at this
    omega)
   all_goals clear hb0
   all_goals have ca:=Qg7 (x:=Ln.mk K C n l k) (by omega)
   all_goals have cb:=Qg7 (x:=Ln.mk K' C' n' l' k') (by omega)
   all_goals have ga:=Qo2 (x:=Ln.mk K C n l k) (by omega) hgC hgl hka
   all_goals have gb:=Qo2 (x:=Ln.mk K' C' n' l' k') (by omega) hgC' hgl' hkb
   all_goals have gp:SmE ((a,b,j),(c,d,i)) (b.length+1) (d.length+1):=Qo3 hgb hgd (by omega) (by omega)
   all_goals have gq:SmE ((a',b',j'),(c',d',i')) (b'.length+1) (d'.length+1):=Qo3 hgb' hgd' (by omega) (by omega)
   all_goals rw [← hz1'] at ca ga
   all_goals rw [← hz2'] at cb gb
   all_goals clear hz1 hz2 hz1' hz2'
   all_goals have hS:FitS [((a,b,j),c,d,i),((a',b',j'),c',d',i')] [Ln.mk K C n l k,Ln.mk K' C' n' l' k']:=fits2 gp gq ga gb (by omega)
   case s4=>exact hS
   all_goals have hRO:=QtG hS
   all_goals rw [← hz3] at hRO
   case s5=>exact fits2 gq gp gb ga (by omega)
   all_goals have e4:z4=z3:=(by rw [hz4,hz3]; exact QoR)
   all_goals clear hz4
   all_goals subst e4
   all_goals have es:z4.isSome=(QaX K C n l && (QaX K' C' n' l' && (Qa7 a b c d && Qa7 a' b' c' d'))):=(by rw [hz3]; exact Qhx ((a,b,j),c,d,i) ((a',b',j'),c',d',i') (Ln.mk K C n l k) (Ln.mk K' C' n' l' k'))
   all_goals have cka:∀ e∈C,e.2.2≤2000:=fun e he=>(by rw [hka.2 e he]; have:=ca.2.2.2 e he; omega)
   all_goals have ckb:∀ e∈C',e.2.2≤2000:=fun e he=>(by rw [hkb.2 e he]; have:=cb.2.2.2 e he; omega)
   all_goals have ck:=ca.1
   all_goals have ck':=cb.1
   all_goals have cK:=ca.2.1.1
   all_goals have cK':=cb.2.1.1
   all_goals have cC:=ca.2.2.1
   all_goals have cC':=cb.2.2.1
   all_goals dsimp only at ck ck' cK cK' cC cC'
   case s6=>exact ⟨fun e he=>by have:=cka e he; omega,⟨by omega,by omega⟩,by omega⟩
   case s7=>exact ⟨fun e he=>by have:=ckb e he; omega,⟨by omega,by omega⟩,by omega⟩
   case s8=>omega
   case s9=>omega
   all_goals try (rw [hb1] at es)
   all_goals try (rw [hb2] at es)
   all_goals try (rw [hb3] at es)
   all_goals simp only [Bool.true_and,Bool.false_and,Bool.and_true,Bool.and_false] at es
   all_goals try (rw [QhA] at hz5)
   all_goals try (rw [QkB] at hz6)
   all_goals have e9:=Qsz z4
   all_goals try first
    | exact (bad_a es (by assumption)).elim
    | exact (bad_b hz5 (by assumption)).elim
    | exact (bad_b hz6 (by assumption)).elim
    | exact (bad_l e9 (by assumption)).elim
    | exact (bad_q (by assumption)).elim
    | exact ⟨by have:=hRO.1; omega,fun e he=>hRO.2 e (by rcases List.mem_append.1 he with h | h <;> exact h)⟩
    | exact (QaT (QjJ es)).sub
    | decide
   case m7=>exact (QaT (QjJ (es.trans (by simpa using hb10)))).sub
   all_goals have r4:Qa7 a' b' c' d'=true:=(by simpa using hb10)
   all_goals subst hz7
   case s14=>omega
   all_goals have e8:z8=1:=(by
    rw [hz8,Qa6 1]
    show ((zV (zNeg 1) (digs 1000000000 (Int.natAbs 1)):Int):Rat)=1
    rw [QaI]; rfl)
   all_goals clear hz8
   all_goals subst e8
   case s15=>exact fits2 gp (Qtk gp hz9 (by omega) (by omega)) ga ga (by omega)
   all_goals have e10:z10=some ([],0):=hz10.trans (QoS (x:=Ln.mk K C n l k) hb3 (Qco z9) hb1 ((Qaz z9).trans hz9))
   all_goals clear hz10
   all_goals subst e10
   case m8=>cases hb11
   case m9=>cases hb12
   case m10=>cases hb13
   all_goals subst hz11
   all_goals have e12:z12=0:=(by
    rw [hz12,Qa6 0]
    show ((zV (zNeg 0) (digs 1000000000 (Int.natAbs 0)):Int):Rat)=0
    rw [QaI]; rfl)
   all_goals clear hz12
   all_goals subst e12
   case m11=>exact (QsN rfl hb14).elim
   all_goals clear hb14 hb12 hb13 hb11 hz9
   case s19 =>
    have g1:SmE ((zNeg (1:Rat).num,digs 1000000000 (1:Rat).num.natAbs,3+3),(zNeg ((1:Rat).den:Int),digs 1000000000 ((1:Rat).den:Int).natAbs,6)) 3 3:=by
     refine ⟨?_,by decide,by decide⟩
     rw [show ofE ((zNeg (1:Rat).num,digs 1000000000 (1:Rat).num.natAbs,3+3),(zNeg ((1:Rat).den:Int),digs 1000000000 ((1:Rat).den:Int).natAbs,6))=1 from Qaz 1]
     exact ⟨ZB.one.mono (by omega),ZB.one.mono (by omega)⟩
    exact fits1 g1 ga (by omega)
   all_goals have e13:z13=oneR (Ln.mk K C n l k):=hz13.trans (Qq3 (x:=Ln.mk K C n l k) (Qco 1) (Qaz 1) hb1)
   all_goals clear hz13
   all_goals subst e13
   case m12=>exact .refl _
   case m13=>exact .refl _
   case m14=>exact .refl _
   case m15=>exact .refl _
   case m16=>exact .refl _
   case m17=>exact .refl _
   case m18=>exact .refl _
   case m19=>exact .refl _
   case s20=>exact ⟨Nat.zero_le _,hb1⟩
   all_goals have rp:=Qfw (x:=Ln.mk K C n l k) hb1
   all_goals have hkl:K.length=C.length:=rp.2.1
   all_goals have hks:Qcb (oneR (Ln.mk K C n l k))=K:=Qom _
   all_goals have hlen:(Qbh (oneR (Ln.mk K C n l k))).length=C.length:=(by rw [← Qsz,hks,hkl])
   all_goals rw [hlen] at hb16
   case m24=>rw [hz16,hks,QhA] at hb18; cases hb18
   case s26=>omega
   case s27=>omega
   case m23 =>
    have e17:z17=((zV n l:Int):Rat):=by rw [hz17,rp.2.2.1]
    rw [Qaz,Qaz,e17]
    exact (QaT (Qm1 _)).sub
   all_goals have hi:=of_decide_eq_true hb16
   all_goals have hiC:z15<C.length:=by omega
   case s21=>rw [hlen]; omega
   case s22=>omega
   all_goals rw [Int.toNat_natCast] at *
   all_goals have e24:(Qbh (oneR (Ln.mk K C n l k))).getD z15 ((false,[],0),false,[],0)=rawE 5000 ((zV (C.getD z15 (false,[],0)).1 (C.getD z15 (false,[],0)).2.1:Int):Rat):=Qsi (x:=Ln.mk K C n l k) (by show z15<K.length; omega)
   all_goals have h23:=cka _ (gotD (false,[],0) hiC)
   case s23=>omega
   case s24=>rw [e24]; exact ⟨(by decide:5000≤95000),(by decide:5000≤95000),by omega,by decide⟩
   case m20 =>
    have e16:z16=((zV (C.getD z15 (false,[],0)).1 (C.getD z15 (false,[],0)).2.1:Int):Rat):=by rw [hz16,show Qak (C.getD z15 (false,[],0)).1 (C.getD z15 (false,[],0)).2.1=true from (rp.2.2.2 z15 hiC).1]
    rw [e24,Qaz z16,e16] at hb17
    have t1:∀ q:Rat,Qaw (rawE 5000 q).1.1 (rawE 5000 q).1.2.1 (rawE 5000 q).2.1 (rawE 5000 q).2.2.1=q:=fun q=>Qaz q
    rw [t1] at hb17
    exact (QsN rfl hb17).elim
   case m21=>exact QaM (by rw [wJ _ (by omega) (by omega)]; omega)
   case s25=>exact ⟨by omega,hb1⟩
   case m22=>exact (by omega:C.length - (z15+1)+1≤C.length - z15)
 · cases hs
end Go.Proofs.YtmbmbcamecfnkaaGreatDoor
