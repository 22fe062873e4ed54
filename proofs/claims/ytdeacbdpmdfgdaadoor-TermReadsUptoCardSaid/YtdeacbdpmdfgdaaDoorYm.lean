/- The law TermReads: the term of any text is what the reference tells. -/
import Derived.Test.YtdeacbdpmdfgdaaDoorYk
import Derived.Test.YtdeacbdpmdfgdaaDoorKj
set_option linter.unusedSimpArgs false
namespace Go.Proofs.YtdeacbdpmdfgdaaDoor
open Go.RowKit
set_option linter.unusedVariables false
set_option maxRecDepth 100000
def pickI (x n:Int):Int:=if n<1 then 0 else if x.tmod n<0 then x.tmod n+n else x.tmod n
theorem pick_in (x:Int) {n:Int} (h:1≤n):0≤pickI x n∧pickI x n<n:=by
 have h1:=Int.emod_nonneg x (show n≠0 by omega)
 have h2:=Int.tmod_lt_of_pos x (show 0<n by omega)
 have h3:-n<x.tmod n:=by
  have:=Int.tmod_lt_of_pos (-x) (show 0<n by omega)
  rw [Int.neg_tmod] at this
  omega
 unfold pickI
 rw [if_neg (by omega)]
 split <;> omega
set_option maxHeartbeats 1000000 in
theorem pick_any (x n:Int) (w:World) (h:1≤n) (h1:n≤4611686018427387904) :
  Calls Tryd.prog 12 #[.int .i64 x,.int .i64 n] w fun e w'=>e=.returned (.int .i64 (pickI x n))∧w=w':=by
 have hn:¬ n<1:=by omega
 have hne:¬ n=0:=by omega
 have h2:=Int.tmod_lt_of_pos x (show 0<n by omega)
 have h3:-n<x.tmod n:=by
  have:=Int.tmod_lt_of_pos (-x) (show 0<n by omega)
  rw [Int.neg_tmod] at this
  omega
 by_cases hx:x.tmod n<0
 · have e:IntKind.i64.wrap (x.tmod n+n)=x.tmod n+n:=wJ _ (by omega) (by omega)
   have E:=Lib.hid (show pickI x n=x.tmod n+n by unfold pickI; rw [if_neg hn,if_pos hx])
   go_enter Tryd.func12,Tryd.ntmps12
   go_wp2
   go_ret
   exact ⟨by rw [E.out]; rfl,rfl⟩
 · have E:=Lib.hid (show pickI x n=x.tmod n by unfold pickI; rw [if_neg hn,if_neg hx])
   go_enter Tryd.func12,Tryd.ntmps12
   go_wp2
   go_ret
   exact ⟨by rw [E.out]; rfl,rfl⟩
def sPickN:Spec
 | [.f (.v (.int .i64 x)),.f (.v (.int .i64 n))]=>some (some (1≤n∧n≤4611686018427387904),.nm Int (pickI x n) iV)
 | _=>none
theorem cPickN {E:Env}:Contract Tryd.prog E 12 sPickN:=by
 intro xs p r hs hp w H vs hfro hE hvs
 unfold sPickN at hs
 split at hs
 · rename_i x n
   cases hs
   obtain ⟨h0,h1⟩:=hp _ rfl
   obtain ⟨v0,v1,rfl⟩:∃ v0 v1,vs=[v0,v1]:=by
    match vs,hvs.1 with
    | [v0,v1],_=>exact ⟨v0,v1,rfl⟩
   have q0:=(hvs.2 0 _ _ rfl rfl).val
   have q1:=(hvs.2 1 _ _ rfl rfl).val
   subst q0 q1
   refine (pick_any x n w h0 h1).mono ?_
   rintro e w' ⟨rfl,rfl⟩
   exact ⟨H,_,rfl,Ext.below hfro (Below.refl _ _),.f (.v _ rfl)⟩
 · cases hs
mutual
theorem key_cnt:∀ t:Tw,kindR t→(∀ x∈[t],cntT x≤100000000000000000)→(keyB t).length≤64 * cntT t
 | .mk k n b d l,hk,hc=>by
  have h0:=hc _ (List.mem_singleton.2 rfl)
  rw [cntT] at h0
  have h1:=dec_len 2 k.toNat (by have:=hk.1.1; omega)
  have h2:=dec_len 18 n.size (by omega)
  have h3:=dec_len 18 l.length (by have:=cntTL_len l; omega)
  have h4:=digsC_len hk.1.2
  have h5:=keyL_cnt l hk.2 (by omega)
  have h6:(if b=true then [(45:UInt8)] else []).length≤1:=by split <;> simp
  have h7:=sz_list n
  rw [keyB,cntT]
  simp only [List.length_append,List.length_cons]
  omega
theorem keyL_cnt:∀ l:List Tw,kindRL l→cntTL l≤100000000000000000→(keyBL l).length≤64 * cntTL l
 | [],_,_=>by simp [keyBL]
 | t::l,hk,hc=>by
  rw [cntTL] at hc
  have h1:=key_cnt t hk.1 fun x hx=>by cases List.mem_singleton.1 hx; omega
  have h2:=keyL_cnt l hk.2 (by omega)
  rw [keyBL,cntTL,List.length_append]
  omega
end
theorem rdE_fit {s:List UInt8} (h:s.length≤600000):(valE Sh.tm.nil (rdE s)).fitT:=by
 cases hr:rdO s with
 | none=>rw [rdE_no hr]; exact ⟨Nat.zero_le _,Nat.zero_le _,Nat.zero_le _,trivial⟩
 | some p =>
  obtain ⟨t,r⟩:=p
  by_cases hc:r=[]
  · subst hc
    obtain ⟨e,hk⟩:=rdO_is hr
    rw [List.append_nil] at e
    subst e
    rw [rdE_ok hr]
    exact (fit_of t (by omega)).1
  · rw [rdE_not hr hc]; exact ⟨Nat.zero_le _,Nat.zero_le _,Nat.zero_le _,trivial⟩
end Go.Proofs.YtdeacbdpmdfgdaaDoor
namespace Go.Proofs.YtdeacbdpmdfgdaaDoor
open Go.RowKit
set_option linter.unusedVariables false
set_option maxRecDepth 100000
def oddS (k:ByteArray) (i b:Int):ByteArray:=strOfNums ((strI k).set i.toNat (IntKind.u8.wrap (↑(BitVec.ofInt IntKind.u8.bits ((strI k).getD i.toNat 0) ^^^ BitVec.ofInt IntKind.u8.bits b).toNat:Int)))
theorem oddS_size (k:ByteArray) (i b:Int):(oddS k i b).size=k.size:=by
 have h:=strI_len k
 show (List.map _ _).toArray.size=_
 simp [h]
def fiveS (s k:ByteArray) (i b:Int):List ByteArray:=[s,k,oddS k i b,k.extract (Int.toNat 0) i.toNat,k++s]
theorem fiveS_size {s k:ByteArray} {i b:Int} (hs:s.size≤3000) (hk:k.size≤200000):∀ x∈fiveS s k i b,x.size≤600000:=by
 intro x hx
 unfold fiveS at hx
 rcases List.mem_cons.1 hx with rfl | hx
 · omega
 rcases List.mem_cons.1 hx with rfl | hx
 · omega
 rcases List.mem_cons.1 hx with rfl | hx
 · rw [oddS_size]; omega
 rcases List.mem_cons.1 hx with rfl | hx
 · rw [ByteArray.size_extract]; omega
 cases List.mem_singleton.1 hx
 rw [ByteArray.size_append]; omega
theorem at_all {L:List ByteArray} {i:Nat} (h:∀ x∈L,x.size≤600000) (hi:i<L.length):(L.getD i Sh.str.nil).size≤600000:=by
 rw [List.getD_eq_getElem?_getD,List.getElem?_eq_getElem hi]
 exact h _ (List.getElem_mem hi)
def sReads:Spec
 | [.f (.v (.string s)),x,.f (.v (.int .i64 a)),.f (.v (.int .u8 b))]=>match tmOf x with
  | some t=>some (some (cntT t≤1200000∧kindR t∧s.size≤100000000),.one (bV true))
  | none=>none
 | _=>none
set_option maxHeartbeats 8000000 in
theorem cReads:Contract Tryd.prog EX 4 sReads:=by
 refine contract_D [(11,sTrue4),(10,sGreat4),(15,sSameT),(8,sKey),(13,sOfX),(14,sOfR),(12,sPickN)] [] Tryd.ntmps4 Tryd.func4 (by kernel_rfl) (by kernel_rfl) EX.up ⟨cAwake4 EX.up EX.tab,cGreat4 EX.up,cSameT EX.up,cKey EX.up EX.tab,cOfX EX.up EX.tab EX.max EX.errs,cOfR EX.up EX.tab,cPickN,trivial⟩ trivial ?_
 intro xs p r hs hp
 unfold sReads at hs
 split at hs
 · rename_i s x a b
   split at hs
   · rename_i t h1
     cases hs
     obtain ⟨na,ka,hsz⟩:=hp _ rfl
     refine ⟨[.f (.v (.string s)),tmP t,iV a,.f (.v (.int .u8 b))],[
      (11,.s ⟨List ByteArray × Nat,fun q=>⟨[(12,.f (.dt .str q.1)),(13,iV q.2)],[]⟩,fun q=>(∀ x∈q.1,x.size≤600000)∧q.2≤q.1.length∧q.1.length≤5,fun q=>q.1.length - q.2⟩)],.cons (.refl _) (.cons (tm_sub h1).sub (.cons (.refl _) (.cons (.refl _) .nil))),rfl,fun _ hsh=>?_⟩
     have h0:=na
     refine cast_rfl (p:=(0≤4000000∧cntTL [Tw.mk t.kind t.name t.neg t.digits t.kids]≤4000000)∧∀ (z1:Bool),z1=great4 [] [Tw.mk t.kind t.name t.neg t.digits t.kids]→ifB z1 (true=true∧Sub (bV true) (bV true)) (ifB (decide ((↑s.size:Int) > (3000:Int))) (true=true∧Sub (bV true) (bV true)) ((kindR (Tw.mk t.kind t.name t.neg t.digits t.kids)∧(Tw.mk t.kind t.name t.neg t.digits t.kids).fitT∧(keyB (Tw.mk t.kind t.name t.neg t.digits t.kids)).length≤140737488355328)∧(keyS (Tw.mk t.kind t.name t.neg t.digits t.kids)).size≤1099511627776∧ifB ((↑(strI (keyS (Tw.mk t.kind t.name t.neg t.digits t.kids))).length:Int)==(0:Int)) (true=true∧Sub (bV false) (bV true)) (((1:Int)≤(↑(strI (keyS (Tw.mk t.kind t.name t.neg t.digits t.kids))).length:Int)∧(↑(strI (keyS (Tw.mk t.kind t.name t.neg t.digits t.kids))).length:Int)≤(4611686018427387904:Int))∧∀ (z2:Int),z2=pickI a (↑(strI (keyS (Tw.mk t.kind t.name t.neg t.digits t.kids))).length:Int)→((0:Int)≤z2∧z2<(↑(strI (keyS (Tw.mk t.kind t.name t.neg t.digits t.kids))).length:Int))∧((0:Int)≤z2∧z2<(↑(strI (keyS (Tw.mk t.kind t.name t.neg t.digits t.kids))).length:Int))∧((0:Int)≤(0:Int)∧(0:Int)≤z2∧z2≤(↑(keyS (Tw.mk t.kind t.name t.neg t.digits t.kids)).size:Int))∧(↑((keyS (Tw.mk t.kind t.name t.neg t.digits t.kids)).size+s.size):Int)≤IntKind.i64.max∧∃ (x3:List ByteArray × Nat),(True∧SubB (PV.f (Lf.dt Sh.str [s,keyS (Tw.mk t.kind t.name t.neg t.digits t.kids),strOfNums ((strI (keyS (Tw.mk t.kind t.name t.neg t.digits t.kids))).set z2.toNat (IntKind.u8.wrap (↑(BitVec.ofInt IntKind.u8.bits ((strI (keyS (Tw.mk t.kind t.name t.neg t.digits t.kids))).getD z2.toNat (0:Int)) ^^^ BitVec.ofInt IntKind.u8.bits b).toNat:Int))),(keyS (Tw.mk t.kind t.name t.neg t.digits t.kids)).extract (Int.toNat (0:Int)) z2.toNat,keyS (Tw.mk t.kind t.name t.neg t.digits t.kids)++s])) (PV.f (Lf.dt Sh.str x3.fst))∧SubB (iV 0) (iV (↑x3.snd:Int))∧True)∧((∀ (x:ByteArray),x∈x3.fst→x.size≤600000)∧x3.snd≤x3.fst.length∧x3.fst.length≤5)∧True∧∀ (z4:List ByteArray × Nat),(∀ (x:ByteArray),x∈z4.fst→x.size≤600000)∧z4.snd≤z4.fst.length∧z4.fst.length≤5→True→ifB (decide ((↑z4.snd:Int)<(↑z4.fst.length:Int))) (((0:Int)≤(↑z4.snd:Int)∧(↑z4.snd:Int)<(↑z4.fst.length:Int))∧ByteArray.size (z4.fst.getD (↑z4.snd:Int).toNat Sh.str.nil)<4294967281∧∀ (z5:Except Int Tw),z5=rdE (z4.fst.getD (↑z4.snd:Int).toNat Sh.str.nil).data.toList→((0:Int)≤(↑z4.snd:Int)∧(↑z4.snd:Int)<(↑z4.fst.length:Int))∧ByteArray.size (z4.fst.getD (↑z4.snd:Int).toNat Sh.str.nil)≤600000∧∀ (z6:Except Int Tw),z6=rdE (z4.fst.getD (↑z4.snd:Int).toNat Sh.str.nil).data.toList→ifB (!(errE z5==(0:Int))==(errE z6==(0:Int))) (true=true∧Sub (bV false) (bV true)) (((Tw.mk (valE Sh.tm.nil z5).kind (valE Sh.tm.nil z5).name (valE Sh.tm.nil z5).neg (valE Sh.tm.nil z5).digits (valE Sh.tm.nil z5).kids).fitT∧(Tw.mk (valE Sh.tm.nil z6).kind (valE Sh.tm.nil z6).name (valE Sh.tm.nil z6).neg (valE Sh.tm.nil z6).digits (valE Sh.tm.nil z6).kids).fitT)∧∀ (z7:Bool),z7=sameT (Tw.mk (valE Sh.tm.nil z5).kind (valE Sh.tm.nil z5).name (valE Sh.tm.nil z5).neg (valE Sh.tm.nil z5).digits (valE Sh.tm.nil z5).kids) (Tw.mk (valE Sh.tm.nil z6).kind (valE Sh.tm.nil z6).name (valE Sh.tm.nil z6).neg (valE Sh.tm.nil z6).digits (valE Sh.tm.nil z6).kids)→ifB (!z7) (true=true∧Sub (bV false) (bV true)) (∃ (x8:List ByteArray × Nat),(True∧SubB (PV.f (Lf.dt Sh.str z4.fst)) (PV.f (Lf.dt Sh.str x8.fst))∧SubB (iV (IntKind.i64.wrap ((↑z4.snd:Int)+(1:Int)))) (iV (↑x8.snd:Int))∧True)∧((∀ (x:ByteArray),x∈x8.fst→x.size≤600000)∧x8.snd≤x8.fst.length∧x8.fst.length≤5)∧True∧(x8.fst.length - x8.snd).succ.le (z4.fst.length - z4.snd)))) (true=true∧Sub (bV true) (bV true)))))) ?kr ?_
     case kr=>kernel_rfl
     refine ⟨?s0,fun z1=>fun hz1=>ifB_iff.2 ⟨fun hb0=>⟨rfl,?m0⟩,fun hb0=>ifB_iff.2 ⟨fun hb1=>⟨rfl,?m1⟩,fun hb1=>⟨?s1,⟨?s2,ifB_iff.2 ⟨fun hb2=>⟨rfl,?m2⟩,fun hb2=>⟨?s3,fun z2=>fun hz2=>⟨?s4,⟨?s5,⟨?s6,⟨?s7,⟨?x0,⟨⟨trivial,⟨?m3,⟨?m4,trivial⟩⟩⟩,⟨?s8,⟨trivial,fun z4=>fun hq3=>fun _=>ifB_iff.2 ⟨fun hb4=>⟨?s9,⟨?s10,fun z5=>fun hz5=>⟨?s11,⟨?s12,fun z6=>fun hz6=>ifB_iff.2 ⟨fun hb5=>⟨rfl,?m5⟩,fun hb5=>⟨?s13,fun z7=>fun hz7=>ifB_iff.2 ⟨fun hb6=>⟨rfl,?m6⟩,fun hb6=>⟨?x1,⟨⟨trivial,⟨?m7,⟨?m8,trivial⟩⟩⟩,⟨?s14,⟨trivial,?m9⟩⟩⟩⟩⟩⟩⟩⟩⟩⟩⟩,fun hb4=>⟨rfl,?m10⟩⟩⟩⟩⟩⟩⟩⟩⟩⟩⟩⟩⟩⟩⟩⟩⟩
     case x0=>exact (fiveS s (keyS t) z2 b,0)
     case x1=>exact (z4.1,z4.2+1)
     all_goals try simp only [Tw.eta] at *
     case s0=>exact ⟨by decide,by simp only [cntTL]; omega⟩
     case m0=>exact .refl _
     case m1=>exact .refl _
     case m10=>exact .refl _
     all_goals have g:=(great4_no (hz1.symm.trans hb0)).2
     all_goals simp only [cntTL] at g
     all_goals simp only [decide_eq_true_eq,decide_eq_false_iff_not,Int.toNat_natCast,Int.ofNat_lt] at *
     all_goals have hkl:=key_cnt t ka fun x hx=>by cases List.mem_singleton.1 hx; omega
     all_goals have hks:(keyS t).size=(keyB t).length:=rfl
     all_goals have hsl:=strI_len (keyS t)
     case s1=>exact ⟨ka,(fit_of t (by omega)).1,by omega⟩
     case s2=>omega
     case m2 =>
      have h9:=keyB_pos t
      rw [hsl,beq_iff_eq] at hb2
      omega
     all_goals have h9:=keyB_pos t
     case s3=>exact ⟨by omega,by omega⟩
     all_goals have hpk:=pick_in a (n:=((strI (keyS t)).length:Int)) (by omega)
     all_goals rw [← hz2] at hpk
     case s4=>exact ⟨hpk.1,hpk.2⟩
     case s5=>exact ⟨hpk.1,hpk.2⟩
     case s6=>exact ⟨by omega,by omega,by omega⟩
     case s7 =>
      have emx:IntKind.i64.max=9223372036854775807:=by decide
      omega
     case m3=>exact .refl _
     case m4=>exact .refl _
     case s8=>exact ⟨fiveS_size (by omega) (by omega),Nat.zero_le _,Nat.le_refl _⟩
     all_goals have hz4:=at_all hq3.1 hb4
     case s9=>exact ⟨by omega,hb4⟩
     case s10=>omega
     case s11=>exact ⟨by omega,hb4⟩
     case s12=>omega
     all_goals have e56:z6=z5:=hz6.trans hz5.symm
     all_goals subst e56
     case m5=>simp at hb5
     case s13 =>
      have hf:=rdE_fit (s:=(z4.1.getD z4.2 Sh.str.nil).data.toList) (by rw [Array.length_toList]; exact hz4)
      rw [← hz6] at hf
      exact ⟨hf,hf⟩
     case m6 =>
      rw [hz7,sameT_self4] at hb6
      cases hb6
     case m7=>exact .refl _
     case m8=>exact subB_i (by rw [wJ _ (by omega) (by omega)]; rfl)
     case s14=>exact ⟨hq3.1,hb4,hq3.2.2⟩
     case m9=>exact (by omega:z4.1.length - (z4.2+1)<z4.1.length - z4.2)
   · cases hs
 · cases hs
end Go.Proofs.YtdeacbdpmdfgdaaDoor
