/- The layer model: a function of data. -/
import Derived.Test.YtpjjdngoblfleaaGreatMe
namespace Go.Proofs.YtpjjdngoblfleaaGreat
open Go.RowKit
set_option linter.unusedVariables false
set_option maxRecDepth 100000
def lastTo (s:ByteArray) (c:Int):Nat→Int
 | 0=>-1
 | k+1=>if ((s.data.toList.getD k 0).toNat:Int)=c then k else lastTo s c k
theorem lastTo_hit {s:ByteArray} {c:Int} {k:Nat} (hk:0<k) (h:((s.data.toList.getD (k - 1) 0).toNat:Int)=c):lastTo s c k=(k:Int) - 1:=by
 obtain ⟨j,rfl⟩:∃ j,k=j+1:=⟨k - 1,by omega⟩
 rw [Nat.add_sub_cancel] at h
 rw [lastTo,if_pos h]
 omega
theorem lastTo_miss {s:ByteArray} {c:Int} {k:Nat} (hk:0<k) (h:¬ ((s.data.toList.getD (k - 1) 0).toNat:Int)=c):lastTo s c k=lastTo s c (k - 1):=by
 obtain ⟨j,rfl⟩:∃ j,k=j+1:=⟨k - 1,by omega⟩
 rw [Nat.add_sub_cancel] at h
 rw [lastTo,if_neg h]
 rfl
def sLastS:Spec
 | [.f (.v (.string s)),.f (.v (.int .u8 c))]=>some (some (s.size≤4611686018427387904),.nm Int (lastTo s c s.size) iV)
 | _=>none
theorem cLastS {E:Env} (hU:Up E):Contract Tryz.prog E 135 sLastS:=by
 refine contract_D [] [] Tryz.ntmps135 Tryz.func135 (by kernel_rfl) (by kernel_rfl) hU trivial trivial ?_
 intro xs p r hs hp
 unfold sLastS at hs
 split at hs
 · rename_i s c
   cases hs
   have hf:=hp _ rfl
   refine ⟨[.f (.v (.string s)),.f (.v (.int .u8 c))],[(2,.s ⟨Nat,fun k=>⟨[(0,.f (.v (.string s))),(1,.f (.v (.int .u8 c))),(5,iV ((k:Int) - 1))],[]⟩,fun k=>k≤s.size∧lastTo s c k=lastTo s c s.size,fun k=>k⟩)],.cons (.refl _) (.cons (.refl _) .nil),rfl,fun _ hsh=>?_⟩
   have h0:=hf
   refine cast_rfl (p:=∃ (x1:Nat),(True∧SubB (sV s) (sV s)∧SubB (PV.f (Lf.v (Value.int IntKind.u8 c))) (PV.f (Lf.v (Value.int IntKind.u8 c)))∧SubB (iV (IntKind.i64.wrap ((↑s.size:Int) - (1:Int)))) (iV ((↑x1:Int) - (1:Int)))∧True)∧(x1≤s.size∧lastTo s c x1=lastTo s c s.size)∧True∧∀ (z2:Nat),z2≤s.size∧lastTo s c z2=lastTo s c s.size→True→ifB (decide ((↑z2:Int) - (1:Int) ≥ (0:Int))) (((0:Int)≤(↑z2:Int) - (1:Int)∧(↑z2:Int) - (1:Int)<(↑s.size:Int))∧ifB ((↑(s.data.toList.getD ((↑z2:Int) - (1:Int)).toNat (0:UInt8)).toNat:Int)==c) (true=true∧Sub (iV ((↑z2:Int) - (1:Int))) (iV (lastTo s c s.size))) (∃ (x3:Nat),(True∧SubB (sV s) (sV s)∧SubB (PV.f (Lf.v (Value.int IntKind.u8 c))) (PV.f (Lf.v (Value.int IntKind.u8 c)))∧SubB (iV (IntKind.i64.wrap ((↑z2:Int) - (1:Int) - (1:Int)))) (iV ((↑x3:Int) - (1:Int)))∧True)∧(x3≤s.size∧lastTo s c x3=lastTo s c s.size)∧True∧x3.succ.le z2)) (true=true∧Sub (iV (-1:Int)) (iV (lastTo s c s.size)))) ?kr ?_
   case kr=>kernel_rfl
   refine ⟨?x0,⟨⟨trivial,⟨.refl _,⟨.refl _,⟨?m0,trivial⟩⟩⟩⟩,⟨?s0,⟨trivial,fun z2=>fun hq0=>fun _=>ifB_iff.2 ⟨fun hb1=>⟨?s1,ifB_iff.2 ⟨fun hb2=>⟨rfl,?m1⟩,fun hb2=>⟨?x1,⟨⟨trivial,⟨.refl _,⟨.refl _,⟨?m2,trivial⟩⟩⟩⟩,⟨?s2,⟨trivial,?m3⟩⟩⟩⟩⟩⟩,fun hb1=>⟨rfl,?m4⟩⟩⟩⟩⟩⟩
   case x0=>exact s.size
   case x1=>exact z2 - 1
   all_goals try simp only [decide_eq_true_eq,decide_eq_false_iff_not,beq_iff_eq,beq_eq_false_iff_ne,ne_eq] at *
   case m0=>exact subB_i (by rw [wJ _ (by omega) (by omega)])
   case s0=>exact ⟨Nat.le_refl _,trivial⟩
   case m4 =>
    obtain rfl:z2=0:=by omega
    rw [← hq0.2]; exact .refl _
   all_goals have hk:0<z2:=by omega
   all_goals have e:((z2:Int) - 1).toNat=z2 - 1:=by omega
   all_goals try rw [e] at hb2
   case s1=>omega
   case m1=>rw [← hq0.2,lastTo_hit hk hb2]; exact .refl _
   case m2=>exact subB_i (by rw [wJ _ (by omega) (by omega)]; omega)
   case s2=>exact ⟨by omega,by rw [← hq0.2,lastTo_miss hk hb2]⟩
   case m3=>exact (by omega:z2 - 1<z2)
 · cases hs
def sLastB:Spec
 | [.f (.v (.string s)),.f (.v (.int .u8 c))]=>some (some (s.size≤4611686018427387904),.nm Int (lastTo s c s.size) iV)
 | _=>none
theorem cLastB {E:Env} (hU:Up E):Contract Tryz.prog E 121 sLastB:=by
 refine contract_D [(135,sLastS)] [] Tryz.ntmps121 Tryz.func121 (by kernel_rfl) (by kernel_rfl) hU ⟨cLastS hU,trivial⟩ trivial ?_
 intro xs p r hs hp
 unfold sLastB at hs
 split at hs
 · rename_i s c
   cases hs
   have hf:=hp _ rfl
   refine ⟨[.f (.v (.string s)),.f (.v (.int .u8 c))],[],.cons (.refl _) (.cons (.refl _) .nil),rfl,fun _ hsh=>?_⟩
   have h0:=hf
   refine cast_rfl (p:=s.size≤4611686018427387904∧∀ (z1:Int),z1=lastTo s c s.size→true=true∧Sub (iV z1) (iV (lastTo s c s.size))) ?kr ?_
   case kr=>kernel_rfl
   refine ⟨?s0,fun z1=>fun hz1=>⟨rfl,?m0⟩⟩
   case s0=>exact hf
   case m0=>rw [hz1]; exact .refl _
 · cases hs
theorem lastTo_rng (s:ByteArray) (c:Int):∀ k:Nat,-1≤lastTo s c k∧lastTo s c k<k
 | 0=>⟨by simp [lastTo],by simp [lastTo]⟩
 | k+1=>by
  have h:=lastTo_rng s c k
  unfold lastTo
  split <;> omega
def atS (s:ByteArray) (i:Int):Int:=((s.data.toList.getD i.toNat 0).toNat:Int)
def cutS (s:ByteArray) (i:Int):ByteArray:=s.extract 0 i.toNat
def fieldM (D:List Dat) (s:ByteArray):(Nat × Nat) × Int × Bool :=
 if lastTo s 46 s.size<0∨lastTo s 46 s.size+2≠s.size∨atS s (lastTo s 46 s.size+1)<48∨57<atS s (lastTo s 46 s.size+1) then ((0,0),0,false)
 else ((conM D (cutS s (lastTo s 46 s.size)) 0).getD (0,0),atS s (lastTo s 46 s.size+1) - 48,(conM D (cutS s (lastTo s 46 s.size)) 0).isSome && decide (atS s (lastTo s 46 s.size+1) - 48<(fldsM D ((conM D (cutS s (lastTo s 46 s.size)) 0).getD (0,0))).length))
theorem fieldM_no {D:List Dat} {s:ByteArray} (h:lastTo s 46 s.size<0∨lastTo s 46 s.size+2≠s.size∨atS s (lastTo s 46 s.size+1)<48∨57<atS s (lastTo s 46 s.size+1)):fieldM D s=((0,0),0,false):=if_pos h
theorem fieldM_is {D:List Dat} {s:ByteArray} (h1:¬ lastTo s 46 s.size<0) (h2:lastTo s 46 s.size+2=s.size) (h3:¬ atS s (lastTo s 46 s.size+1)<48) (h4:¬ 57<atS s (lastTo s 46 s.size+1)) :
  fieldM D s=((conM D (cutS s (lastTo s 46 s.size)) 0).getD (0,0),atS s (lastTo s 46 s.size+1) - 48,(conM D (cutS s (lastTo s 46 s.size)) 0).isSome && decide (atS s (lastTo s 46 s.size+1) - 48<(fldsM D ((conM D (cutS s (lastTo s 46 s.size)) 0).getD (0,0))).length)) :=
 if_neg (by
  rintro (h | h | h | h)
  · exact h1 h
  · exact h h2
  · exact h3 h
  · exact h4 h)
def sField:Spec
 | [.f (.dt .dat D),.f (.v (.string s))]=>some (some (s.size≤4611686018427387904),.nm ((Nat × Nat) × Int × Bool) (fieldM D s) fun r=>.tup [plP r.1,iV r.2.1,bV r.2.2])
 | _=>none
theorem cField {E:Env} (hU:Up E):Contract Tryz.prog E 87 sField:=by
 refine contract_D [(121,sLastB),(66,sConM),(68,sFlds)] [] Tryz.ntmps87 Tryz.func87 (by kernel_rfl) (by kernel_rfl) hU ⟨cLastB hU,cConM hU,cFlds hU,trivial⟩ trivial ?_
 intro xs p r hs hp
 unfold sField at hs
 split at hs
 · rename_i D s
   cases hs
   have hf:=hp _ rfl
   refine ⟨[.f (.dt .dat D),.f (.v (.string s))],[],.cons (.refl _) (.cons (.refl _) .nil),rfl,fun _ hsh=>?_⟩
   have h0:=hf
   refine cast_rfl (p:=s.size≤4611686018427387904∧∀ (z1:Int),z1=lastTo s (46:Int) s.size→ifB (decide (z1<(0:Int))) (true=true∧Sub (PV.tup [PV.agg [iV 0,iV 0],iV 0,bV false]) (PV.tup [PV.agg [iV (↑(fieldM D s).fst.fst:Int),iV (↑(fieldM D s).fst.snd:Int)],iV ((fieldM D s).snd.fst),bV ((fieldM D s).snd.snd)])) (ifB (IntKind.i64.wrap (z1+(2:Int)) != (↑s.size:Int)) (true=true∧Sub (PV.tup [PV.agg [iV 0,iV 0],iV 0,bV false]) (PV.tup [PV.agg [iV (↑(fieldM D s).fst.fst:Int),iV (↑(fieldM D s).fst.snd:Int)],iV ((fieldM D s).snd.fst),bV ((fieldM D s).snd.snd)])) (((0:Int)≤IntKind.i64.wrap (z1+(1:Int))∧IntKind.i64.wrap (z1+(1:Int))<(↑s.size:Int))∧ifB (decide ((↑(s.data.toList.getD (IntKind.i64.wrap (z1+(1:Int))).toNat (0:UInt8)).toNat:Int)<(48:Int))) (true=true∧Sub (PV.tup [PV.agg [iV 0,iV 0],iV 0,bV false]) (PV.tup [PV.agg [iV (↑(fieldM D s).fst.fst:Int),iV (↑(fieldM D s).fst.snd:Int)],iV ((fieldM D s).snd.fst),bV ((fieldM D s).snd.snd)])) (((0:Int)≤IntKind.i64.wrap (z1+(1:Int))∧IntKind.i64.wrap (z1+(1:Int))<(↑s.size:Int))∧ifB (decide ((↑(s.data.toList.getD (IntKind.i64.wrap (z1+(1:Int))).toNat (0:UInt8)).toNat:Int) > (57:Int))) (true=true∧Sub (PV.tup [PV.agg [iV 0,iV 0],iV 0,bV false]) (PV.tup [PV.agg [iV (↑(fieldM D s).fst.fst:Int),iV (↑(fieldM D s).fst.snd:Int)],iV ((fieldM D s).snd.fst),bV ((fieldM D s).snd.snd)])) (((0:Int)≤(0:Int)∧(0:Int)≤z1∧z1≤(↑s.size:Int))∧∀ (z2:Option (Nat × Nat)),z2=conM D (s.extract (Int.toNat (0:Int)) z1.toNat) 0→((0:Int)≤IntKind.i64.wrap (z1+(1:Int))∧IntKind.i64.wrap (z1+(1:Int))<(↑s.size:Int))∧ifB z2.isSome (((0:Int)≤(↑(z2.getD (0,0)).fst:Int)∧(0:Int)≤(↑(z2.getD (0,0)).snd:Int)∧(↑(z2.getD (0,0)).fst:Int)<(↑D.length:Int)∧(↑(z2.getD (0,0)).snd:Int)<(↑(D.getD (↑(z2.getD (0,0)).fst:Int).toNat Sh.dat.nil).cons.length:Int))∧true=true∧Sub (PV.tup [PV.agg [iV (↑(z2.getD (0,0)).fst:Int),iV (↑(z2.getD (0,0)).snd:Int)],iV (IntKind.i64.wrap (IntKind.u8.wrap ((↑(s.data.toList.getD (IntKind.i64.wrap (z1+(1:Int))).toNat (0:UInt8)).toNat:Int) - (48:Int)))),bV (decide (IntKind.i64.wrap (IntKind.u8.wrap ((↑(s.data.toList.getD (IntKind.i64.wrap (z1+(1:Int))).toNat (0:UInt8)).toNat:Int) - (48:Int)))<(↑(fldsM D ((↑(z2.getD (0,0)).fst:Int).toNat,(↑(z2.getD (0,0)).snd:Int).toNat)).length:Int)))]) (PV.tup [PV.agg [iV (↑(fieldM D s).fst.fst:Int),iV (↑(fieldM D s).fst.snd:Int)],iV ((fieldM D s).snd.fst),bV ((fieldM D s).snd.snd)])) (true=true∧Sub (PV.tup [PV.agg [iV (↑(z2.getD (0,0)).fst:Int),iV (↑(z2.getD (0,0)).snd:Int)],iV (IntKind.i64.wrap (IntKind.u8.wrap ((↑(s.data.toList.getD (IntKind.i64.wrap (z1+(1:Int))).toNat (0:UInt8)).toNat:Int) - (48:Int)))),bV false]) (PV.tup [PV.agg [iV (↑(fieldM D s).fst.fst:Int),iV (↑(fieldM D s).fst.snd:Int)],iV ((fieldM D s).snd.fst),bV ((fieldM D s).snd.snd)]))))))) ?kr ?_
   case kr=>kernel_rfl
   refine ⟨?s0,fun z1=>fun hz1=>ifB_iff.2 ⟨fun hb0=>⟨rfl,?m0⟩,fun hb0=>ifB_iff.2 ⟨fun hb1=>⟨rfl,?m1⟩,fun hb1=>⟨?s1,ifB_iff.2 ⟨fun hb2=>⟨rfl,?m2⟩,fun hb2=>⟨?s2,ifB_iff.2 ⟨fun hb3=>⟨rfl,?m3⟩,fun hb3=>⟨?s3,fun z2=>fun hz2=>⟨?s4,ifB_iff.2 ⟨fun hb4=>⟨?s5,⟨rfl,?m4⟩⟩,fun hb4=>⟨rfl,?m5⟩⟩⟩⟩⟩⟩⟩⟩⟩⟩⟩
   case s0=>exact hf
   all_goals have hr:=lastTo_rng s 46 s.size
   all_goals rw [← hz1] at hr
   all_goals try rw [wJ (z1+2) (by omega) (by omega)] at *
   all_goals try rw [wJ (z1+1) (by omega) (by omega)] at *
   all_goals try simp only [decide_eq_true_eq,decide_eq_false_iff_not,bne_iff_ne,bne_eq_false_iff_eq,ne_eq,gt_iff_lt] at *
   case m0=>rw [fieldM_no (.inl (by rw [← hz1]; exact hb0))]; exact .refl _
   case m1=>rw [fieldM_no (.inr (.inl (by rw [← hz1]; exact hb1)))]; exact .refl _
   case s1=>omega
   case m2=>rw [fieldM_no (.inr (.inr (.inl (by rw [← hz1]; exact hb2))))]; exact .refl _
   case s2=>omega
   case m3=>rw [fieldM_no (.inr (.inr (.inr (by rw [← hz1]; exact hb3))))]; exact .refl _
   case s3=>omega
   case s4=>omega
   all_goals have hc:cutS s (lastTo s 46 s.size)=s.extract (Int.toNat 0) z1.toNat:=by rw [← hz1]; rfl
   all_goals rw [← hc] at hz2
   all_goals have hA:atS s (z1+1)=((s.data.toList.getD (z1+1).toNat (0:UInt8)).toNat:Int):=rfl
   all_goals rw [← hA] at hb2 hb3
   all_goals have hi:=fieldM_is (D:=D) (s:=s) (by rw [← hz1]; exact hb0) (by rw [← hz1]; exact hb1) (by rw [← hz1]; exact hb2) (by rw [← hz1]; exact hb3)
   all_goals rw [← hz2,← hz1] at hi
   case s5 =>
    cases z2 with
    | none=>cases hb4
    | some p =>
     obtain ⟨-,h1,h2⟩:=conM_in hz2.symm
     simp only [Nat.sub_zero] at h1 h2
     simp only [Option.getD_some,Int.toNat_natCast]
     exact ⟨by omega,by omega,by omega,by omega⟩
   all_goals rw [← hA,w8 _ (by omega) (by omega),wJ _ (by omega) (by omega)]
   all_goals rw [hi,hb4]
   case m4=>exact .refl _
   case m5=>exact .refl _
 · cases hs
end Go.Proofs.YtpjjdngoblfleaaGreat
