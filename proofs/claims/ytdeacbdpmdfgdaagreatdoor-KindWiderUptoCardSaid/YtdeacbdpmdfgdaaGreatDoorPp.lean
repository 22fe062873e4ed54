/- The layer num by the pure run: small, DivMod. -/
import Derived.Test.YtdeacbdpmdfgdaaGreatDoorPo
namespace Go.Proofs.YtdeacbdpmdfgdaaGreatDoor
open Go.RowKit
set_option linter.unusedVariables false
set_option maxRecDepth 100000
def QmO:Spec
 | [.f (.v (.int .u64 N)),.f (.v (.bool b))]=>some (some (0≤N∧N<18446744073709551616),.nm Int (zOf b N.toNat) fun z=>nP z 3)
 | _=>none
theorem wU64 (n:Int) (h0:0≤n) (h1:n<18446744073709551616):IntKind.u64.wrap n=n:=by simp [IntKind.wrap,IntKind.bits,IntKind.signed]; omega
section
variable {E : Env} (hU : Up E)
include hU
theorem cSmall:Contract Tryz.prog E 53 QmO:=by
 refine QaJ [(66,Qro Qq2)] Tryz.ntmps53 Tryz.func53 (by kernel_rfl) (by kernel_rfl) hU ⟨(cMade hU).lent,trivial⟩ ?_
 intro xs p r hs hp
 unfold QmO at hs
 split at hs
 · rename_i N b
   cases hs
   obtain ⟨h0,h1⟩:=hp _ rfl
   refine ⟨[.f (.v (.int .u64 N)),.f (.v (.bool b))],[(2,.s ⟨List Nat × Nat,fun x=>⟨[(0,.f (.v (.int .u64 (x.2:Nat)))),(1,.f (.v (.bool b))),(4,.bp 0 0),(5,.tl 1 (.is .u32 (iN x.1)))],[.cells [.f (.v (.slice none 0 0)),.f (.v (.bool false))],.tail 101 1]⟩,
    fun x=>N.toNat=val 1000000000 x.1+1000000000 ^ x.1.length * x.2∧(∀ y∈x.1,y<1000000000)∧x.1.length≤64∧x.2<18446744073709551616∧(0<x.2→1000000000 ^ x.1.length≤N.toNat),fun x=>x.2⟩)],.cons (.refl _) (.cons (.refl _) .nil),rfl,fun hgx hg=>?_⟩
   refine Qab (p:=∃ (x1:List Nat × Nat),(((SubB (PV.f (Lf.v (Value.slice none 0 0))) (PV.f (Lf.v (Value.slice none 0 0)))∧SubB (PV.f (Lf.v (Value.bool false))) (PV.f (Lf.v (Value.bool false)))∧True)∧True)∧SubB (PV.f (Lf.v (Value.int IntKind.u64 N))) (PV.f (Lf.v (Value.int IntKind.u64 (↑x1.snd:Int))))∧SubB (PV.f (Lf.v (Value.bool b))) (PV.f (Lf.v (Value.bool b)))∧SubB (PV.bp 0 0) (PV.bp 0 0)∧Qco (PV.tl 1 (Lf.is IntKind.u32 (iN x1.fst)))∧True)∧(N.toNat=val 1000000000 x1.fst+1000000000 ^ x1.fst.length * x1.snd∧(∀ (y:Nat),y∈x1.fst→y<1000000000)∧x1.fst.length≤64∧x1.snd<18446744073709551616∧(0<x1.snd→1000000000 ^ x1.fst.length≤N.toNat))∧True∧∀ (z2:List Nat × Nat),N.toNat=val 1000000000 z2.fst+1000000000 ^ z2.fst.length * z2.snd∧(∀ (y:Nat),y∈z2.fst→y<1000000000)∧z2.fst.length≤64∧z2.snd<18446744073709551616∧(0<z2.snd→1000000000 ^ z2.fst.length≤N.toNat)→True→ifB (decide ((↑z2.snd:Int) > (0:Int))) (((iN z2.fst).length+1≤9223372036854775807∧((iN z2.fst).length+1) * 4≤140737488355328)∧∃ (x3:List Nat × Nat),(((SubB (PV.f (Lf.v (Value.slice none 0 0))) (PV.f (Lf.v (Value.slice none 0 0)))∧SubB (PV.f (Lf.v (Value.bool false))) (PV.f (Lf.v (Value.bool false)))∧True)∧True)∧SubB (PV.f (Lf.v (Value.int IntKind.u64 (IntKind.u64.wrap ((↑z2.snd:Int).tdiv (1000000000:Int)))))) (PV.f (Lf.v (Value.int IntKind.u64 (↑x3.snd:Int))))∧SubB (PV.f (Lf.v (Value.bool b))) (PV.f (Lf.v (Value.bool b)))∧SubB (PV.bp 0 0) (PV.bp 0 0)∧SubB (PV.tl 1 (Lf.is IntKind.u32 (iN z2.fst++[IntKind.u32.wrap ((↑z2.snd:Int).tmod (1000000000:Int))]))) (PV.tl 1 (Lf.is IntKind.u32 (iN x3.fst)))∧True)∧(N.toNat=val 1000000000 x3.fst+1000000000 ^ x3.fst.length * x3.snd∧(∀ (y:Nat),y∈x3.fst→y<1000000000)∧x3.fst.length≤64∧x3.snd<18446744073709551616∧(0<x3.snd→1000000000 ^ x3.fst.length≤N.toNat))∧True∧x3.snd.succ.le z2.snd) ((((∀ (x:Int),x∈iN z2.fst→(0:Int)≤x∧x<(4294967296:Int))∧True∧True)∧(iN z2.fst).length≤100000000)∧∀ (z3:Int),z3=zV b (List.map Int.toNat (iN z2.fst))→true=true∧Sub (PV.agg [PV.f (Lf.zd z3 ((iN z2.fst).length+1)),PV.f (Lf.zn z3)]) (PV.agg [PV.f (Lf.zd (zOf b N.toNat) 3),PV.f (Lf.zn (zOf b N.toNat))]))) (by kernel_rfl) ?_
   refine ⟨?x0,⟨?s0,⟨?s1,⟨trivial,fun z2=>fun hq0=>fun _=>Qaa.2 ⟨fun hb1=>⟨?s2,⟨?x1,⟨⟨⟨⟨.refl _,⟨.refl _,trivial⟩⟩,trivial⟩,⟨?m0,⟨.refl _,⟨.refl _,⟨?m1,trivial⟩⟩⟩⟩⟩,⟨?s3,⟨trivial,?m2⟩⟩⟩⟩⟩,fun hb1=>⟨?s4,fun z3=>fun hz3=>⟨rfl,?m3⟩⟩⟩⟩⟩⟩⟩
   case x0=>exact ([],N.toNat)
   case x1=>exact (z2.1++[z2.2 % 1000000000],z2.2 / 1000000000)
   case s0=>exact ⟨⟨⟨.refl _,.refl _,trivial⟩,trivial⟩,Qkc (by show N=(N.toNat:Int); omega),.refl _,.refl _,rfl,trivial⟩
   case s1=>exact ⟨by simp [val],by simp,by simp,by omega,fun h=>by simp at h ⊢; omega⟩
   all_goals obtain ⟨q1,q2,q3,q4,q5⟩:=hq0
   case s2=>rw [Qqk]; exact ⟨by omega,by omega⟩
   case m0 =>
    refine Qkc ?_
    rw [show ((z2.2:Nat):Int).tdiv 1000000000=((z2.2 / 1000000000:Nat):Int) from rfl]
    exact wU64 _ (by omega) (by omega)
   case m1 =>
    refine QqP ?_
    rw [show ((z2.2:Nat):Int).tmod 1000000000=((z2.2 % 1000000000:Nat):Int) from rfl,wU _ (by omega) (by omega)]
    simp [iN]
   case s3 =>
    have h1:=of_decide_eq_true hb1
    have h2:=q5 (by omega)
    have h3:z2.1.length≤2:=by
     refine Decidable.byContradiction fun hc=>?_
     have:=Nat.pow_le_pow_right (n:=1000000000) (by omega) (show 3≤z2.1.length by omega)
     omega
    have h4:z2.2=z2.2 % 1000000000+1000000000 * (z2.2 / 1000000000):=by omega
    have h5:N.toNat=val 1000000000 (z2.1++[z2.2 % 1000000000])+1000000000 ^ (z2.1++[z2.2 % 1000000000]).length * (z2.2 / 1000000000):=by
     rw [Qf5,List.length_append,List.length_singleton,Nat.pow_succ,q1]
     conv=>lhs; rw [h4]
     simp only [val,Nat.mul_zero,Nat.add_zero]
     rw [Nat.mul_add,Nat.mul_assoc]
     omega
    refine ⟨h5,fun y hy=>?_,by simp; omega,by show z2.2 / 1000000000<_; omega,fun h6=>?_⟩
    · rcases List.mem_append.1 hy with hy | hy
      · exact q2 y hy
      · simp at hy; omega
    · have h7:1000000000 ^ (z2.1++[z2.2 % 1000000000]).length * 1≤1000000000 ^ (z2.1++[z2.2 % 1000000000]).length * (z2.2 / 1000000000):=Nat.mul_le_mul_left _ h6
      show 1000000000 ^ (z2.1++[z2.2 % 1000000000]).length≤_
      omega
   case m2=>have h1:=of_decide_eq_true hb1; show z2.2 / 1000000000+1≤z2.2; omega
   case s4 =>
    refine ⟨⟨fun x hx=>?_,trivial,trivial⟩,by rw [Qqk]; omega⟩
    obtain ⟨y,hy,rfl⟩:=List.mem_map.1 hx
    have:=q2 y hy
    have e:Int.ofNat y=(y:Int):=rfl
    exact ⟨by omega,by omega⟩
   case m3 =>
    have h1:=of_decide_eq_false hb1
    have h2:z2.2=0:=by omega
    rw [h2,Nat.mul_zero,Nat.add_zero] at q1
    have h3:z3=zOf b N.toNat:=by rw [hz3,show List.map Int.toNat (iN z2.1)=z2.1 from Qpb z2.1,q1]; rfl
    subst h3
    exact Qri (by unfold ZB; rw [Qmh]; omega)
 · cases hs
end
end Go.Proofs.YtdeacbdpmdfgdaaGreatDoor
