/- nat: Right; DivMod. -/
import Derived.Test.YtemhncjjiomppaaDoorChecked
import Derived.Test.YtemhncjjiomppaaDoorBase
import Derived.Deep.RegionHeld3
import Derived.Deep.DrawnRows
import Derived.StillTailTactics
import Derived.Deep.DeepCutAuto
import Derived.Deep.RegionLaw
namespace Go.Proofs.YtemhncjjiomppaaDoor
open Go.RowKit
attribute [local go_sem ↓] Go.wp_at_zero Go.wp_at_succ
def rowOf (ls:List (List Nat)) (k:Nat):List Nat:=ls.getD k []
def Qmx (w:World) (v:Value) (k:IntKind) (ls:List (List Nat)):Prop :=
 ∃ ao cap,v=.slice ao ls.length cap∧ls.length≤cap∧cap≤maxLen ∧
  ∀ i,i<ls.length→∃ ad row,ao=some ad∧w.cell? (ad.add i)=some row∧RdI w row k (rowOf ls i)
theorem Qmx.keep {w w':World} {v:Value} {k:IntKind} {ls:List (List Nat)} (h:Qmx w v k ls) (hb:Below w.heap.size w w'):Qmx w' v k ls:=by
 obtain ⟨ao,cap,h1,h2,h3,h4⟩:=h
 refine ⟨ao,cap,h1,h2,h3,fun i hi=>?_⟩
 obtain ⟨ad,row,h5,h6,h7⟩:=h4 i hi
 exact ⟨ad,row,h5,by rw [hb.cell (World.block_lt_of_cell? w _ h6)]; exact h6,h7.keep hb⟩
end Go.Proofs.YtemhncjjiomppaaDoor
namespace Go.Proofs.YtemhncjjiomppaaDoor
open Go.RowKit
attribute [local go_sem ↓] Go.wp_at_zero Go.wp_at_succ
def rgtB (l:List Nat):Bool:=l.all (fun x=>decide (x<1000000000)) && (l.getLast? != some 0)
theorem QiP (l:List Nat):rgtB l=true↔Rgt 1000000000 l:=by
 simp [rgtB,Rgt]
theorem QmQ {l:List Nat} {k:Nat} (hk:k<l.length) (h:¬ dg l k<1000000000):rgtB l=false:=by
 rw [Bool.eq_false_iff]
 intro hc
 have:=((QiP l).1 hc).1 (dg l k) (by rw [Ql3 l k hk]; exact List.getElem_mem hk)
 exact h this
theorem QmR:rgtB []=true:=rfl
theorem Qk9 {l:List Nat} (h0:0<l.length) (hx:∀ x∈l,x<1000000000):rgtB l=((dg l (l.length - 1):Int) != 0):=by
 rw [Bool.eq_iff_iff,QiP]
 simp only [bne_iff_ne,ne_eq]
 constructor
 · intro h hc
   apply h.2
   rw [List.getLast?_eq_getElem?]
   rw [dg_get? l _ (by omega)]
   congr 1; omega
 · intro h
   exact QhZ hx (.inr (by omega))
set_option maxRecDepth 100000 in
set_option maxHeartbeats 1000000 in
theorem Qg8 (v:Value) (l:List Nat) (w:World) (hv:RdI w v .u32 l) (h1:l.length≤1000000000) :
  Calls Tryd.prog 127 #[v] w fun e w'=>e=.returned (.bool (rgtB l))∧w=w':=by
 obtain ⟨ao,ac,rfl,_,hm,_,hx⟩:=hv
 have HX:=Lib.hid hx
 clear hx
 go_enter Tryd.func127,Tryd.ntmps127
 go_wp2_with fail
 go_loop [7] (fun i=>∃ kk:Nat,i=.int .i64 kk∧kk≤l.length∧(∀ x∈l.take kk,x<1000000000)) (fun i=>l.length - (intOf i).toNat)
 case atStart=>exact ⟨0,rfl,by omega,by simp⟩
 case round =>
  obtain ⟨k,rfl,hk,hxs⟩:=hrel
  have HXS:=Lib.hid hxs
  clear hxs
  by_cases hkl:k<l.length
  · obtain ⟨ad,had,hcell⟩:=HX.out k hkl
    subst had
    by_cases hlt:dg l k<1000000000
    · have hge:¬ (1000000000:Int)≤(dg l k:Int):=by omega
      go_wp2_with fail
      go_round
      case rel =>
       refine ⟨k+1,by go_num,by omega,?_⟩
       intro x hx
       rw [List.take_succ_eq_append_getElem hkl,← Ql3 l k hkl] at hx
       rcases List.mem_append.1 hx with h | h
       · exact HXS.out x h
       · simp at h; omega
      case measure=>simp [intOf]; omega
    · have hge:(1000000000:Int)≤(dg l k:Int):=by omega
      go_wp2_with fail
      go_ret
      exact ⟨by rw [QmQ hkl hlt]; rfl,rfl⟩
  · have HALL:Hid (∀ x∈l,x<1000000000):=by have:=HXS.out; rw [List.take_of_length_le (by omega)] at this; exact this
    by_cases h0:0<l.length
    · obtain ⟨ad,had,hcell⟩:=HX.out (l.length - 1) (by omega)
      subst had
      have hne:((l.length:Int)==0)=false:=by simp; exact fun h=>by simp [h] at h0
      go_wp2_with fail
      go_ret
      exact ⟨by rw [Qk9 h0 HALL.out]; rfl,rfl⟩
    · have he:l=[]:=List.eq_nil_of_length_eq_zero (by omega)
      subst he
      go_wp2_with fail
      go_ret
      exact ⟨by rw [QmR]; rfl,rfl⟩
end Go.Proofs.YtemhncjjiomppaaDoor
