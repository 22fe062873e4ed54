/- The kit's SameLimbs, SameInt. -/
import Derived.Test.YtmbmbcamecfnkaaGreatDoorZs
namespace Go.Proofs.YtmbmbcamecfnkaaGreatDoor
open Go.RowKit
set_option linter.unusedSimpArgs false
set_option linter.unusedVariables false
attribute [local go_sem ↓] Go.wp_at_zero Go.wp_at_succ
set_option maxRecDepth 100000 in
set_option maxHeartbeats 1000000 in
theorem Qig (v u:Value) (l m:List Nat) (w:World) (hv:RdI w v .u32 l) (hu:RdI w u .u32 m) (h1:l.length≤1000000000) :
  Calls Tryz.prog 155 #[v,u] w fun e w'=>e=.returned (.bool (eqB l m))∧∃ n,w'=w.drewN n:=by
 obtain ⟨ao,ac,rfl,_,_,_,hx⟩:=hv
 obtain ⟨bo,bc,rfl,_,_,_,hy⟩:=hu
 have HX:=Lib.hid hx
 have HY:=Lib.hid hy
 clear hx hy
 by_cases hlm:l.length=m.length
 · have hne:((l.length:Int) != (m.length:Int))=false:=by simp [hlm]
   have HLM:=Lib.hid hlm
   clear hlm
   go_enter Tryz.func155,Tryz.ntmps155
   go_wp2_with fail
   go_loopw [5] (fun i wr=>∃ (kk n:Nat),i=.int .i64 kk∧kk≤l.length∧l.take kk=m.take kk∧wr=w.drewN n) (fun i _=>l.length - (intOf i).toNat)
   case atStart=>exact ⟨0,0,rfl,by omega,by simp,rfl⟩
   case round =>
    obtain ⟨k,n,rfl,hk,hxs,rfl⟩:=hrel
    have HXS:=Lib.hid hxs
    clear hxs
    by_cases hkl:k<l.length
    · obtain ⟨ad,had,hcell⟩:=HX.out k hkl
      subst had
      obtain ⟨bd,hbd,hcell2⟩:=HY.out k (by have:=HLM.out; omega)
      subst hbd
      have hi0:(0:Int)≤(k:Int):=by omega
      have hi1:(k:Int)<(l.length:Int):=by omega
      have hi2:(k:Int)<(m.length:Int):=by have:=HLM.out; omega
      have hkm:k<m.length:=by omega
      by_cases hd:dg l k=dg m k
      · have hb:((dg l k:Int) != (dg m k:Int))=false:=by simp [hd]
        have HD:=Lib.hid hd
        clear hd
        go_wp2_with fail
        go_quiet (fail)
        go_wp2_with fail
        go_roundw
        case rel=>exact ⟨k+1,_,by go_num,by omega,Qjj HXS.out HD.out hkl hkm,rfl⟩
        case measure=>simp [intOf]; omega
      · have hb:((dg l k:Int) != (dg m k:Int))=true:=by simp; omega
        have HD:=Lib.hid hd
        clear hd
        go_wp2_with fail
        go_quiet (fail)
        go_wp2_with fail
        go_ret
        exact ⟨by rw [eqB_at HD.out]; rfl,_,World.drewN_drewN _ _ _⟩
    · go_wp2_with fail
      go_ret
      refine ⟨?_,_,rfl⟩
      have:=HXS.out
      rw [List.take_of_length_le (by omega),List.take_of_length_le (by have:=HLM.out; omega)] at this
      rw [this,QrS]; rfl
 · have hne:((l.length:Int) != (m.length:Int))=true:=by simp; omega
   have HLM:=Lib.hid hlm
   clear hlm
   go_enter Tryz.func155,Tryz.ntmps155
   go_wp2_with fail
   go_ret
   exact ⟨by rw [Qub HLM.out]; rfl,0,rfl⟩
set_option maxHeartbeats 1000000 in
theorem QkC (v u:Value) (na nb:Bool) (la lb:List Nat) (w:World) (hv:IV w v na la) (hu:IV w u nb lb) (h1:la.length≤100000000) (hs:(na==nb)=true) :
  Calls Tryz.prog 78 #[v,u] w fun e w'=>e=.returned (.bool ((na==nb) && eqB la lb))∧Below w.heap.size w w':=by
 obtain ⟨ao,ac,rfl⟩:=hv.sh
 obtain ⟨bo,bc,rfl⟩:=hu.sh
 have HA:=Lib.hid hv.rd
 have HC:=Lib.hid hu.rd
 clear hv hu
 go_enter Tryz.func78,Tryz.ntmps78
 go_wp2_with fail
 have hB:=Below.refl w.heap.size w
 have hbs:=hB.size
 have hga:w.heap.size≤w.heap.size:=by omega
 have hgb:w.heap.size≤w.heap.size+1:=by omega
 have hn_b_a:w.heap.size+1≠w.heap.size:=by omega
 clear hbs
 refine Qqz fun W1 hW=>?_
 have hm1:w.heap.size≤W1.heap.size:=by rw [hW]; (first | omega | (simp only [Qaa,Qac,Qab,Qad]; omega) | (simp only [Qaa,Qac,Qab,Qad]; done))
 have hB':Below w.heap.size w W1:=by rw [hW]; (repeat (first | (with_reducible assumption) | exact Below.refl _ _ | (with_reducible refine Below.drew ?_) | (with_reducible refine QaE ?_ _) | (with_reducible refine Qnd ?_ _) | ((with_reducible refine Qs1 ?_ ?_ _ _); (focus (with_reducible assumption)))))
 have hXa':Box W1 (w.heap.size) [Value.bool na,Value.slice ao la.length ac]:=by rw [hW]; (repeat (first | (with_reducible assumption) | (with_reducible refine Box.drew ?_) | (with_reducible refine Box.drewN ?_ _) | ((with_reducible refine Box.new _ _ ?_ ?_); (focus (first | (with_reducible exact rfl) | (simp only [Qaa,Qac,Qab,Qad]; done))); (focus (exact rfl))) | (with_reducible refine Box.alloc ?_ _) | ((with_reducible refine Box.put ?_ ?_ _ _ ?_); rotate_left) | ((with_reducible refine Box.set ?_ ?_ _ _); (focus (first | (with_reducible assumption) | (refine Ne.symm ?_; (with_reducible assumption))))) | (exact rfl)))
 have hXb':Box W1 (w.heap.size+1) [Value.bool nb,Value.slice bo lb.length bc]:=by rw [hW]; (repeat (first | (with_reducible assumption) | (with_reducible refine Box.drew ?_) | (with_reducible refine Box.drewN ?_ _) | ((with_reducible refine Box.new _ _ ?_ ?_); (focus (first | (with_reducible exact rfl) | (simp only [Qaa,Qac,Qab,Qad]; done))); (focus (exact rfl))) | (with_reducible refine Box.alloc ?_ _) | ((with_reducible refine Box.put ?_ ?_ _ _ ?_); rotate_left) | ((with_reducible refine Box.set ?_ ?_ _ _); (focus (first | (with_reducible assumption) | (refine Ne.symm ?_; (with_reducible assumption))))) | (exact rfl)))
 clear hW
 clear hB
 have hB:=hB'; have hXa:=hXa'; have hXb:=hXb'
 clear hB' hXa' hXb'
 have hca_0:=hXa.c0; have hca_1:=hXa.c1; have hcb_0:=hXb.c0; have hcb_1:=hXb.c1
 refine (Qig _ _ la lb _ (HA.out.keep hB) (HC.out.keep hB) (by omega)).mono ?_
 rintro e W2 ⟨rfl,n,hw⟩
 have hb:Below W1.heap.size W1 W2:=by rw [hw]; exact QaE (Below.refl _ _) n
 clear hw
 have hL:Below W1.heap.size W1 W2:=hb
 have hm2:=hL.size
 have hB':=Qi1 hB hL
 have hXa':=hXa.below hL
 have hXb':=hXb.below hL
 clear hL hb
 clear hcb_1 hcb_0 hca_1 hca_0 hXb hXa hB
 have hB:=hB'; have hXa:=hXa'; have hXb:=hXb'
 clear hB' hXa' hXb'
 have hca_0:=hXa.c0; have hca_1:=hXa.c1; have hcb_0:=hXb.c0; have hcb_1:=hXb.c1
 go_wp2_with fail
 go_ret
 exact ⟨by rw [hs]; rfl,hB⟩
set_option maxHeartbeats 1000000 in
theorem QnB (v u:Value) (na nb:Bool) (la lb:List Nat) (w:World) (hv:IV w v na la) (hu:IV w u nb lb) (h1:la.length≤100000000) (hs:(na==nb)=false) :
  Calls Tryz.prog 78 #[v,u] w fun e w'=>e=.returned (.bool ((na==nb) && eqB la lb))∧Below w.heap.size w w':=by
 obtain ⟨ao,ac,rfl⟩:=hv.sh
 obtain ⟨bo,bc,rfl⟩:=hu.sh
 have HA:=Lib.hid hv.rd
 have HC:=Lib.hid hu.rd
 clear hv hu
 go_enter Tryz.func78,Tryz.ntmps78
 go_wp2_with fail
 have hb:Below w.heap.size w ((w.alloc (Obj.cells #[Value.bool na,Value.slice ao la.length ac] 26)).alloc (Obj.cells #[Value.bool nb,Value.slice bo lb.length bc] 26)):=by (repeat (first | (with_reducible assumption) | exact Below.refl _ _ | (with_reducible refine Below.drew ?_) | (with_reducible refine QaE ?_ _) | (with_reducible refine Qnd ?_ _) | ((with_reducible refine Qs1 ?_ ?_ _ _); (focus (with_reducible assumption)))))
 go_ret
 exact ⟨by rw [hs]; rfl,hb⟩
theorem QkD (v u:Value) (na nb:Bool) (la lb:List Nat) (w:World) (hv:IV w v na la) (hu:IV w u nb lb) (h1:la.length≤100000000) :
  Calls Tryz.prog 78 #[v,u] w fun e w'=>e=.returned (.bool ((na==nb) && eqB la lb))∧Below w.heap.size w w':=by
 cases hs:(na==nb)
 · have:=QnB v u na nb la lb w hv hu h1 hs; rw [hs] at this; exact this
 · have:=QkC v u na nb la lb w hv hu h1 hs; rw [hs] at this; exact this
end Go.Proofs.YtmbmbcamecfnkaaGreatDoor
