/- The layer nat, as contracts of the pure run. -/
import Derived.Test.YtpjjdngoblfleaaGreatPl
namespace Go.Proofs.YtpjjdngoblfleaaGreat
open Go.RowKit
set_option linter.unusedVariables false
set_option maxRecDepth 100000
def sCmpN:Spec
 | [.f x,.f y]=>match limL x,limL y with
  | some (l,k),some (m,j)=>some (some (k≤100000000∧j≤100000000),.one (.f (.v (.int .i64 (cmpI (vB l:Nat) (vB m:Nat))))))
  | _,_=>none
 | _=>none
theorem sizeL_len:∀ l:List (List Nat × Nat),l.length≤sizeL l
 | []=>Nat.le_refl _
 | x::l=>by have:=sizeL_len l; simp only [List.length_cons,sizeL]; omega
section
variable {E : Env}
theorem cTrimN:Contract Tryz.prog E 137 sTrimL:=by
 intro xs p r hs hp w H vs hf hE hvs
 unfold sTrimL at hs
 split at hs
 · rename_i x
   split at hs
   · rename_i l k hx
     cases hs
     have hk:=hp _ rfl
     obtain ⟨v,rfl,hv⟩:=one_arg hvs
     obtain ⟨h1,h2,h3⟩:=limL_rd hx hv.rd hf
     refine (natTrim_any v l w h1 (by omega) h3).mono ?_
     rintro e w' ⟨u,rfl,ho,hbl⟩
     exact ⟨_,u,rfl,ext_all hf hbl,own_lP ho (zb_vB h3 h2)⟩
   · cases hs
 · cases hs
theorem cAddN:Contract Tryz.prog E 131 sAddL:=by
 intro xs p r hs hp w H vs hf hE hvs
 unfold sAddL at hs
 split at hs
 · rename_i R
   split at hs
   · rename_i l hl
     cases hs
     have hk:=hp _ rfl
     obtain ⟨v,rfl,hv⟩:=one_arg hvs
     obtain ⟨h1,h2,h3⟩:=rowsL_rd hl hv.rd hf
     have hw2:=sizeL_wgt h2
     have hll:=sizeL_len l
     refine (natAdd_any v _ w h1 (by omega) (fun a ha x hx=>?_) (by rw [List.length_map]; omega)).mono ?_
     · obtain ⟨y,hy,rfl⟩:=List.mem_map.1 ha
       exact h3 y hy x hx
     · rintro e w' ⟨u,rfl,ho,hbl⟩
       refine ⟨_,u,rfl,ext_all hf hbl,?_⟩
       unfold sumV at ho
       rw [sumL_eq] at ho
       have:=sumL_zb l 0 0 (by unfold ZB; decide) fun x hx=>zb_vB (h3 x hx) (h2 x hx)
       rw [Nat.zero_add] at this
       exact own_lP ho this
   · cases hs
 · cases hs
theorem cMulN:Contract Tryz.prog E 134 sMulL:=by
 intro xs p r hs hp w H vs hf hE hvs
 unfold sMulL at hs
 split at hs
 · rename_i R
   split at hs
   · rename_i l hl
     cases hs
     have hk:=hp _ rfl
     obtain ⟨v,rfl,hv⟩:=one_arg hvs
     obtain ⟨h1,h2,h3⟩:=rowsL_rd hl hv.rd hf
     have hw2:=sizeL_wgt h2
     have hll:=sizeL_len l
     refine (natMul_any v _ w h1 (by omega) (fun a ha x hx=>?_) (by rw [List.length_map]; omega)).mono ?_
     · obtain ⟨y,hy,rfl⟩:=List.mem_map.1 ha
       exact h3 y hy x hx
     · rintro e w' ⟨u,rfl,ho,hbl⟩
       refine ⟨_,u,rfl,ext_all hf hbl,?_⟩
       unfold prodV at ho
       rw [prodL_eq] at ho
       have:=prodL_zb l 1 1 (by unfold ZB; decide) fun x hx=>zb_vB (h3 x hx) (h2 x hx)
       rw [Nat.add_comm] at this
       exact own_lP ho this
   · cases hs
 · cases hs
theorem cCmpN:Contract Tryz.prog E 136 sCmpN:=by
 intro xs p r hs hp w H vs hf hE hvs
 unfold sCmpN at hs
 split at hs
 · rename_i x y
   split at hs
   · rename_i l k m j hx hy
     cases hs
     obtain ⟨hk,hj⟩:=hp _ rfl
     obtain ⟨u,v,rfl,hu,hv⟩:=two_args hvs
     obtain ⟨h1,h2,h3⟩:=limL_rd hx hu.rd hf
     obtain ⟨h4,h5,h6⟩:=limL_rd hy hv.rd hf
     refine (natCmp_any u v l m w h1 h4 (by omega) h3 (by omega) h6).mono ?_
     rintro e w' ⟨rfl,hbl⟩
     exact ⟨_,_,rfl,ext_all hf hbl,.f (.v _ rfl)⟩
   · cases hs
 · cases hs
theorem cSubN:Contract Tryz.prog E 132 sSubL:=by
 intro xs p r hs hp w H vs hf hE hvs
 unfold sSubL at hs
 split at hs
 · rename_i x y
   split at hs
   · rename_i l k m j hx hy
     cases hs
     obtain ⟨hk,hj⟩:=hp _ rfl
     obtain ⟨u,v,rfl,hu,hv⟩:=two_args hvs
     obtain ⟨h1,h2,h3⟩:=limL_rd hx hu.rd hf
     obtain ⟨h4,h5,h6⟩:=limL_rd hy hv.rd hf
     refine (natSub_any u v l m w h1 h4 (by omega) h3 (by omega) h6).mono ?_
     rintro e w' ⟨u',rfl,ho,hbl⟩
     refine ⟨_,_,rfl,ext_all hf hbl,.tup rfl fun i v x hv hx=>?_⟩
     match i with
     | 0=>simp at hv hx; subst hv hx; exact own_lP ho ((zb_vB h3 h2).leN (Nat.sub_le _ _))
     | 1=>simp at hv hx; subst hv hx; exact .f (.v _ rfl)
     | i+2=>simp at hv
   · cases hs
 · cases hs
end
end Go.Proofs.YtpjjdngoblfleaaGreat
