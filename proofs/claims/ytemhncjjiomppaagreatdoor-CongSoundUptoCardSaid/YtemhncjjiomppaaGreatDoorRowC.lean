/- Numbers that came in: a row of ints; six arguments opened. -/
import Derived.Test.YtemhncjjiomppaaGreatDoorRowJ
import Derived.Carry
set_option linter.unusedSimpArgs false
namespace Go.Proofs.YtemhncjjiomppaaGreatDoor
open Go.ChangeShapes Go.WideShapes Go.ChangeAt Go.RowKit Go.Deep
set_option linter.unusedVariables false
set_option maxRecDepth 100000
section
variable {H : Type} {enc : TypeId × Value → H} {W : World}
theorem Qq4:Tryz.prog.cellsOf 3=1:=by kernel_rfl
theorem QuT {base:Nat} {v:Value} {d:DataW H} {p:List MemPlace} (hv:Value.okWide Tryz.prog W .any base 43 v) (h:DataW.Trod enc Tryz.prog W 0 (fun _=>true) true 43 v d p):∃ l,PR (H0 W) B0 v (.f (.is .i64 l))∧l.length+1≤Rows.uptoBulk d:=by
 obtain ⟨a0,len0,cap0,rfl⟩:=okWide_slice Tryz.underlying43 hv
 obtain ⟨fuel,hf⟩:=h
 have lits_bulk:∀ (k:IntKind) (l:List Int),Rows.uptoBulkAll (lits (H:=H) k l)=l.length:=by
  intro k l
  induction l with
  | nil=>rfl
  | cons z l ih =>
   show 1+Rows.uptoBulkAll (lits (H:=H) k l)=l.length+1
   omega
 rcases open_ints Tryz.underlying43 Tryz.underlying3 Qq4 hf with ⟨hcs,hx⟩ | ⟨a,len,cap,zs,hcs,_,hl,hm,hz,hx,hcell,hwz⟩
 · have hx1:d=.nil:=by cases hx; rfl
   have hcs':Value.slice a0 len0 cap0=.slice none 0 0:=by simpa [Value.cells] using hcs
   rw [hcs',hx1]
   refine ⟨[],.f (.slf (fun _=>rfl) (f:=.is .i64 []) (k:=1) (n:=0) (get:=fun i=>[.v (.int .i64 (([]:List Int).getD i 0))]) rfl trivial (Nat.le_refl _) (by unfold maxLen; omega) (fun _=>rfl) 0 0 (fun _ _=>undef) (fun h=>by omega) (fun i h=>by omega) (fun i h=>by omega) (fun i h=>by omega)),by simp [Rows.uptoBulk]⟩
 simp only [if_true] at hz
 have hx1:d=.slice (lits .i64 (zs.take len)) (lits .i64 (zs.drop len)):=by cases hx; rfl
 have hcs':Value.slice a0 len0 cap0=.slice (some a) len cap:=by simpa [Value.cells] using hcs
 rw [hcs',hx1]
 have hlen:(zs.take len).length=len:=by rw [List.length_take]; omega
 have hat:∀ i,i<len→(zs.take len).getD i 0=zs.getD i 0:=fun i hi=>by
  simp only [List.getD_eq_getElem?_getD,List.getElem?_take,if_pos hi]
 have key:∃ b o,0<len→a=⟨b,o,none⟩:=by
  by_cases h0:0<len
  · have h4:=hcell 0 (by omega)
    obtain ⟨b,o,sp⟩:=a
    refine ⟨b,o,fun _=>?_⟩
    cases sp with
    | none=>rfl
    | some sp =>
     exfalso
     unfold Addr.add World.cell? at h4
     simp at h4
     split at h4 <;> cases h4
  · exact ⟨0,0,fun h=>absurd h h0⟩
 obtain ⟨b,o,key⟩:=key
 obtain ⟨l,hl'⟩:∃ l,l=zs.take len:=⟨_,rfl⟩
 rw [← hl'] at hlen hat
 refine ⟨l,.f (.slf (fun _=>rfl) (f:=.is .i64 l) (k:=1) (n:=len) (get:=fun i=>[.v (.int .i64 (l.getD i 0))]) (by rw [← hlen]; rfl) trivial hl hm (fun h=>by cases h) b o (fun i _=>.int .i64 (zs.getD i 0)) (fun h=>by rw [key h]) (fun i hi j hj=>?_) (fun i hi=>rfl) (fun i hi j x hx=>?_)),?_⟩
 · have h4:=hcell i (by omega)
   have hj0:j=0:=by omega
   subst hj0
   rw [key (by omega)] at h4
   show W.cell? ⟨b,o+i * 1+0,none⟩=_
   rw [← h4]
   unfold Addr.add
   by_cases h0:i=0
   · subst h0; simp
   · rw [if_neg h0]; simp
 · match j,hx with
   | 0,hx =>
    simp at hx; subst hx
    have:=hat i hi
    rw [List.getD_eq_getElem?_getD] at this
    rw [this]
    exact .v _ rfl
   | j+1,hx=>simp at hx
 · show l.length+1≤Rows.uptoBulkAll (lits .i64 (zs.take len))+Rows.uptoBulkAll (lits .i64 (zs.drop len))+1
   rw [lits_bulk,← hl']
   omega
end
end Go.Proofs.YtemhncjjiomppaaGreatDoor
