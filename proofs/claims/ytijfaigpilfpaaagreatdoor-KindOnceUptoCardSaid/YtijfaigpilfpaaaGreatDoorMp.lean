/- Maps of texts to yes or no. -/
import Derived.Test.YtijfaigpilfpaaaGreatDoorTe
namespace Go.Proofs.YtijfaigpilfpaaaGreatDoor
open Go.RowKit
set_option linter.unusedVariables false
set_option maxRecDepth 100000
def hasF (F:ByteArray→Option Bool):Kt.T .str→Bool:=fun s=>(F s).isSome
def getF (F:ByteArray→Option Bool):Kt.T .str→List Lf:=fun s=>[.v (.bool ((F s).getD false))]
def put1 (F:ByteArray→Option Bool) (k:ByteArray) (b:Bool):ByteArray→Option Bool:=fun s=>if s=k then some b else F s
open Classical in
noncomputable def putSt (F:ByteArray→Option Bool) (L:List ByteArray) (b:Bool):ByteArray→Option Bool:=fun s=>if s∈L then some b else F s
theorem Qqt:MapW .str (fun _=>false) (fun _=>[]) [] [] .str (hasF fun _=>none) (getF fun _=>none) [] []:=⟨rfl,fun _=>trivial⟩
theorem QiI {F':ByteArray→Option Bool} (h:F'=fun _=>none):MapW .str (fun _=>false) (fun _=>[]) [] [] .str (hasF F') (getF F') [] []:=by subst h; exact Qqt
theorem QiH {F F':ByteArray→Option Bool} (h:F=F'):MapW .str (hasF F) (getF F) [] [] .str (hasF F') (getF F') [] []:=by subst h; exact .refl _ _ _ _ _
theorem Qhp {F F':ByteArray→Option Bool} {k:ByteArray} {b:Bool} (h:F'=put1 F k b):MapW .str (hasF F) (getF F) [k] [.f (.v (.bool b))] .str (hasF F') (getF F') [] []:=⟨rfl,fun key=>by
 subst h
 show Qov (match Kt.eq .str key k with | true=>some (.f (.v (.bool b))) | false=>(match hasF F key with | true=>some (Qby (getF F key)) | false=>none)) (match hasF (put1 F k b) key with | true=>some (Qby (getF (put1 F k b) key)) | false=>none)
 by_cases hk:key=k
 · subst hk
   have e1:Kt.eq .str key key=true:=Kt.eq_self key
   have e2:hasF (put1 F key b) key=true:=by simp [hasF,put1]
   have e3:getF (put1 F key b) key=[.v (.bool b)]:=by simp [getF,put1]
   rw [e1,e2,e3]
   exact SubB.refl _
 · have e1:Kt.eq .str key k=false:=decide_eq_false hk
   have e2:hasF (put1 F k b) key=hasF F key:=by simp [hasF,put1,hk]
   have e3:getF (put1 F k b) key=getF F key:=by simp [getF,put1,hk]
   rw [e1,e2,e3]
   cases hasF F key with
   | true=>exact SubB.refl _
   | false=>trivial⟩
theorem Qob (F:ByteArray→Option Bool) (b:Bool):putSt F [] b=F:=by funext s; simp [putSt]
theorem Qoc (F:ByteArray→Option Bool) (L:List ByteArray) (k:ByteArray) (b:Bool):putSt F (L++[k]) b=put1 (putSt F L b) k b:=by
 funext s
 unfold put1 putSt
 by_cases h:s=k
 · rw [if_pos (List.mem_append_right _ (List.mem_singleton.2 h)),if_pos h]
 · rw [if_neg h]
   by_cases hm:s∈L
   · rw [if_pos (List.mem_append_left _ hm),if_pos hm]
   · rw [if_neg hm,if_neg fun c=>(List.mem_append.1 c).elim hm fun c=>h (List.mem_singleton.1 c)]
theorem Qnw {l:List ByteArray} {j:Nat} (h:j<l.length):l.take (j+1)=l.take j++[l.getD j Sh.str.nil]:=by
 rw [List.take_add_one,List.getElem?_eq_getElem h,List.getD_eq_getElem?_getD,List.getElem?_eq_getElem h]; rfl
noncomputable def setF (L:List ByteArray):ByteArray→Option Bool:=putSt (fun _=>none) L true
theorem Qk0:setF []=fun _=>none:=Qob _ _
theorem Qg5 (L:List ByteArray) (k:ByteArray):setF (L++[k])=put1 (setF L) k true:=Qoc _ _ _ _
theorem Qed {L:List ByteArray} {s:ByteArray} (h:s∈L):setF L s=some true:=by
 unfold setF putSt
 rw [if_pos h]
theorem Qp7 {L:List ByteArray} {s:ByteArray} (h:¬ s∈L):setF L s=none:=by
 unfold setF putSt
 rw [if_neg h]
theorem Qb3 {L:List ByteArray} {s:ByteArray}:hasF (setF L) s=true↔s∈L:=by
 by_cases h:s∈L
 · unfold hasF; rw [Qed h]; exact ⟨fun _=>h,fun _=>rfl⟩
 · unfold hasF; rw [Qp7 h]; exact ⟨fun c=>Bool.noConfusion (show false=true from c),fun c=>absurd c h⟩
end Go.Proofs.YtijfaigpilfpaaaGreatDoor
