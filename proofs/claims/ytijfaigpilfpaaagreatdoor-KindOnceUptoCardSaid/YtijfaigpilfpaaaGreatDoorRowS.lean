/- A row of texts that came in, its texts counted. -/
import Derived.Test.YtijfaigpilfpaaaGreatDoorRowY
import Derived.Carry
namespace Go.Proofs.YtijfaigpilfpaaaGreatDoor
open Go.ChangeShapes Go.WideShapes Go.ChangeAt Go.RowKit Go.Deep
set_option linter.unusedVariables false
set_option maxRecDepth 100000
theorem QkZ:∀ {l:List ByteArray} {s:ByteArray},s∈l→s.size≤(l.map fun s:ByteArray=>s.size+1).sum
 | u::l,s,h=>by
  rw [List.map_cons,List.sum_cons]
  rcases List.mem_cons.1 h with rfl | h
  · omega
  · have:=QkZ h; omega
theorem QkW:∀ l:List ByteArray,l.length≤(l.map fun s:ByteArray=>s.size+1).sum
 | []=>Nat.le_refl _
 | s::l=>by
  rw [List.map_cons,List.sum_cons,List.length_cons]
  have:=QkW l
  omega
section
variable {H : Type} {enc : TypeId × Value → H} {W : World}
theorem Qsu {base:Nat} {v:Value} {d:DataW H} {p:List MemPlace} (hv:Value.okWide Tryz.prog W .any base 33 v) (h:DataW.Trod enc Tryz.prog W 0 (fun _=>true) true 33 v d p):∃ l:List ByteArray,PR (H0 W) B0 v (.f (.dt .str l))∧(l.map fun s:ByteArray=>s.size+1).sum+1≤Rows.uptoBulk d:=by
 obtain ⟨a0,len0,cap0,rfl⟩:=okWide_slice Tryz.underlying33 hv
 obtain ⟨fuel,hf⟩:=h
 obtain ⟨v',l,h1,h2,h3⟩:=Qk7 (s:=.str) Tryz.underlying33 QdX (fun s:ByteArray=>s.size+1) (fun n cs y _ ht=>by
  obtain ⟨q,hq,hb⟩:=QkX ht
  refine ⟨q,⟨by rw [hq]; rfl,fun j x hj=>?_⟩,hb⟩
  match j,hj with
  | 0,hj=>cases hj; exact ⟨_,by rw [hq]; rfl,.v _ rfl⟩
  | j+1,hj=>cases hj) hf
 obtain rfl:Value.slice a0 len0 cap0=v':=by simpa [Value.cells] using h1
 exact ⟨l,.f h2,h3⟩
end
end Go.Proofs.YtijfaigpilfpaaaGreatDoor
