/- What is told of the world where calls begin: the table of strconv's is laid. -/
import Derived.Test.YtmbmbcamecfnkaaGreatDoorZt
import Derived.Test.YtmbmbcamecfnkaaGreatDoorVb
import Derived.Test.YtmbmbcamecfnkaaGreatDoorText
namespace Go.Proofs.YtmbmbcamecfnkaaGreatDoor
def EZ : Env := fun K w _ => Tab w ∧ ∀ g, Tryz.prog.globalNamed "internal/strconv.uint64pow10" = some g → K g
theorem Qnv : ∃ g, Tryz.prog.globalNamed "internal/strconv.uint64pow10" = some g := ⟨1, by kernel_rfl⟩
theorem EZ.up:Up EZ:=⟨fun c H w' H' he ⟨h,hk⟩=>⟨by
 obtain ⟨g,hg⟩:=Qnv
 unfold Tab Lib.TabIs World.var? at h ⊢
 simp only [hg,Option.bind_some] at h ⊢
 rw [he.block g (hk g hg)]
 exact h,hk⟩,fun K K' w H hs ⟨h,hk⟩=>⟨h,fun g hg=>hs g (hk g hg)⟩⟩
theorem EZ.tab:∀ K w H,EZ K w H→Tab w:=fun _ _ _ h=>h.1
theorem EZ.of {w:World} {H:Hp} (h:Tab w):EZ (fun b=>b<w.heap.size) w H:=⟨h,fun g hg=>by
 unfold Tab Lib.TabIs World.var? at h
 simp only [hg,Option.bind_some] at h
 rcases Nat.lt_or_ge g w.heap.size with h1 | h1
 · exact h1
 · rw [Array.getElem?_eq_none h1] at h; cases h⟩
end Go.Proofs.YtmbmbcamecfnkaaGreatDoor
