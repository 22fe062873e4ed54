/- A call's own variables, block by block; worlds under names. -/
import Derived.Test.YtijfaigpilfpaaaGreatDoorBase
namespace Go.Proofs.YtijfaigpilfpaaaGreatDoor
open Go.RowKit
theorem Qpp {P:Program} {f:FuncId} {args:Array Value} {w:World} {R:Ending→World→Prop} (h:∀ W,W=w→Calls P f args W R):Calls P f args w R:=h w rfl
theorem Qq4 (w:World) (b j j':Nat) (u:Value) (h:j≠j'):(w.setCell ⟨b,j,none⟩ u).cell? ⟨b,j',none⟩=w.cell? ⟨b,j',none⟩:=by
 unfold World.cell? World.setCell
 simp only [Array.getElem?_modify,if_true]
 cases hh:w.heap[b]? with
 | none=>rfl
 | some o =>
  cases o <;> simp
  rename_i c e f
  rw [Array.getElem?_setIfInBounds_ne h]
theorem Qtt {w:World} {b j:Nat} {v:Value} (h:w.cell? ⟨b,j,none⟩=some v):b<w.heap.size:=World.block_lt_of_cell? w ⟨b,j,none⟩ h
structure Box (w:World) (b:Nat) (vs:List Value):Prop where
 cells:∀ j,(h:j<vs.length)→w.cell? ⟨b,j,none⟩=some vs[j]
 free:∀ j,w.frozen? ⟨b,j,none⟩=false
 lt:b<w.heap.size
theorem Box.c0 {w:World} {b:Nat} {v0:Value} {vs:List Value} (h:Box w b (v0::vs)):w.cell? ⟨b,0,none⟩=some v0:=h.cells 0 (by simp)
theorem Box.c1 {w:World} {b:Nat} {v0 v1:Value} {vs:List Value} (h:Box w b (v0::v1::vs)):w.cell? ⟨b,1,none⟩=some v1:=h.cells 1 (by simp)
theorem Box.new (w:World) {cs:Array Value} {vs:List Value} (e:TypeId) {b:Nat} (hb:b=w.heap.size) (hc:cs.toList=vs):Box (w.alloc (.cells cs e)) b vs:=by
 subst hb hc
 refine ⟨fun j h=>?_,fun j=>QqL w cs e _ j rfl,by rw [size_alloc]; omega⟩
 rw [Ql6 w cs e _ j rfl]
 simp only [Array.length_toList] at h
 simp [h]
theorem Box.alloc {w:World} {b:Nat} {vs:List Value} (h:Box w b vs) (o:Obj):Box (w.alloc o) b vs :=
 ⟨fun j hj=>(Qq3 w o b j h.lt).trans (h.cells j hj),fun j=>(QqK w o b j h.lt).trans (h.free j),by rw [size_alloc]; have:=h.lt; omega⟩
theorem Box.drew {w:World} {b:Nat} {vs:List Value} (h:Box w b vs):Box w.drew b vs:=⟨h.cells,h.free,h.lt⟩
theorem Box.drewN {w:World} {b:Nat} {vs:List Value} (h:Box w b vs) (n:Nat):Box (w.drewN n) b vs:=⟨h.cells,h.free,h.lt⟩
theorem Box.below {w w':World} {b:Nat} {vs:List Value} (h:Box w b vs) (hb:Below w.heap.size w w'):Box w' b vs :=
 ⟨fun j hj=>(hb.cell (p:=⟨b,j,none⟩) h.lt).trans (h.cells j hj),fun j=>(hb.frozen (p:=⟨b,j,none⟩) h.lt).trans (h.free j),Nat.lt_of_lt_of_le h.lt hb.size⟩
theorem Box.set {w:World} {b b':Nat} {vs:List Value} (hn:b≠b') (h:Box w b vs) (j:Nat) (u:Value):Box (w.setCell ⟨b',j,none⟩ u) b vs :=
 ⟨fun i hi=>(Qts w b' j b i u hn).trans (h.cells i hi),fun i=>(QiS w b' j b i u).trans (h.free i),by rw [QbE]; exact h.lt⟩
theorem Box.put {w:World} {b:Nat} {vs':List Value} (vs:List Value) (h:Box w b vs) (j:Nat) (u:Value) (e:vs'=vs.set j u):Box (w.setCell ⟨b,j,none⟩ u) b vs':=by
 subst e
 refine ⟨fun i hi=>?_,fun i=>(QiS w b j b i u).trans (h.free i),by rw [QbE]; exact h.lt⟩
 rw [List.length_set] at hi
 by_cases hij:j=i
 · subst hij
   rw [Qpm (h.cells j hi)]
   simp
 · rw [Qq4 w b j i u hij,h.cells i hi]
   simp [hij]
theorem Qma {w0 w:World} (h:Below w0.heap.size w0 w) (o:Obj):Below w0.heap.size w0 (w.alloc o):=h.alloc h.size o
theorem Qr7 {w0 w:World} {b:Nat} (hb:w0.heap.size≤b) (h:Below w0.heap.size w0 w) (j:Nat) (u:Value):Below w0.heap.size w0 (w.setCell ⟨b,j,none⟩ u):=h.setCell hb u
theorem QhV {w0 w w':World} (h:Below w0.heap.size w0 w) (hb:Below w.heap.size w w'):Below w0.heap.size w0 w':=h.trans (hb.mono h.size)
structure Fr (a:World) (B:Nat) (w:World):Prop where
 size:a.heap.size≤w.heap.size
 same:∀ g,B≤g→g<a.heap.size→w.heap[g]?=a.heap[g]?
theorem Fr.refl (B:Nat) (w:World):Fr w B w:=⟨Nat.le_refl _,fun _ _ _=>rfl⟩
theorem Fr.drew {a w:World} {B:Nat} (h:Fr a B w):Fr a B w.drew:=⟨h.size,h.same⟩
theorem Fr.drewN {a w:World} {B:Nat} (h:Fr a B w) (n:Nat):Fr a B (w.drewN n):=⟨h.size,h.same⟩
theorem Fr.alloc {a w:World} {B:Nat} (h:Fr a B w) (o:Obj):Fr a B (w.alloc o) :=
 ⟨by rw [size_alloc]; have:=h.size; omega,fun g h1 h2=>by rw [QqH w o g (by have:=h.size; omega)]; exact h.same g h1 h2⟩
theorem Fr.set {a w:World} {B b j:Nat} (hb:b<B∨a.heap.size≤b) (h:Fr a B w) (u:Value):Fr a B (w.setCell ⟨b,j,none⟩ u) :=
 ⟨by rw [QbE]; exact h.size,fun g h1 h2=>by rw [QfD w b j u g (by omega)]; exact h.same g h1 h2⟩
theorem Fr.below {a w w':World} {B:Nat} (h:Fr a B w) (hb:Below w.heap.size w w'):Fr a B w' :=
 ⟨Nat.le_trans h.size hb.size,fun g h1 h2=>by rw [hb.block g (by have:=h.size; omega)]; exact h.same g h1 h2⟩
def RdX (w:World) (lo hi:Nat) (v:Value) (k:IntKind) (l:List Nat):Prop :=
 RdI w v k l∧∀ ad n c,v=.slice (some ad) n c→0<l.length→ad.block<lo∨hi≤ad.block
theorem RdX.keep {w w':World} {lo hi:Nat} {v:Value} {k:IntKind} {l:List Nat} (h:RdX w lo hi v k l) (hb:Below w.heap.size w w'):RdX w' lo hi v k l:=⟨h.1.keep hb,h.2⟩
theorem RdX.set {w:World} {lo hi:Nat} {v:Value} {k:IntKind} {l:List Nat} {b:Nat} (h1:lo≤b) (h2:b<hi) (h:RdX w lo hi v k l) (j:Nat) (u:Value):RdX (w.setCell ⟨b,j,none⟩ u) lo hi v k l:=by
 refine ⟨?_,h.2⟩
 obtain ⟨⟨ao,cap,e1,e2,e3,e0,e4⟩,h5⟩:=h
 refine ⟨ao,cap,e1,e2,e3,e0,fun i hi'=>?_⟩
 obtain ⟨ad,e5,e6⟩:=e4 i hi'
 refine ⟨ad,e5,?_⟩
 subst e5
 have h6:=h5 ad _ _ e1 (by omega)
 rw [World.cell?_of_block (a:=ad.add i) (Below.heap_setCell w ⟨b,j,none⟩ u _ (by rw [QpL]; dsimp only; omega))]
 exact e6
theorem RdX.drew {w:World} {lo hi:Nat} {v:Value} {k:IntKind} {l:List Nat} (h:RdX w lo hi v k l):RdX w.drew lo hi v k l:=h
theorem RdX.alloc {w:World} {lo hi:Nat} {v:Value} {k:IntKind} {l:List Nat} (h:RdX w lo hi v k l) (o:Obj):RdX (w.alloc o) lo hi v k l:=h.keep ((Below.refl _ _).alloc (Nat.le_refl _) _)
end Go.Proofs.YtijfaigpilfpaaaGreatDoor
