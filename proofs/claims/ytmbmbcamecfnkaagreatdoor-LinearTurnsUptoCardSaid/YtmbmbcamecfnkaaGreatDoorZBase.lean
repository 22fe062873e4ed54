/- What values of the layers num and ratio read as. -/
import Derived.Test.YtmbmbcamecfnkaaGreatDoorBase
import Derived.Test.YtmbmbcamecfnkaaGreatDoorZMath
namespace Go.Proofs.YtmbmbcamecfnkaaGreatDoor
open Go.RowKit
theorem Qqz {P:Program} {f:FuncId} {args:Array Value} {w:World} {R:Ending→World→Prop} (h:∀ W,W=w→Calls P f args W R):Calls P f args w R:=h w rfl
theorem Qr0 (w:World) (b j j':Nat) (u:Value) (h:j≠j'):(w.setCell ⟨b,j,none⟩ u).cell? ⟨b,j',none⟩=w.cell? ⟨b,j',none⟩:=by
 unfold World.cell? World.setCell
 simp only [Array.getElem?_modify,if_true]
 cases hh:w.heap[b]? with
 | none=>rfl
 | some o =>
  cases o <;> simp
  rename_i c e f
  rw [Array.getElem?_setIfInBounds_ne h]
theorem Quj {w:World} {b j:Nat} {v:Value} (h:w.cell? ⟨b,j,none⟩=some v):b<w.heap.size:=World.block_lt_of_cell? w ⟨b,j,none⟩ h
structure Box (w:World) (b:Nat) (vs:List Value):Prop where
 cells:∀ j,(h:j<vs.length)→w.cell? ⟨b,j,none⟩=some vs[j]
 free:∀ j,w.frozen? ⟨b,j,none⟩=false
 lt:b<w.heap.size
theorem Box.c0 {w:World} {b:Nat} {v0:Value} {vs:List Value} (h:Box w b (v0::vs)):w.cell? ⟨b,0,none⟩=some v0:=h.cells 0 (by simp)
theorem Box.c1 {w:World} {b:Nat} {v0 v1:Value} {vs:List Value} (h:Box w b (v0::v1::vs)):w.cell? ⟨b,1,none⟩=some v1:=h.cells 1 (by simp)
theorem Box.new (w:World) {cs:Array Value} {vs:List Value} (e:TypeId) {b:Nat} (hb:b=w.heap.size) (hc:cs.toList=vs):Box (w.alloc (.cells cs e)) b vs:=by
 subst hb hc
 refine ⟨fun j h=>?_,fun j=>QaW w cs e _ j rfl,by rw [Qaa]; omega⟩
 rw [Qal w cs e _ j rfl]
 simp only [Array.length_toList] at h
 simp [h]
theorem Box.alloc {w:World} {b:Nat} {vs:List Value} (h:Box w b vs) (o:Obj):Box (w.alloc o) b vs :=
 ⟨fun j hj=>(Qaq w o b j h.lt).trans (h.cells j hj),fun j=>(Qbj w o b j h.lt).trans (h.free j),by rw [Qaa]; have:=h.lt; omega⟩
theorem Box.drew {w:World} {b:Nat} {vs:List Value} (h:Box w b vs):Box w.drew b vs:=⟨h.cells,h.free,h.lt⟩
theorem Box.drewN {w:World} {b:Nat} {vs:List Value} (h:Box w b vs) (n:Nat):Box (w.drewN n) b vs:=⟨h.cells,h.free,h.lt⟩
theorem Box.below {w w':World} {b:Nat} {vs:List Value} (h:Box w b vs) (hb:Below w.heap.size w w'):Box w' b vs :=
 ⟨fun j hj=>(hb.cell (p:=⟨b,j,none⟩) h.lt).trans (h.cells j hj),fun j=>(hb.frozen (p:=⟨b,j,none⟩) h.lt).trans (h.free j),Nat.lt_of_lt_of_le h.lt hb.size⟩
theorem Box.set {w:World} {b b':Nat} {vs:List Value} (hn:b≠b') (h:Box w b vs) (j:Nat) (u:Value):Box (w.setCell ⟨b',j,none⟩ u) b vs :=
 ⟨fun i hi=>(Qba w b' j b i u hn).trans (h.cells i hi),fun i=>(QaJ w b' j b i u).trans (h.free i),by rw [Qad]; exact h.lt⟩
theorem Box.put {w:World} {b:Nat} {vs':List Value} (vs:List Value) (h:Box w b vs) (j:Nat) (u:Value) (e:vs'=vs.set j u):Box (w.setCell ⟨b,j,none⟩ u) b vs':=by
 subst e
 refine ⟨fun i hi=>?_,fun i=>(QaJ w b j b i u).trans (h.free i),by rw [Qad]; exact h.lt⟩
 rw [List.length_set] at hi
 by_cases hij:j=i
 · subst hij
   rw [QaH (h.cells j hi)]
   simp
 · rw [Qr0 w b j i u hij,h.cells i hi]
   simp [hij]
theorem Qnd {w0 w:World} (h:Below w0.heap.size w0 w) (o:Obj):Below w0.heap.size w0 (w.alloc o):=h.alloc h.size o
theorem Qs1 {w0 w:World} {b:Nat} (hb:w0.heap.size≤b) (h:Below w0.heap.size w0 w) (j:Nat) (u:Value):Below w0.heap.size w0 (w.setCell ⟨b,j,none⟩ u):=h.setCell hb u
theorem Qi1 {w0 w w':World} (h:Below w0.heap.size w0 w) (hb:Below w.heap.size w w'):Below w0.heap.size w0 w':=h.trans (hb.mono h.size)
structure Fr (a:World) (B:Nat) (w:World):Prop where
 size:a.heap.size≤w.heap.size
 same:∀ g,B≤g→g<a.heap.size→w.heap[g]?=a.heap[g]?
theorem Fr.refl (B:Nat) (w:World):Fr w B w:=⟨Nat.le_refl _,fun _ _ _=>rfl⟩
theorem Fr.drew {a w:World} {B:Nat} (h:Fr a B w):Fr a B w.drew:=⟨h.size,h.same⟩
theorem Fr.drewN {a w:World} {B:Nat} (h:Fr a B w) (n:Nat):Fr a B (w.drewN n):=⟨h.size,h.same⟩
theorem Fr.alloc {a w:World} {B:Nat} (h:Fr a B w) (o:Obj):Fr a B (w.alloc o) :=
 ⟨by rw [Qaa]; have:=h.size; omega,fun g h1 h2=>by rw [QiN w o g (by have:=h.size; omega)]; exact h.same g h1 h2⟩
theorem Fr.set {a w:World} {B b j:Nat} (hb:b<B∨a.heap.size≤b) (h:Fr a B w) (u:Value):Fr a B (w.setCell ⟨b,j,none⟩ u) :=
 ⟨by rw [Qad]; exact h.size,fun g h1 h2=>by rw [Qep w b j u g (by omega)]; exact h.same g h1 h2⟩
theorem Fr.below {a w w':World} {B:Nat} (h:Fr a B w) (hb:Below w.heap.size w w'):Fr a B w' :=
 ⟨Nat.le_trans h.size hb.size,fun g h1 h2=>by rw [hb.block g (by have:=h.size; omega)]; exact h.same g h1 h2⟩
def RdX (w:World) (lo hi:Nat) (v:Value) (k:IntKind) (l:List Nat):Prop :=
 RdI w v k l∧∀ ad n c,v=.slice (some ad) n c→0<l.length→ad.block<lo∨hi≤ad.block
theorem RdX.keep {w w':World} {lo hi:Nat} {v:Value} {k:IntKind} {l:List Nat} (h:RdX w lo hi v k l) (hb:Below w.heap.size w w'):RdX w' lo hi v k l:=⟨h.1.keep hb,h.2⟩
theorem RdX.set {w:World} {lo hi:Nat} {v:Value} {k:IntKind} {l:List Nat} {b:Nat} (h1:lo≤b) (h2:b<hi) (h:RdX w lo hi v k l) (j:Nat) (u:Value):RdX (w.setCell ⟨b,j,none⟩ u) lo hi v k l:=by
 refine ⟨?_,h.2⟩
 obtain ⟨⟨ao,cap,e1,e2,e3,e0,e4⟩,h5⟩:=h
 refine ⟨ao,cap,e1,e2,e3,e0,fun i hi'=>?_⟩
 obtain ⟨ad,e5,e6⟩:=e4 i hi'
 refine ⟨ad,e5,?_⟩
 subst e5
 have h6:=h5 ad _ _ e1 (by omega)
 rw [World.cell?_of_block (a:=ad.add i) (Below.heap_setCell w ⟨b,j,none⟩ u _ (by rw [QqQ]; dsimp only; omega))]
 exact e6
theorem RdX.drew {w:World} {lo hi:Nat} {v:Value} {k:IntKind} {l:List Nat} (h:RdX w lo hi v k l):RdX w.drew lo hi v k l:=h
theorem RdX.alloc {w:World} {lo hi:Nat} {v:Value} {k:IntKind} {l:List Nat} (h:RdX w lo hi v k l) (o:Obj):RdX (w.alloc o) lo hi v k l:=h.keep ((Below.refl _ _).alloc (Nat.le_refl _) _)
end Go.Proofs.YtmbmbcamecfnkaaGreatDoor
namespace Go.Proofs.YtmbmbcamecfnkaaGreatDoor
open Go.RowKit
def ZB (z:Int) (k:Nat):Prop:=z.natAbs<1000000000 ^ k
def zV (neg:Bool) (l:List Nat):Int:=zOf neg (val 1000000000 l)
def IV (w:World) (v:Value) (neg:Bool) (l:List Nat):Prop:=∃ s,v=.agg #[.bool neg,s]∧RdI w s .u32 l∧∀ x∈l,x<4294967296
def IZ (w:World) (v:Value) (z:Int) (k:Nat):Prop:=∃ neg l,IV w v neg l∧l.length≤k∧zV neg l=z
def I2 (w:World) (v:Value) (z:Int):Prop:=∃ s,v=.agg #[.bool (zNeg z),s]∧RdI w s .u32 (digs 1000000000 z.natAbs)
def IO (w:World) (B:Nat) (e:TypeId) (v:Value) (z:Int):Prop:=∃ s,v=.agg #[.bool (zNeg z),s]∧Own w B e .u32 s (digs 1000000000 z.natAbs)
def NB (w:World) (B:Nat) (e:TypeId) (v:Value) (z:Int):Prop:=∃ s,v=.agg #[s,.bool (zNeg z)]∧Own w B e .u32 s (digs 1000000000 z.natAbs)
theorem Qqp (n:Nat):(((digs 1000000000 n).length:Int)==0)=!decide (0<n):=by
 by_cases h:0<n
 · rw [QbP _ (by omega) _ (by omega)]
   simp [h]
   omega
 · obtain rfl:n=0:=by omega
   rw [Qav]; rfl
theorem ZB.len {z:Int} {k:Nat} (h:ZB z k):(digs 1000000000 z.natAbs).length≤k:=Qay _ (by omega) _ _ h
theorem ZB.mono {z:Int} {j k:Nat} (h:ZB z j) (hk:j≤k):ZB z k:=Nat.lt_of_lt_of_le h (Nat.pow_le_pow_right (by omega) hk)
theorem Qfh {a b:Nat} {m n:Nat} (h1:m<1000000000 ^ a) (h2:n<1000000000 ^ b):m+n<1000000000 ^ (a+b+1):=by
 have e1:1000000000 ^ a≤1000000000 ^ (a+b):=Nat.pow_le_pow_right (by omega) (by omega)
 have e2:1000000000 ^ b≤1000000000 ^ (a+b):=Nat.pow_le_pow_right (by omega) (by omega)
 rw [Nat.pow_succ]
 generalize 1000000000 ^ (a+b)=p at *
 omega
theorem QnL {a b:Nat} {m n:Nat} (h1:m<1000000000 ^ a) (h2:n<1000000000 ^ b):m * n<1000000000 ^ (a+b):=by
 rw [Nat.pow_add]
 exact Nat.mul_lt_mul'' h1 h2
theorem ZB.add {y z:Int} {a b:Nat} (h1:ZB y a) (h2:ZB z b):ZB (y+z) (a+b+1) :=
 Nat.lt_of_le_of_lt (Qoo y z) (Qfh h1 h2)
theorem ZB.mul {y z:Int} {a b:Nat} (h1:ZB y a) (h2:ZB z b):ZB (y * z) (a+b):=by
 unfold ZB; rw [QuG]; exact QnL h1 h2
theorem ZB.neg {z:Int} {a:Nat} (h:ZB z a):ZB (-z) a:=by unfold ZB; rw [Int.natAbs_neg]; exact h
theorem ZB.sub {y z:Int} {a b:Nat} (h1:ZB y a) (h2:ZB z b):ZB (y - z) (a+b+1):=by
 rw [Int.sub_eq_add_neg]; exact h1.add h2.neg
theorem ZB.zero (k:Nat):ZB 0 k:=Nat.pow_pos (by omega)
theorem ZB.one:ZB 1 1:=by unfold ZB; decide
theorem ZB.fdiv {y z:Int} {a:Nat} (h:ZB y a) (hz:z≠0):ZB (Int.fdiv y z) (a+1):=by
 have:=QrQ y hz
 unfold ZB at *
 rw [Nat.pow_succ]
 generalize 1000000000 ^ a=p at *
 omega
theorem ZB.fmod {y z:Int} {a:Nat} (h:ZB z a) (hz:z≠0):ZB (Int.fmod y z) a :=
 Nat.lt_trans (QrM y hz) h
theorem Qjf (l:List Nat) (h:∀ x∈l,x<4294967296):val 1000000000 l<1000000000 ^ (l.length+1):=by
 have:val 1000000000 l+5≤5 * 1000000000 ^ l.length:=by
  induction l with
  | nil=>simp [val]
  | cons x l ih =>
   have h1:=ih fun y hy=>h y (List.mem_cons_of_mem _ hy)
   have h2:=h x List.mem_cons_self
   simp only [val,List.length_cons,Nat.pow_succ]
   generalize 1000000000 ^ l.length=p at *
   omega
 rw [Nat.pow_succ]
 generalize 1000000000 ^ l.length=p at *
 omega
theorem IV.keep {w w':World} {v:Value} {neg:Bool} {l:List Nat} (h:IV w v neg l) (hb:Below w.heap.size w w'):IV w' v neg l:=by
 obtain ⟨s,h1,h2,h3⟩:=h; exact ⟨s,h1,h2.keep hb,h3⟩
theorem IZ.keep {w w':World} {v:Value} {z:Int} {k:Nat} (h:IZ w v z k) (hb:Below w.heap.size w w'):IZ w' v z k:=by
 obtain ⟨neg,l,h1,h2⟩:=h; exact ⟨neg,l,h1.keep hb,h2⟩
theorem I2.keep {w w':World} {v:Value} {z:Int} (h:I2 w v z) (hb:Below w.heap.size w w'):I2 w' v z:=by
 obtain ⟨s,h1,h2⟩:=h; exact ⟨s,h1,h2.keep hb⟩
theorem IO.keep {w w':World} {B:Nat} {e:TypeId} {v:Value} {z:Int} (h:IO w B e v z) (hb:Below w.heap.size w w'):IO w' B e v z:=by
 obtain ⟨s,h1,h2⟩:=h; exact ⟨s,h1,h2.keep hb⟩
theorem NB.keep {w w':World} {B:Nat} {e:TypeId} {v:Value} {z:Int} (h:NB w B e v z) (hb:Below w.heap.size w w'):NB w' B e v z:=by
 obtain ⟨s,h1,h2⟩:=h; exact ⟨s,h1,h2.keep hb⟩
theorem IO.low {w:World} {B B':Nat} {e:TypeId} {v:Value} {z:Int} (h:IO w B e v z) (hB:B'≤B):IO w B' e v z:=by
 obtain ⟨s,h1,h2⟩:=h; exact ⟨s,h1,h2.low hB⟩
theorem NB.low {w:World} {B B':Nat} {e:TypeId} {v:Value} {z:Int} (h:NB w B e v z) (hB:B'≤B):NB w B' e v z:=by
 obtain ⟨s,h1,h2⟩:=h; exact ⟨s,h1,h2.low hB⟩
theorem IO.i2 {w:World} {B:Nat} {e:TypeId} {v:Value} {z:Int} (h:IO w B e v z):I2 w v z:=by
 obtain ⟨s,h1,h2⟩:=h; exact ⟨s,h1,h2.rd⟩
theorem QmU (n:Nat):∀ x∈digs 1000000000 n,x<4294967296:=fun x hx=>Nat.lt_trans (Qau _ (by omega) _ x hx) (by omega)
theorem QaI (z:Int):zV (zNeg z) (digs 1000000000 z.natAbs)=z:=by
 rw [zV,Qah _ (by omega),QaV]
theorem I2.iv {w:World} {v:Value} {z:Int} (h:I2 w v z):IV w v (zNeg z) (digs 1000000000 z.natAbs):=by
 obtain ⟨s,h1,h2⟩:=h; exact ⟨s,h1,h2,QmU _⟩
theorem IV.one {w:World} {v:Value} {neg:Bool} {l:List Nat} (h:IV w v neg l):∃ ao n ac,v=.agg #[.bool neg,.slice ao n ac]:=by
 obtain ⟨s,rfl,⟨ao,ac,rfl,_⟩,_⟩:=h; exact ⟨ao,_,ac,rfl⟩
theorem IV.sh {w:World} {v:Value} {neg:Bool} {l:List Nat} (h:IV w v neg l):∃ ao ac,v=.agg #[.bool neg,.slice ao l.length ac]:=by
 obtain ⟨s,rfl,⟨ao,ac,rfl,_⟩,_⟩:=h; exact ⟨ao,ac,rfl⟩
theorem IZ.one {w:World} {v:Value} {z:Int} {k:Nat} (h:IZ w v z k):∃ neg ao n ac,v=.agg #[.bool neg,.slice ao n ac]:=by
 obtain ⟨neg,l,h,_⟩:=h; exact ⟨neg,h.one⟩
theorem I2.one {w:World} {v:Value} {z:Int} (h:I2 w v z):∃ ao ac,v=.agg #[.bool (zNeg z),.slice ao (digs 1000000000 z.natAbs).length ac]:=by
 obtain ⟨s,rfl,⟨ao,ac,rfl,_⟩⟩:=h; exact ⟨ao,ac,rfl⟩
theorem IO.one {w:World} {B:Nat} {e:TypeId} {v:Value} {z:Int} (h:IO w B e v z):∃ ao ac,v=.agg #[.bool (zNeg z),.slice ao (digs 1000000000 z.natAbs).length ac]:=h.i2.one
theorem NB.one {w:World} {B:Nat} {e:TypeId} {v:Value} {z:Int} (h:NB w B e v z):∃ ao ac,v=.agg #[.slice ao (digs 1000000000 z.natAbs).length ac,.bool (zNeg z)]:=by
 obtain ⟨s,rfl,h2⟩:=h
 obtain ⟨ao,ac,rfl,_⟩:=h2.rd; exact ⟨ao,ac,rfl⟩
theorem NB.rd {w:World} {B:Nat} {e:TypeId} {s:Value} {t:Bool} {z:Int} (h:NB w B e (.agg #[s,.bool t]) z):RdI w s .u32 (digs 1000000000 z.natAbs):=by
 obtain ⟨s',h1,h2⟩:=h
 injection h1 with h1
 have:s=s':=by injection h1 with h1; injection h1
 subst this; exact h2.rd
theorem NB.own {w:World} {B:Nat} {e:TypeId} {s:Value} {t:Bool} {z:Int} (h:NB w B e (.agg #[s,.bool t]) z):Own w B e .u32 s (digs 1000000000 z.natAbs):=by
 obtain ⟨s',h1,h2⟩:=h
 injection h1 with h1
 have:s=s':=by injection h1 with h1; injection h1
 subst this; exact h2
theorem IV.rd {w:World} {s:Value} {t neg:Bool} {l:List Nat} (h:IV w (.agg #[.bool t,s]) neg l):RdI w s .u32 l:=by
 obtain ⟨s',h1,h2,_⟩:=h
 injection h1 with h1
 have:s=s':=by injection h1 with h1; injection h1 with _ h1; injection h1
 subst this; exact h2
theorem I2.rd {w:World} {s:Value} {t:Bool} {z:Int} (h:I2 w (.agg #[.bool t,s]) z):RdI w s .u32 (digs 1000000000 z.natAbs):=h.iv.rd
theorem IO.own {w:World} {B:Nat} {e:TypeId} {s:Value} {t:Bool} {z:Int} (h:IO w B e (.agg #[.bool t,s]) z):Own w B e .u32 s (digs 1000000000 z.natAbs):=by
 obtain ⟨s',h1,h2⟩:=h
 injection h1 with h1
 have:s=s':=by injection h1 with h1; injection h1 with _ h1; injection h1
 subst this; exact h2
theorem NB.drew {w:World} {B:Nat} {e:TypeId} {v:Value} {z:Int} (h:NB w B e v z):NB w.drew B e v z:=h
theorem NB.drewN {w:World} {B:Nat} {e:TypeId} {v:Value} {z:Int} (h:NB w B e v z) (n:Nat):NB (w.drewN n) B e v z:=h
theorem NB.alloc {w:World} {B:Nat} {e:TypeId} {v:Value} {z:Int} (h:NB w B e v z) (o:Obj):NB (w.alloc o) B e v z:=h.keep ((Below.refl _ _).alloc (Nat.le_refl _) _)
theorem NB.set {w:World} {B:Nat} {e:TypeId} {v:Value} {z:Int} (h:NB w B e v z) {a:Addr} (ha:a.block<B) (u:Value):NB (w.setCell a u) B e v z:=by
 obtain ⟨s,h1,h2⟩:=h; exact ⟨s,h1,h2.set ha u⟩
theorem IO.drew {w:World} {B:Nat} {e:TypeId} {v:Value} {z:Int} (h:IO w B e v z):IO w.drew B e v z:=h
theorem IO.alloc {w:World} {B:Nat} {e:TypeId} {v:Value} {z:Int} (h:IO w B e v z) (o:Obj):IO (w.alloc o) B e v z:=h.keep ((Below.refl _ _).alloc (Nat.le_refl _) _)
theorem IO.set {w:World} {B:Nat} {e:TypeId} {v:Value} {z:Int} (h:IO w B e v z) {a:Addr} (ha:a.block<B) (u:Value):IO (w.setCell a u) B e v z:=by
 obtain ⟨s,h1,h2⟩:=h; exact ⟨s,h1,h2.set ha u⟩
def OwnX (w:World) (B lo hi:Nat) (e:TypeId) (k:IntKind) (v:Value) (l:List Nat):Prop:=Own w B e k v l∧∀ ad n c,v=.slice (some ad) n c→ad.block<lo∨hi≤ad.block
theorem OwnX.keep {w w':World} {B lo hi:Nat} {e:TypeId} {k:IntKind} {v:Value} {l:List Nat} (h:OwnX w B lo hi e k v l) (hb:Below w.heap.size w w'):OwnX w' B lo hi e k v l:=⟨h.1.keep hb,h.2⟩
theorem OwnX.set {w:World} {B lo hi:Nat} {e:TypeId} {k:IntKind} {v:Value} {l:List Nat} {b:Nat} (h1:lo≤b) (h2:b<hi) (h:OwnX w B lo hi e k v l) (j:Nat) (u:Value):OwnX (w.setCell ⟨b,j,none⟩ u) B lo hi e k v l:=by
 obtain ⟨⟨h3,h4⟩,h5⟩:=h
 refine ⟨⟨h3,?_⟩,h5⟩
 rcases h4 with h4 | ⟨g,cap,cur,hv,hg,hh,r⟩
 · exact .inl h4
 · have:=h5 _ _ _ hv
   dsimp only at this
   exact .inr ⟨g,cap,cur,hv,hg,by rw [Qep w b j u g (by omega)]; exact hh,r⟩
theorem Own.x {w:World} {B:Nat} {e:TypeId} {k:IntKind} {v:Value} {l:List Nat} (h:Own w B e k v l) (lo:Nat) {hi:Nat} (hB:hi≤B):OwnX w B lo hi e k v l:=by
 refine ⟨h,fun ad n c hv=>.inr ?_⟩
 rcases h.2 with ⟨h1,_⟩ | ⟨g,cap,cur,h1,hg,_⟩
 · rw [hv] at h1; cases h1
 · rw [hv] at h1; cases h1; dsimp only; omega
def NBX (w:World) (B lo hi:Nat) (e:TypeId) (v:Value) (z:Int):Prop:=∃ s,v=.agg #[s,.bool (zNeg z)]∧OwnX w B lo hi e .u32 s (digs 1000000000 z.natAbs)
theorem NBX.nb {w:World} {B lo hi:Nat} {e:TypeId} {v:Value} {z:Int} (h:NBX w B lo hi e v z):NB w B e v z:=by
 obtain ⟨s,h1,h2⟩:=h; exact ⟨s,h1,h2.1⟩
theorem NBX.keep {w w':World} {B lo hi:Nat} {e:TypeId} {v:Value} {z:Int} (h:NBX w B lo hi e v z) (hb:Below w.heap.size w w'):NBX w' B lo hi e v z:=by
 obtain ⟨s,h1,h2⟩:=h; exact ⟨s,h1,h2.keep hb⟩
theorem NBX.set {w:World} {B lo hi:Nat} {e:TypeId} {v:Value} {z:Int} {b:Nat} (h1:lo≤b) (h2:b<hi) (h:NBX w B lo hi e v z) (j:Nat) (u:Value):NBX (w.setCell ⟨b,j,none⟩ u) B lo hi e v z:=by
 obtain ⟨s,h3,h4⟩:=h; exact ⟨s,h3,h4.set h1 h2 j u⟩
theorem NBX.drew {w:World} {B lo hi:Nat} {e:TypeId} {v:Value} {z:Int} (h:NBX w B lo hi e v z):NBX w.drew B lo hi e v z:=h
theorem NBX.alloc {w:World} {B lo hi:Nat} {e:TypeId} {v:Value} {z:Int} (h:NBX w B lo hi e v z) (o:Obj):NBX (w.alloc o) B lo hi e v z:=h.keep ((Below.refl _ _).alloc (Nat.le_refl _) _)
theorem NBX.low {w:World} {B B' lo hi:Nat} {e:TypeId} {v:Value} {z:Int} (h:NBX w B lo hi e v z) (hB:B'≤B):NBX w B' lo hi e v z:=by
 obtain ⟨s,h1,h2,h3⟩:=h; exact ⟨s,h1,h2.low hB,h3⟩
theorem NB.x {w:World} {B:Nat} {e:TypeId} {v:Value} {z:Int} (h:NB w B e v z) (lo:Nat) {hi:Nat} (hB:hi≤B):NBX w B lo hi e v z:=by
 obtain ⟨s,h1,h2⟩:=h; exact ⟨s,h1,h2.x lo hB⟩
theorem NBX.one {w:World} {B lo hi:Nat} {e:TypeId} {v:Value} {z:Int} (h:NBX w B lo hi e v z):∃ ao ac,v=.agg #[.slice ao (digs 1000000000 z.natAbs).length ac,.bool (zNeg z)]:=h.nb.one
def IOX (w:World) (B lo hi:Nat) (e:TypeId) (v:Value) (z:Int):Prop:=∃ s,v=.agg #[.bool (zNeg z),s]∧OwnX w B lo hi e .u32 s (digs 1000000000 z.natAbs)
theorem IOX.io {w:World} {B lo hi:Nat} {e:TypeId} {v:Value} {z:Int} (h:IOX w B lo hi e v z):IO w B e v z:=by
 obtain ⟨s,h1,h2⟩:=h; exact ⟨s,h1,h2.1⟩
theorem IOX.keep {w w':World} {B lo hi:Nat} {e:TypeId} {v:Value} {z:Int} (h:IOX w B lo hi e v z) (hb:Below w.heap.size w w'):IOX w' B lo hi e v z:=by
 obtain ⟨s,h1,h2⟩:=h; exact ⟨s,h1,h2.keep hb⟩
theorem IOX.set {w:World} {B lo hi:Nat} {e:TypeId} {v:Value} {z:Int} {b:Nat} (h1:lo≤b) (h2:b<hi) (h:IOX w B lo hi e v z) (j:Nat) (u:Value):IOX (w.setCell ⟨b,j,none⟩ u) B lo hi e v z:=by
 obtain ⟨s,h3,h4⟩:=h; exact ⟨s,h3,h4.set h1 h2 j u⟩
theorem IOX.drew {w:World} {B lo hi:Nat} {e:TypeId} {v:Value} {z:Int} (h:IOX w B lo hi e v z):IOX w.drew B lo hi e v z:=h
theorem IOX.alloc {w:World} {B lo hi:Nat} {e:TypeId} {v:Value} {z:Int} (h:IOX w B lo hi e v z) (o:Obj):IOX (w.alloc o) B lo hi e v z:=h.keep ((Below.refl _ _).alloc (Nat.le_refl _) _)
theorem IOX.one {w:World} {B lo hi:Nat} {e:TypeId} {v:Value} {z:Int} (h:IOX w B lo hi e v z):∃ ao ac,v=.agg #[.bool (zNeg z),.slice ao (digs 1000000000 z.natAbs).length ac]:=h.io.one
theorem IO.x {w:World} {B:Nat} {e:TypeId} {v:Value} {z:Int} (h:IO w B e v z) (lo:Nat) {hi:Nat} (hB:hi≤B):IOX w B lo hi e v z:=by
 obtain ⟨s,h1,h2⟩:=h; exact ⟨s,h1,h2.x lo hB⟩
theorem NBX.own {w:World} {B lo hi:Nat} {e:TypeId} {s:Value} {t:Bool} {z:Int} (h:NBX w B lo hi e (.agg #[s,.bool t]) z):OwnX w B lo hi e .u32 s (digs 1000000000 z.natAbs):=by
 obtain ⟨s',h1,h2⟩:=h
 injection h1 with h1
 have:s=s':=by injection h1 with h1; injection h1
 subst this; exact h2
def sgnAt (L:List (Bool × List Nat)) (i:Nat):Bool:=(L.getD i (false,[])).1
def limAt (L:List (Bool × List Nat)) (i:Nat):List Nat:=(L.getD i (false,[])).2
def RdZ (w:World) (v:Value) (L:List (Bool × List Nat)):Prop :=
 ∃ ao cap,v=.slice ao L.length cap∧L.length≤cap∧cap≤maxLen ∧
  ∀ i,i<L.length→∃ ad s,ao=some ad∧w.cell? (ad.add (i * 2))=some (.bool (sgnAt L i))∧w.cell? ⟨(ad.add (i * 2)).block,(ad.add (i * 2)).off+1,none⟩=some s∧RdI w s .u32 (limAt L i)∧∀ x∈limAt L i,x<4294967296
theorem RdZ.keep {w w':World} {v:Value} {L:List (Bool × List Nat)} (h:RdZ w v L) (hb:Below w.heap.size w w'):RdZ w' v L:=by
 obtain ⟨ao,cap,h1,h2,h3,h4⟩:=h
 refine ⟨ao,cap,h1,h2,h3,fun i hi=>?_⟩
 obtain ⟨ad,s,h5,h6,h7,h8,h9⟩:=h4 i hi
 exact ⟨ad,s,h5,(hb.cell (World.block_lt_of_cell? w _ h6)).trans h6,(hb.cell (World.block_lt_of_cell? w _ h7)).trans h7,h8.keep hb,h9⟩
theorem RdZ.sl {w:World} {v:Value} {L:List (Bool × List Nat)} (h:RdZ w v L):∃ ao ac,v=.slice ao L.length ac:=by
 obtain ⟨ao,ac,h,_⟩:=h; exact ⟨ao,ac,h⟩
theorem Qge (neg:Bool) (l:List Nat) (h:∀ x∈l,x<4294967296):ZB (zV neg l) (l.length+1):=by
 unfold ZB zV; rw [Qbn]; exact Qjf l h
end Go.Proofs.YtmbmbcamecfnkaaGreatDoor
