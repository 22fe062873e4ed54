/- What values of the layers num and ratio read as. -/
import Derived.Test.YtijfaigpilfpaaaGreatDoorBox
import Derived.Test.YtijfaigpilfpaaaGreatDoorZMath
namespace Go.Proofs.YtijfaigpilfpaaaGreatDoor
open Go.RowKit
def ZB (z:Int) (k:Nat):Prop:=z.natAbs<1000000000 ^ k
def zV (neg:Bool) (l:List Nat):Int:=zOf neg (val 1000000000 l)
def IV (w:World) (v:Value) (neg:Bool) (l:List Nat):Prop:=∃ s,v=.agg #[.bool neg,s]∧RdI w s .u32 l∧∀ x∈l,x<4294967296
def IZ (w:World) (v:Value) (z:Int) (k:Nat):Prop:=∃ neg l,IV w v neg l∧l.length≤k∧zV neg l=z
def I2 (w:World) (v:Value) (z:Int):Prop:=∃ s,v=.agg #[.bool (zNeg z),s]∧RdI w s .u32 (digs 1000000000 z.natAbs)
def IO (w:World) (B:Nat) (e:TypeId) (v:Value) (z:Int):Prop:=∃ s,v=.agg #[.bool (zNeg z),s]∧Own w B e .u32 s (digs 1000000000 z.natAbs)
def NB (w:World) (B:Nat) (e:TypeId) (v:Value) (z:Int):Prop:=∃ s,v=.agg #[s,.bool (zNeg z)]∧Own w B e .u32 s (digs 1000000000 z.natAbs)
theorem ZB.len {z:Int} {k:Nat} (h:ZB z k):(digs 1000000000 z.natAbs).length≤k:=Qdm _ (by omega) _ _ h
theorem ZB.mono {z:Int} {j k:Nat} (h:ZB z j) (hk:j≤k):ZB z k:=Nat.lt_of_lt_of_le h (Nat.pow_le_pow_right (by omega) hk)
theorem QmA {a b:Nat} {m n:Nat} (h1:m<1000000000 ^ a) (h2:n<1000000000 ^ b):m+n<1000000000 ^ (a+b+1):=by
 have e1:1000000000 ^ a≤1000000000 ^ (a+b):=Nat.pow_le_pow_right (by omega) (by omega)
 have e2:1000000000 ^ b≤1000000000 ^ (a+b):=Nat.pow_le_pow_right (by omega) (by omega)
 rw [Nat.pow_succ]
 generalize 1000000000 ^ (a+b)=p at *
 omega
theorem ZB.add {y z:Int} {a b:Nat} (h1:ZB y a) (h2:ZB z b):ZB (y+z) (a+b+1) :=
 Nat.lt_of_le_of_lt (Qng y z) (QmA h1 h2)
theorem ZB.neg {z:Int} {a:Nat} (h:ZB z a):ZB (-z) a:=by unfold ZB; rw [Int.natAbs_neg]; exact h
theorem ZB.sub {y z:Int} {a b:Nat} (h1:ZB y a) (h2:ZB z b):ZB (y - z) (a+b+1):=by
 rw [Int.sub_eq_add_neg]; exact h1.add h2.neg
theorem ZB.zero (k:Nat):ZB 0 k:=Nat.pow_pos (by omega)
theorem ZB.one:ZB 1 1:=by unfold ZB; decide
theorem Qic (l:List Nat) (h:∀ x∈l,x<4294967296):val 1000000000 l<1000000000 ^ (l.length+1):=by
 have:val 1000000000 l+5≤5 * 1000000000 ^ l.length:=by
  induction l with
  | nil=>simp [val]
  | cons x l ih =>
   have h1:=ih fun y hy=>h y (List.mem_cons_of_mem _ hy)
   have h2:=h x List.mem_cons_self
   simp only [val,List.length_cons,Nat.pow_succ]
   generalize 1000000000 ^ l.length=p at *
   omega
 rw [Nat.pow_succ]
 generalize 1000000000 ^ l.length=p at *
 omega
theorem IV.keep {w w':World} {v:Value} {neg:Bool} {l:List Nat} (h:IV w v neg l) (hb:Below w.heap.size w w'):IV w' v neg l:=by
 obtain ⟨s,h1,h2,h3⟩:=h; exact ⟨s,h1,h2.keep hb,h3⟩
theorem IZ.keep {w w':World} {v:Value} {z:Int} {k:Nat} (h:IZ w v z k) (hb:Below w.heap.size w w'):IZ w' v z k:=by
 obtain ⟨neg,l,h1,h2⟩:=h; exact ⟨neg,l,h1.keep hb,h2⟩
theorem I2.keep {w w':World} {v:Value} {z:Int} (h:I2 w v z) (hb:Below w.heap.size w w'):I2 w' v z:=by
 obtain ⟨s,h1,h2⟩:=h; exact ⟨s,h1,h2.keep hb⟩
theorem IO.keep {w w':World} {B:Nat} {e:TypeId} {v:Value} {z:Int} (h:IO w B e v z) (hb:Below w.heap.size w w'):IO w' B e v z:=by
 obtain ⟨s,h1,h2⟩:=h; exact ⟨s,h1,h2.keep hb⟩
theorem NB.keep {w w':World} {B:Nat} {e:TypeId} {v:Value} {z:Int} (h:NB w B e v z) (hb:Below w.heap.size w w'):NB w' B e v z:=by
 obtain ⟨s,h1,h2⟩:=h; exact ⟨s,h1,h2.keep hb⟩
theorem IO.low {w:World} {B B':Nat} {e:TypeId} {v:Value} {z:Int} (h:IO w B e v z) (hB:B'≤B):IO w B' e v z:=by
 obtain ⟨s,h1,h2⟩:=h; exact ⟨s,h1,h2.low hB⟩
theorem NB.low {w:World} {B B':Nat} {e:TypeId} {v:Value} {z:Int} (h:NB w B e v z) (hB:B'≤B):NB w B' e v z:=by
 obtain ⟨s,h1,h2⟩:=h; exact ⟨s,h1,h2.low hB⟩
theorem IO.i2 {w:World} {B:Nat} {e:TypeId} {v:Value} {z:Int} (h:IO w B e v z):I2 w v z:=by
 obtain ⟨s,h1,h2⟩:=h; exact ⟨s,h1,h2.rd⟩
theorem QlY (n:Nat):∀ x∈digs 1000000000 n,x<4294967296:=fun x hx=>Nat.lt_trans (Qkh _ (by omega) _ x hx) (by omega)
theorem I2.iv {w:World} {v:Value} {z:Int} (h:I2 w v z):IV w v (zNeg z) (digs 1000000000 z.natAbs):=by
 obtain ⟨s,h1,h2⟩:=h; exact ⟨s,h1,h2,QlY _⟩
theorem IV.one {w:World} {v:Value} {neg:Bool} {l:List Nat} (h:IV w v neg l):∃ ao n ac,v=.agg #[.bool neg,.slice ao n ac]:=by
 obtain ⟨s,rfl,⟨ao,ac,rfl,_⟩,_⟩:=h; exact ⟨ao,_,ac,rfl⟩
theorem IV.sh {w:World} {v:Value} {neg:Bool} {l:List Nat} (h:IV w v neg l):∃ ao ac,v=.agg #[.bool neg,.slice ao l.length ac]:=by
 obtain ⟨s,rfl,⟨ao,ac,rfl,_⟩,_⟩:=h; exact ⟨ao,ac,rfl⟩
theorem IZ.one {w:World} {v:Value} {z:Int} {k:Nat} (h:IZ w v z k):∃ neg ao n ac,v=.agg #[.bool neg,.slice ao n ac]:=by
 obtain ⟨neg,l,h,_⟩:=h; exact ⟨neg,h.one⟩
theorem I2.one {w:World} {v:Value} {z:Int} (h:I2 w v z):∃ ao ac,v=.agg #[.bool (zNeg z),.slice ao (digs 1000000000 z.natAbs).length ac]:=by
 obtain ⟨s,rfl,⟨ao,ac,rfl,_⟩⟩:=h; exact ⟨ao,ac,rfl⟩
theorem IO.one {w:World} {B:Nat} {e:TypeId} {v:Value} {z:Int} (h:IO w B e v z):∃ ao ac,v=.agg #[.bool (zNeg z),.slice ao (digs 1000000000 z.natAbs).length ac]:=h.i2.one
theorem NB.one {w:World} {B:Nat} {e:TypeId} {v:Value} {z:Int} (h:NB w B e v z):∃ ao ac,v=.agg #[.slice ao (digs 1000000000 z.natAbs).length ac,.bool (zNeg z)]:=by
 obtain ⟨s,rfl,h2⟩:=h
 obtain ⟨ao,ac,rfl,_⟩:=h2.rd; exact ⟨ao,ac,rfl⟩
theorem NB.rd {w:World} {B:Nat} {e:TypeId} {s:Value} {t:Bool} {z:Int} (h:NB w B e (.agg #[s,.bool t]) z):RdI w s .u32 (digs 1000000000 z.natAbs):=by
 obtain ⟨s',h1,h2⟩:=h
 injection h1 with h1
 have:s=s':=by injection h1 with h1; injection h1
 subst this; exact h2.rd
theorem NB.own {w:World} {B:Nat} {e:TypeId} {s:Value} {t:Bool} {z:Int} (h:NB w B e (.agg #[s,.bool t]) z):Own w B e .u32 s (digs 1000000000 z.natAbs):=by
 obtain ⟨s',h1,h2⟩:=h
 injection h1 with h1
 have:s=s':=by injection h1 with h1; injection h1
 subst this; exact h2
theorem IV.rd {w:World} {s:Value} {t neg:Bool} {l:List Nat} (h:IV w (.agg #[.bool t,s]) neg l):RdI w s .u32 l:=by
 obtain ⟨s',h1,h2,_⟩:=h
 injection h1 with h1
 have:s=s':=by injection h1 with h1; injection h1 with _ h1; injection h1
 subst this; exact h2
theorem I2.rd {w:World} {s:Value} {t:Bool} {z:Int} (h:I2 w (.agg #[.bool t,s]) z):RdI w s .u32 (digs 1000000000 z.natAbs):=h.iv.rd
theorem IO.own {w:World} {B:Nat} {e:TypeId} {s:Value} {t:Bool} {z:Int} (h:IO w B e (.agg #[.bool t,s]) z):Own w B e .u32 s (digs 1000000000 z.natAbs):=by
 obtain ⟨s',h1,h2⟩:=h
 injection h1 with h1
 have:s=s':=by injection h1 with h1; injection h1 with _ h1; injection h1
 subst this; exact h2
theorem NB.drew {w:World} {B:Nat} {e:TypeId} {v:Value} {z:Int} (h:NB w B e v z):NB w.drew B e v z:=h
theorem NB.drewN {w:World} {B:Nat} {e:TypeId} {v:Value} {z:Int} (h:NB w B e v z) (n:Nat):NB (w.drewN n) B e v z:=h
theorem NB.alloc {w:World} {B:Nat} {e:TypeId} {v:Value} {z:Int} (h:NB w B e v z) (o:Obj):NB (w.alloc o) B e v z:=h.keep ((Below.refl _ _).alloc (Nat.le_refl _) _)
theorem NB.set {w:World} {B:Nat} {e:TypeId} {v:Value} {z:Int} (h:NB w B e v z) {a:Addr} (ha:a.block<B) (u:Value):NB (w.setCell a u) B e v z:=by
 obtain ⟨s,h1,h2⟩:=h; exact ⟨s,h1,h2.set ha u⟩
theorem IO.drew {w:World} {B:Nat} {e:TypeId} {v:Value} {z:Int} (h:IO w B e v z):IO w.drew B e v z:=h
theorem IO.alloc {w:World} {B:Nat} {e:TypeId} {v:Value} {z:Int} (h:IO w B e v z) (o:Obj):IO (w.alloc o) B e v z:=h.keep ((Below.refl _ _).alloc (Nat.le_refl _) _)
theorem IO.set {w:World} {B:Nat} {e:TypeId} {v:Value} {z:Int} (h:IO w B e v z) {a:Addr} (ha:a.block<B) (u:Value):IO (w.setCell a u) B e v z:=by
 obtain ⟨s,h1,h2⟩:=h; exact ⟨s,h1,h2.set ha u⟩
def OwnX (w:World) (B lo hi:Nat) (e:TypeId) (k:IntKind) (v:Value) (l:List Nat):Prop:=Own w B e k v l∧∀ ad n c,v=.slice (some ad) n c→ad.block<lo∨hi≤ad.block
theorem OwnX.keep {w w':World} {B lo hi:Nat} {e:TypeId} {k:IntKind} {v:Value} {l:List Nat} (h:OwnX w B lo hi e k v l) (hb:Below w.heap.size w w'):OwnX w' B lo hi e k v l:=⟨h.1.keep hb,h.2⟩
theorem OwnX.set {w:World} {B lo hi:Nat} {e:TypeId} {k:IntKind} {v:Value} {l:List Nat} {b:Nat} (h1:lo≤b) (h2:b<hi) (h:OwnX w B lo hi e k v l) (j:Nat) (u:Value):OwnX (w.setCell ⟨b,j,none⟩ u) B lo hi e k v l:=by
 obtain ⟨⟨h3,h4⟩,h5⟩:=h
 refine ⟨⟨h3,?_⟩,h5⟩
 rcases h4 with h4 | ⟨g,cap,cur,hv,hg,hh,r⟩
 · exact .inl h4
 · have:=h5 _ _ _ hv
   dsimp only at this
   exact .inr ⟨g,cap,cur,hv,hg,by rw [QfD w b j u g (by omega)]; exact hh,r⟩
def NBX (w:World) (B lo hi:Nat) (e:TypeId) (v:Value) (z:Int):Prop:=∃ s,v=.agg #[s,.bool (zNeg z)]∧OwnX w B lo hi e .u32 s (digs 1000000000 z.natAbs)
theorem NBX.nb {w:World} {B lo hi:Nat} {e:TypeId} {v:Value} {z:Int} (h:NBX w B lo hi e v z):NB w B e v z:=by
 obtain ⟨s,h1,h2⟩:=h; exact ⟨s,h1,h2.1⟩
theorem NBX.keep {w w':World} {B lo hi:Nat} {e:TypeId} {v:Value} {z:Int} (h:NBX w B lo hi e v z) (hb:Below w.heap.size w w'):NBX w' B lo hi e v z:=by
 obtain ⟨s,h1,h2⟩:=h; exact ⟨s,h1,h2.keep hb⟩
theorem NBX.set {w:World} {B lo hi:Nat} {e:TypeId} {v:Value} {z:Int} {b:Nat} (h1:lo≤b) (h2:b<hi) (h:NBX w B lo hi e v z) (j:Nat) (u:Value):NBX (w.setCell ⟨b,j,none⟩ u) B lo hi e v z:=by
 obtain ⟨s,h3,h4⟩:=h; exact ⟨s,h3,h4.set h1 h2 j u⟩
theorem NBX.drew {w:World} {B lo hi:Nat} {e:TypeId} {v:Value} {z:Int} (h:NBX w B lo hi e v z):NBX w.drew B lo hi e v z:=h
theorem NBX.alloc {w:World} {B lo hi:Nat} {e:TypeId} {v:Value} {z:Int} (h:NBX w B lo hi e v z) (o:Obj):NBX (w.alloc o) B lo hi e v z:=h.keep ((Below.refl _ _).alloc (Nat.le_refl _) _)
theorem NBX.low {w:World} {B B' lo hi:Nat} {e:TypeId} {v:Value} {z:Int} (h:NBX w B lo hi e v z) (hB:B'≤B):NBX w B' lo hi e v z:=by
 obtain ⟨s,h1,h2,h3⟩:=h; exact ⟨s,h1,h2.low hB,h3⟩
theorem NBX.one {w:World} {B lo hi:Nat} {e:TypeId} {v:Value} {z:Int} (h:NBX w B lo hi e v z):∃ ao ac,v=.agg #[.slice ao (digs 1000000000 z.natAbs).length ac,.bool (zNeg z)]:=h.nb.one
def IOX (w:World) (B lo hi:Nat) (e:TypeId) (v:Value) (z:Int):Prop:=∃ s,v=.agg #[.bool (zNeg z),s]∧OwnX w B lo hi e .u32 s (digs 1000000000 z.natAbs)
theorem IOX.io {w:World} {B lo hi:Nat} {e:TypeId} {v:Value} {z:Int} (h:IOX w B lo hi e v z):IO w B e v z:=by
 obtain ⟨s,h1,h2⟩:=h; exact ⟨s,h1,h2.1⟩
theorem IOX.keep {w w':World} {B lo hi:Nat} {e:TypeId} {v:Value} {z:Int} (h:IOX w B lo hi e v z) (hb:Below w.heap.size w w'):IOX w' B lo hi e v z:=by
 obtain ⟨s,h1,h2⟩:=h; exact ⟨s,h1,h2.keep hb⟩
theorem IOX.set {w:World} {B lo hi:Nat} {e:TypeId} {v:Value} {z:Int} {b:Nat} (h1:lo≤b) (h2:b<hi) (h:IOX w B lo hi e v z) (j:Nat) (u:Value):IOX (w.setCell ⟨b,j,none⟩ u) B lo hi e v z:=by
 obtain ⟨s,h3,h4⟩:=h; exact ⟨s,h3,h4.set h1 h2 j u⟩
theorem IOX.drew {w:World} {B lo hi:Nat} {e:TypeId} {v:Value} {z:Int} (h:IOX w B lo hi e v z):IOX w.drew B lo hi e v z:=h
theorem IOX.alloc {w:World} {B lo hi:Nat} {e:TypeId} {v:Value} {z:Int} (h:IOX w B lo hi e v z) (o:Obj):IOX (w.alloc o) B lo hi e v z:=h.keep ((Below.refl _ _).alloc (Nat.le_refl _) _)
theorem IOX.one {w:World} {B lo hi:Nat} {e:TypeId} {v:Value} {z:Int} (h:IOX w B lo hi e v z):∃ ao ac,v=.agg #[.bool (zNeg z),.slice ao (digs 1000000000 z.natAbs).length ac]:=h.io.one
theorem NBX.own {w:World} {B lo hi:Nat} {e:TypeId} {s:Value} {t:Bool} {z:Int} (h:NBX w B lo hi e (.agg #[s,.bool t]) z):OwnX w B lo hi e .u32 s (digs 1000000000 z.natAbs):=by
 obtain ⟨s',h1,h2⟩:=h
 injection h1 with h1
 have:s=s':=by injection h1 with h1; injection h1
 subst this; exact h2
def sgnAt (L:List (Bool × List Nat)) (i:Nat):Bool:=(L.getD i (false,[])).1
def limAt (L:List (Bool × List Nat)) (i:Nat):List Nat:=(L.getD i (false,[])).2
def RdZ (w:World) (v:Value) (L:List (Bool × List Nat)):Prop :=
 ∃ ao cap,v=.slice ao L.length cap∧L.length≤cap∧cap≤maxLen ∧
  ∀ i,i<L.length→∃ ad s,ao=some ad∧w.cell? (ad.add (i * 2))=some (.bool (sgnAt L i))∧w.cell? ⟨(ad.add (i * 2)).block,(ad.add (i * 2)).off+1,none⟩=some s∧RdI w s .u32 (limAt L i)∧∀ x∈limAt L i,x<4294967296
theorem RdZ.keep {w w':World} {v:Value} {L:List (Bool × List Nat)} (h:RdZ w v L) (hb:Below w.heap.size w w'):RdZ w' v L:=by
 obtain ⟨ao,cap,h1,h2,h3,h4⟩:=h
 refine ⟨ao,cap,h1,h2,h3,fun i hi=>?_⟩
 obtain ⟨ad,s,h5,h6,h7,h8,h9⟩:=h4 i hi
 exact ⟨ad,s,h5,(hb.cell (World.block_lt_of_cell? w _ h6)).trans h6,(hb.cell (World.block_lt_of_cell? w _ h7)).trans h7,h8.keep hb,h9⟩
theorem RdZ.sl {w:World} {v:Value} {L:List (Bool × List Nat)} (h:RdZ w v L):∃ ao ac,v=.slice ao L.length ac:=by
 obtain ⟨ao,ac,h,_⟩:=h; exact ⟨ao,ac,h⟩
theorem zV_zb (neg:Bool) (l:List Nat) (h:∀ x∈l,x<4294967296):ZB (zV neg l) (l.length+1):=by
 unfold ZB zV; rw [QgR]; exact Qic l h
end Go.Proofs.YtijfaigpilfpaaaGreatDoor
