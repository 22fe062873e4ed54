/- A range over a function that goes through a slice from its end: the pure run of it. -/
import Derived.Test.YtdeacbdpmdfgdaaDoorVc
import Derived.RangeFuncRecord
import Derived.TacticsIn
namespace Go.Proofs.YtdeacbdpmdfgdaaDoor
set_option linter.unusedVariables false
open Go.RowKit
section
variable {P : Program} {F : Fence} {n : Nat}
end
section
variable {P : Program} {Γ : Specs} {Λ : Loops} {m n0 n : Nat} {w0 : Cx} {H0 : Hp} {F : Fence}
end
section
variable {P : Program} {F : Fence} {n m : Nat} {w0 : Cx} {H0 : Hp}
structure XL (l:Nat) (r:Obj) (g:Gh) (w:World):Prop where
 at_:w.heap[l]?=some r
 ob:∀ o u,g.B o=some u→blk u≠some l
 no:∀ j,g.H l j=none
theorem XL.lt {l:Nat} {r:Obj} {g:Gh} {w:World} (h:XL l r g w):l<w.heap.size:=(Array.getElem?_eq_some_iff.1 h.at_).1
def cxL (c:Cx) (l n:Nat) (w:World) (g:Gh):Cx:=⟨fun b=>c.K b∨b=l,w,fun o=>if o<n then g.B o else none,[]⟩
structure ItSt {α:Type} (c:Cx) (H1:Hp) (m1:Nat) (env:List (Nat × PV)) (av:Act) (obR:α→List PO) (I:Nat→α→Prop) (l nn:Nat) (r:Obj) (i:Nat) (e:List (Nat × PV)) (a:Act) (w:World):Prop where
 out:∃ y g0 W0 g1,I i y∧Real c H1 m1 ⟨env,obR y⟩ g0 av W0∧XL l r g0 W0∧Real (cxL c l nn W0 g0) g0.H 19 ⟨e,obR y⟩ g1 a w
structure ItA (yl pv:Value) (i:Int) (a:Act):Prop where
 sz:a.tmps.size=19
 dfr:a.defers=[]
 t0:a.tmps.getD 0 undef=yl
 t1:a.tmps.getD 1 undef=pv
 t3:a.tmps.getD 3 undef=.int .i64 i
theorem ItSt.a {α:Type} {c:Cx} {H1:Hp} {m1:Nat} {env:List (Nat × PV)} {av:Act} {obR:α→List PO} {I:Nat→α→Prop} {l nn:Nat} {r:Obj} {i:Nat} {e:List (Nat × PV)} {a:Act} {w:World} (h:ItSt c H1 m1 env av obR I l nn r i e a w) {o b:Nat} (hp:c.B o=some (.pointer (some ⟨b,0,none⟩))) {yl:Value} {j:Int} (hcn:∀ o u,c.B o=some u→o<nn) (h0:look e 0=some (.f (.v yl))) (h1:look e 1=some (.bp o 0)) (h3:look e 3=some (.f (.v (.int .i64 j)))):ItA yl (.pointer (some ⟨b,0,none⟩)) j a:=by
 obtain ⟨y,g0,W0,g1,_,q2,_,q4⟩:=h.out
 refine ⟨q4.sz,q4.dfr,(q4.env 0 _ h0).val,?_,(q4.env 3 _ h3).val⟩
 have h5:=q4.env 1 _ h1
 have h6:=q4.ptr o _ ⟨(if_pos (hcn o _ hp)).trans (q2.ptr o _ ⟨hp,rfl⟩),rfl⟩
 generalize a.tmps.getD 1 undef=v at h5
 cases h5 with
 | bp hb=>rw [h6] at hb; cases hb; rfl
theorem ItA.put {yl pv v:Value} {j:Int} {a:Act} {d:Nat} (h:ItA yl pv j a) (h0:d≠0) (h1:d≠1) (h3:d≠3):ItA yl pv j (a.put (some d) v):=by
 refine ⟨by simp [Act.put,h.sz],h.dfr,?_,?_,?_⟩
 · rw [getD_put,if_neg (fun hc=>h0 hc.1.symm)]; exact h.t0
 · rw [getD_put,if_neg (fun hc=>h1 hc.1.symm)]; exact h.t1
 · rw [getD_put,if_neg (fun hc=>h3 hc.1.symm)]; exact h.t3
end
end Go.Proofs.YtdeacbdpmdfgdaaDoor
