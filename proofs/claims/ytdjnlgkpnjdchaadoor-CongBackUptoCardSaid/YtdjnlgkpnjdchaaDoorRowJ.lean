/- Terms that came in: their kinds are bytes, their limbs short. -/
import Derived.Test.YtdjnlgkpnjdchaaDoorRowI
import Derived.Test.YtdjnlgkpnjdchaaDoorKx
namespace Go.Proofs.YtdjnlgkpnjdchaaDoor
open Go.ChangeShapes Go.WideShapes Go.ChangeAt Go.RowKit Go.Deep
set_option linter.unusedVariables false
set_option maxRecDepth 100000
mutual
def badT:Tw→Nat
 | .mk k _ _ d l=>(if (0≤k∧k≤255)∧∀ x∈d,x<4294967296 then 0 else 1)+badTL l
def badTL:List Tw→Nat
 | []=>0
 | t::l=>badT t+badTL l
end
mutual
theorem bad_kind:∀ (t:Tw),badT t=0→kindR t
 | .mk k _ _ d l,h=>by
  rw [badT] at h
  split at h
  · rename_i hk
    exact ⟨hk,bad_kindL l (by omega)⟩
  · omega
theorem bad_kindL:∀ (l:List Tw),badTL l=0→kindRL l
 | [],_=>trivial
 | t::l,h=>by
  rw [badTL] at h
  exact ⟨bad_kind t (by omega),bad_kindL l (by omega)⟩
end
def cntKi (t:Tw):Nat:=cntT t+1000000000 * badT t
theorem cntKi_sum:∀ l:List Tw,(l.map cntKi).sum=cntTL l+1000000000 * badTL l
 | []=>rfl
 | t::l=>by rw [List.map_cons,List.sum_cons,cntKi_sum l,cntTL,badTL,cntKi]; omega
section
variable {H : Type} {enc : TypeId × Value → H} {W : World}
theorem term_inK:∀ (N fuel:Nat) (cs:List Value) (x:DataW H × List MemPlace),Rows.uptoBulk x.1<N→DataW.trod enc Tryd.prog W 0 (fun _=>true) true fuel 28 cs=some x →
  ∃ q:Tw,InE W .tm cs q∧cntKi q≤Rows.uptoBulk x.1
 | 0,_,_,_,hN,_=>absurd hN (Nat.not_lt_zero _)
 | N+1,fuel,cs,x,hN,h=>by
  obtain ⟨xs,n,_,rfl,hl,hxl,hf⟩:=DataW.trod_struct Tryd.underlying28 h
  rw [cellsTerm'] at hl
  match xs,hxl,cs,hl with
  | [y0,y1,y2,y3],_,[c0,c1,c2,c3,c4],_ =>
   have g0:DataW.trod enc Tryd.prog W 0 (fun _=>true) true n 23 (([c0,c1,c2,c3,c4].drop 0).take (Tryd.prog.cellsOf 23))=some y0:=hf 0 _ rfl
   have g1:DataW.trod enc Tryd.prog W 0 (fun _=>true) true n 9 (([c0,c1,c2,c3,c4].drop 1).take (Tryd.prog.cellsOf 9))=some y1:=hf 1 _ rfl
   have g2:DataW.trod enc Tryd.prog W 0 (fun _=>true) true n 26 (([c0,c1,c2,c3,c4].drop 2).take (Tryd.prog.cellsOf 26))=some y2:=hf 2 _ rfl
   have g3:DataW.trod enc Tryd.prog W 0 (fun _=>true) true n 22 (([c0,c1,c2,c3,c4].drop 4).take (Tryd.prog.cellsOf 22))=some y3:=hf 3 _ rfl
   rw [cellsKind'] at g0
   rw [cellsStr'] at g1
   rw [cellsInt'] at g2
   rw [cellsTerms'] at g3
   simp only [List.drop_zero,List.drop_succ_cons,List.take_succ_cons,List.take_zero] at g0 g1 g2 g3
   obtain ⟨k,hk,_,hkw⟩:=DataW.trod_int Tryd.underlying23 g0
   obtain ⟨s,hs,b1⟩:=str_in g1
   obtain ⟨b,v,l,hi,r2,b2⟩:=int_in g2
   have hB:Rows.uptoBulk (DataW.agg ([y0,y1,y2,y3].map (·.1)))=Rows.uptoBulk y0.1+(Rows.uptoBulk y1.1+(Rows.uptoBulk y2.1+(Rows.uptoBulk y3.1+0)))+1:=rfl
   have p0:=bulk_pos y0.1
   rw [hB] at hN ⊢
   obtain ⟨u,m,hu,r3,b3⟩:=row_in (s:=.tm) Tryd.underlying22 cellsTerm' cntKi (fun n cs y hy ht=>term_inK N n cs y (by omega) ht) g3
   have hdr:∀ x∈l,x<4294967296:=by
    cases r2 with
    | sl _ hg=>exact hg.2
   have hkr:0≤k∧k≤255:=by
    have e1:IntKind.u8.min=0:=rfl
    have e2:IntKind.u8.max=255:=rfl
    simp [Lit.wf,e1,e2] at hkw
    omega
   cases hk; cases hs; cases hi; cases hu
   refine ⟨.mk k s b l m,⟨rfl,fun j x hj=>?_⟩,?_⟩
   · match j,hj with
     | 0,hj=>cases hj; exact ⟨_,rfl,.v _ rfl⟩
     | 1,hj=>cases hj; exact ⟨_,rfl,.v _ rfl⟩
     | 2,hj=>cases hj; exact ⟨_,rfl,.v _ rfl⟩
     | 3,hj=>cases hj; exact ⟨_,rfl,r2⟩
     | 4,hj=>cases hj; exact ⟨_,rfl,r3⟩
     | j+5,hj=>cases hj
   · rw [cntKi_sum] at b3
     rw [cntKi,cntT,badT,if_pos ⟨hkr,hdr⟩]
     omega
theorem terms_atK {base:Nat} {v:Value} {d:DataW H} {p:List MemPlace} (hv:Value.okWide Tryd.prog W .any base 22 v) (h:DataW.Trod enc Tryd.prog W 0 (fun _=>true) true 22 v d p):∃ l,PR (H0 W) B0 v (.f (.dt .tm l))∧cntTL l+1000000000 * badTL l+1≤Rows.uptoBulk d:=by
 obtain ⟨a0,len0,cap0,rfl⟩:=okWide_slice Tryd.underlying22 hv
 obtain ⟨fuel,hf⟩:=h
 obtain ⟨v',l,h1,h2,h3⟩:=row_in (s:=.tm) Tryd.underlying22 cellsTerm' cntKi (fun n cs y _ ht=>term_inK _ n cs y (Nat.lt_succ_self _) ht) hf
 obtain rfl:Value.slice a0 len0 cap0=v':=by simpa [Value.cells] using h1
 rw [cntKi_sum] at h3
 exact ⟨l,.f h2,h3⟩
theorem term_atK {base:Nat} {v:Value} {d:DataW H} {p:List MemPlace} (hv:Value.okWide Tryd.prog W .any base 28 v) (h:DataW.Trod enc Tryd.prog W 0 (fun _=>true) true 28 v d p):∃ q,PR (H0 W) B0 v (tmP q)∧cntT q+1000000000 * badT q≤Rows.uptoBulk d:=by
 obtain ⟨cs,rfl,hsz⟩:=okWide_struct Tryd.underlying28 hv
 obtain ⟨fuel,hf⟩:=h
 obtain ⟨q,h1,h2⟩:=term_inK _ _ _ _ (Nat.lt_succ_self _) hf
 exact ⟨q,agg_in rfl h1,h2⟩
end
end Go.Proofs.YtdjnlgkpnjdchaaDoor
