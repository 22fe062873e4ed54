/- Terms that came in: their kinds are bytes, their limbs short. -/
import Derived.Test.YtemhncjjiomppaaGreatDoorRowI
import Derived.Test.YtemhncjjiomppaaGreatDoorKx
set_option linter.unusedSimpArgs false
namespace Go.Proofs.YtemhncjjiomppaaGreatDoor
open Go.ChangeShapes Go.WideShapes Go.ChangeAt Go.RowKit Go.Deep
set_option linter.unusedVariables false
set_option maxRecDepth 100000
mutual
def badT:Tw→Nat
 | .mk k _ _ d l=>(if (0≤k∧k≤255)∧∀ x∈d,x<4294967296 then 0 else 1)+QlW l
def QlW:List Tw→Nat
 | []=>0
 | t::l=>badT t+QlW l
end
mutual
theorem Qi4:∀ (t:Tw),badT t=0→QaZ t
 | .mk k _ _ d l,h=>by
  rw [badT] at h
  split at h
  · rename_i hk
    exact ⟨hk,QgR l (by omega)⟩
  · omega
theorem QgR:∀ (l:List Tw),QlW l=0→QdG l
 | [],_=>trivial
 | t::l,h=>by
  rw [QlW] at h
  exact ⟨Qi4 t (by omega),QgR l (by omega)⟩
end
def QoB (t:Tw):Nat:=cntT t+1000000000 * badT t
theorem QgG:∀ l:List Tw,(l.map QoB).sum=QaF l+1000000000 * QlW l
 | []=>rfl
 | t::l=>by rw [List.map_cons,List.sum_cons,QgG l,QaF,QlW,QoB]; omega
section
variable {H : Type} {enc : TypeId × Value → H} {W : World}
theorem Qh1:∀ (N fuel:Nat) (cs:List Value) (x:DataW H × List MemPlace),Rows.uptoBulk x.1<N→DataW.trod enc Tryz.prog W 0 (fun _=>true) true fuel 28 cs=some x →
  ∃ q:Tw,InE W .tm cs q∧QoB q≤Rows.uptoBulk x.1
 | 0,_,_,_,hN,_=>absurd hN (Nat.not_lt_zero _)
 | N+1,fuel,cs,x,hN,h=>by
  obtain ⟨xs,n,_,rfl,hl,hxl,hf⟩:=DataW.trod_struct Tryz.underlying28 h
  rw [QeU] at hl
  match xs,hxl,cs,hl with
  | [y0,y1,y2,y3],_,[c0,c1,c2,c3,c4],_ =>
   have g0:DataW.trod enc Tryz.prog W 0 (fun _=>true) true n 22 (([c0,c1,c2,c3,c4].drop 0).take (Tryz.prog.cellsOf 22))=some y0:=hf 0 _ rfl
   have g1:DataW.trod enc Tryz.prog W 0 (fun _=>true) true n 9 (([c0,c1,c2,c3,c4].drop 1).take (Tryz.prog.cellsOf 9))=some y1:=hf 1 _ rfl
   have g2:DataW.trod enc Tryz.prog W 0 (fun _=>true) true n 25 (([c0,c1,c2,c3,c4].drop 2).take (Tryz.prog.cellsOf 25))=some y2:=hf 2 _ rfl
   have g3:DataW.trod enc Tryz.prog W 0 (fun _=>true) true n 26 (([c0,c1,c2,c3,c4].drop 4).take (Tryz.prog.cellsOf 26))=some y3:=hf 3 _ rfl
   rw [QoE] at g0
   rw [QbZ] at g1
   rw [QgI] at g2
   rw [QlM] at g3
   simp only [List.drop_zero,List.drop_succ_cons,List.take_succ_cons,List.take_zero] at g0 g1 g2 g3
   obtain ⟨k,hk,_,hkw⟩:=DataW.trod_int Tryz.underlying22 g0
   obtain ⟨s,hs,b1⟩:=Qd4 g1
   obtain ⟨b,v,l,hi,r2,b2⟩:=Qtd g2
   have hB:Rows.uptoBulk (DataW.agg ([y0,y1,y2,y3].map (·.1)))=Rows.uptoBulk y0.1+(Rows.uptoBulk y1.1+(Rows.uptoBulk y2.1+(Rows.uptoBulk y3.1+0)))+1:=rfl
   have p0:=QiZ y0.1
   rw [hB] at hN ⊢
   obtain ⟨u,m,hu,r3,b3⟩:=QeY (s:=.tm) Tryz.underlying26 QeU QoB (fun n cs y hy ht=>Qh1 N n cs y (by omega) ht) g3
   have hdr:∀ x∈l,x<4294967296:=by
    cases r2 with
    | sl _ hg=>exact hg.2
   have hkr:0≤k∧k≤255:=by
    have e1:IntKind.u8.min=0:=rfl
    have e2:IntKind.u8.max=255:=rfl
    simp [Lit.wf,e1,e2] at hkw
    omega
   cases hk; cases hs; cases hi; cases hu
   refine ⟨.mk k s b l m,⟨rfl,fun j x hj=>?_⟩,?_⟩
   · match j,hj with
     | 0,hj=>cases hj; exact ⟨_,rfl,.v _ rfl⟩
     | 1,hj=>cases hj; exact ⟨_,rfl,.v _ rfl⟩
     | 2,hj=>cases hj; exact ⟨_,rfl,.v _ rfl⟩
     | 3,hj=>cases hj; exact ⟨_,rfl,r2⟩
     | 4,hj=>cases hj; exact ⟨_,rfl,r3⟩
     | j+5,hj=>cases hj
   · rw [QgG] at b3
     rw [QoB,cntT,badT,if_pos ⟨hkr,hdr⟩]
     omega
theorem Qo3 {base:Nat} {v:Value} {d:DataW H} {p:List MemPlace} (hv:Value.okWide Tryz.prog W .any base 26 v) (h:DataW.Trod enc Tryz.prog W 0 (fun _=>true) true 26 v d p):∃ l,PR (H0 W) B0 v (.f (.dt .tm l))∧QaF l+1000000000 * QlW l+1≤Rows.uptoBulk d:=by
 obtain ⟨a0,len0,cap0,rfl⟩:=okWide_slice Tryz.underlying26 hv
 obtain ⟨fuel,hf⟩:=h
 obtain ⟨v',l,h1,h2,h3⟩:=QeY (s:=.tm) Tryz.underlying26 QeU QoB (fun n cs y _ ht=>Qh1 _ n cs y (Nat.lt_succ_self _) ht) hf
 obtain rfl:Value.slice a0 len0 cap0=v':=by simpa [Value.cells] using h1
 rw [QgG] at h3
 exact ⟨l,.f h2,h3⟩
theorem Ql7 {base:Nat} {v:Value} {d:DataW H} {p:List MemPlace} (hv:Value.okWide Tryz.prog W .any base 28 v) (h:DataW.Trod enc Tryz.prog W 0 (fun _=>true) true 28 v d p):∃ q,PR (H0 W) B0 v (tmP q)∧cntT q+1000000000 * badT q≤Rows.uptoBulk d:=by
 obtain ⟨cs,rfl,hsz⟩:=okWide_struct Tryz.underlying28 hv
 obtain ⟨fuel,hf⟩:=h
 obtain ⟨q,h1,h2⟩:=Qh1 _ _ _ _ (Nat.lt_succ_self _) hf
 exact ⟨q,agg_in rfl h1,h2⟩
end
end Go.Proofs.YtemhncjjiomppaaGreatDoor
