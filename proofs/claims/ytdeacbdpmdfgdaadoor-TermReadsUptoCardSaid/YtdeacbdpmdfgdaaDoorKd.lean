/- The text of a term: Key tells it. -/
import Derived.Test.YtdeacbdpmdfgdaaDoorKc
namespace Go.Proofs.YtdeacbdpmdfgdaaDoor
open Go.RowKit
set_option linter.unusedVariables false
set_option maxRecDepth 100000
theorem keyB_ne:∀ t:Tw,keyB t≠[]
 | .mk k n b d l=>by
  rw [keyB]
  intro h
  exact decC_ne _ (List.append_eq_nil_iff.1 h).1
def sKey:Spec
 | [x]=>match tmOf x with
  | some t=>some (some (kindR t∧t.fitT∧(keyB t).length≤140737488355328),.one (sV (keyS t)))
  | none=>none
 | _=>none
theorem bytes_of {l:List UInt8}:flatV 1 (l.map fun b=>(b.toNat:Int)).length (fun q _=>.int .u8 ((l.map fun b=>(b.toNat:Int)).getD q 0))=Lib.byteCells l:=by
 apply List.ext_getElem?
 intro j
 unfold flatV Lib.byteCells
 simp only [Nat.mul_one,List.getElem?_map,List.length_map,Nat.div_one]
 by_cases hj:j<l.length
 · rw [List.getElem?_range hj,List.getElem?_eq_getElem hj]
   simp only [Option.map_some,List.getD_eq_getElem?_getD,List.getElem?_map,List.getElem?_eq_getElem hj,Option.getD_some]
 · rw [List.getElem?_eq_none (by simpa using hj),List.getElem?_eq_none (by simpa using hj)]
   rfl
def keyW (w:World) (u0 u1 u2 u3 u4:Value):World:=(w.alloc (.cells #[u0,u1,u2,u3,u4] 28)).alloc (.cells #[.pointer none,.slice none 0 0] 70)
theorem keyW_size1 (w:World) (o:Obj):(w.alloc o).heap.size=w.heap.size+1:=by simp
theorem keyW_new (w:World) (u0 u1 u2 u3 u4:Value):(keyW w u0 u1 u2 u3 u4).heap[w.heap.size+1]?=some (.cells #[.pointer none,.slice none 0 0] 70 (0,0)):=by
 have:=heap_alloc_new (w.alloc (.cells #[u0,u1,u2,u3,u4] 28)) (.cells #[.pointer none,.slice none 0 0] 70)
 rw [keyW_size1] at this
 exact this
theorem keyW_old (w:World) (u0 u1 u2 u3 u4:Value):(keyW w u0 u1 u2 u3 u4).heap[w.heap.size]?=some (.cells #[u0,u1,u2,u3,u4] 28 (0,0)):=by
 refine (heap_alloc_old (w.alloc (.cells #[u0,u1,u2,u3,u4] 28)) _ ?_).trans (heap_alloc_new w _)
 rw [keyW_size1]; omega
set_option maxHeartbeats 2000000 in
theorem cKey {E:Env} (hU:Up E) (hT:∀ K w H,E K w H→Tab w):Contract Tryd.prog E 8 sKey:=by
 intro xs p r hs hp w H vs hfro hE hvs
 unfold sKey at hs
 split at hs
 · rename_i x
   split at hs
   · rename_i t ht
     cases hs
     obtain ⟨hk,hf,hl⟩:=hp _ rfl
     obtain ⟨v0,rfl⟩:∃ v0,vs=[v0]:=by
      match vs,hvs.1 with
      | [v0],_=>exact ⟨v0,rfl⟩
     have q0:=(tm_sub ht).out _ _ _ (hvs.2 0 _ _ rfl rfl)
     obtain ⟨us,rfl,hus⟩:=PRs.of_agg q0
     obtain ⟨u0,u1,u2,u3,u4,rfl⟩:∃ u0 u1 u2 u3 u4,us=[u0,u1,u2,u3,u4]:=by
      have hl5:=hus.1
      match us,hl5 with
      | [u0,u1,u2,u3,u4],_=>exact ⟨u0,u1,u2,u3,u4,rfl⟩
     have hfz:∀ j,H (w.heap.size+1) j=none:=fun j=>by
      cases hh:H (w.heap.size+1) j with
      | none=>rfl
      | some u=>have:=hfro.lt hh; omega
     have hbel:Below w.heap.size w (keyW w u0 u1 u2 u3 u4):=((Below.refl _ _).alloc (Nat.le_refl _) _).alloc (by rw [keyW_size1]; omega) _
     have hfro1:Fro H (keyW w u0 u1 u2 u3 u4):=fun b j v hv=>(hbel.cell (p:=⟨b,j,none⟩) (hfro.lt hv)).trans (hfro b j v hv)
     have hext:Ext w H (keyW w u0 u1 u2 u3 u4) H:=⟨hbel,H.le_refl,hfro1,fun b j v h1 h2=>by rw [h1] at h2; cases h2⟩
     have hE1:=hU.go (Cx.of w) H _ H ((ExtK.refl (c:=Cx.of w) hfro (fun b hb=>hb)).trans hext) hE
     have hnew:=keyW_new w u0 u1 u2 u3 u4
     have hold:=keyW_old w u0 u1 u2 u3 u4
     let g:Gh:=⟨H,fun o=>match o with | 0=>some (.pointer (some ⟨w.heap.size+1,0,none⟩)) | 1=>some (.slice none 0 0) | _=>none⟩
     have hO:Obs (Cx.of w).K [.bld 70 (.tl 1 (.is .u8 [])),.tail 5 1] g (keyW w u0 u1 u2 u3 u4):=by
      have key:∀ o u,g.B o=some u→(o=0∧u=.pointer (some ⟨w.heap.size+1,0,none⟩))∨(o=1∧u=.slice none 0 0):=fun o u hu=>by
       match o with
       | 0=>cases hu; exact .inl ⟨rfl,rfl⟩
       | 1=>cases hu; exact .inr ⟨rfl,rfl⟩
       | o+2=>cases hu
      refine ⟨hfro1,fun o u b hu hb=>?_,fun o x u hx hu=>?_,fun o o' u u' b hne hu hu' hb hb'=>?_,fun o u hu=>?_,fun o u b hu hb=>?_⟩
      · rcases key o u hu with ⟨rfl,rfl⟩ | ⟨rfl,rfl⟩
        · cases hb
          exact (Array.getElem?_eq_some_iff.1 hnew).1
        · cases hb
      · rcases key o u hu with ⟨rfl,rfl⟩ | ⟨rfl,rfl⟩
        · cases hx
          exact ⟨w.heap.size+1,.pointer none,.slice none 0 0,rfl,hnew,.inl rfl,.tl (.slf (fun _=>rfl) (f:=.is .u8 []) rfl trivial (Nat.le_refl _) (by unfold maxLen; omega) (fun _=>rfl) 0 0 (fun _ _=>undef) (fun hc=>absurd hc (Nat.lt_irrefl 0)) (fun i hi=>absurd hi (Nat.not_lt_zero i)) (fun i hi=>absurd hi (Nat.not_lt_zero i)) (fun i hi=>absurd hi (Nat.not_lt_zero i))) rfl,Nat.zero_le _,hfz⟩
        · cases hx
          exact .inl rfl
      · rcases key o u hu with ⟨rfl,rfl⟩ | ⟨rfl,rfl⟩ <;> rcases key o' u' hu' with ⟨rfl,rfl⟩ | ⟨rfl,rfl⟩
        · exact hne rfl
        · cases hb'
        · cases hb
        · exact hne rfl
      · rcases key o u hu with ⟨rfl,rfl⟩ | ⟨rfl,rfl⟩ <;> decide
      · rcases key o u hu with ⟨rfl,rfl⟩ | ⟨rfl,rfl⟩
        · cases hb
          exact Nat.not_lt.2 (Nat.le_succ _)
        · cases hb
     have hterm:=cTermW hU hT [.bp 0 0,tmP t] [.bld 70 (.tl 1 (.is .u8 [])),.tail 5 1] _ rfl (by
       rw [Tw.eta]
       exact ⟨⟨hk,hf,by simpa using hl⟩,trivial⟩) (Cx.of w).K (keyW w u0 u1 u2 u3 u4) g [.pointer (some ⟨w.heap.size+1,0,none⟩),.agg [u0,u1,u2,u3,u4].toArray]
      (fun b hb=>Nat.lt_of_lt_of_le hb hbel.size) hO (fun i hi=>by
       match i with
       | 0=>exact ⟨_,rfl⟩
       | 1=>exact ⟨_,rfl⟩) hE1 (.cons (.bp rfl) (.cons ((PRs.agg hus).mono H.le_refl (B0.le _)) .nil))
     rw [Tw.eta] at hterm
     have HT:=Lib.hid hterm
     clear hterm
     have c0:((w.alloc (.cells #[u0,u1,u2,u3,u4] 28)).alloc (.cells #[.pointer none,.slice none 0 0] 70)).cell? ⟨w.heap.size,0,none⟩=some u0:=Lib.cell_of_heap hold 0
     have c1:((w.alloc (.cells #[u0,u1,u2,u3,u4] 28)).alloc (.cells #[.pointer none,.slice none 0 0] 70)).cell? ⟨w.heap.size,1,none⟩=some u1:=Lib.cell_of_heap hold 1
     have c2:((w.alloc (.cells #[u0,u1,u2,u3,u4] 28)).alloc (.cells #[.pointer none,.slice none 0 0] 70)).cell? ⟨w.heap.size,2,none⟩=some u2:=Lib.cell_of_heap hold 2
     have c3:((w.alloc (.cells #[u0,u1,u2,u3,u4] 28)).alloc (.cells #[.pointer none,.slice none 0 0] 70)).cell? ⟨w.heap.size,3,none⟩=some u3:=Lib.cell_of_heap hold 3
     have c4:((w.alloc (.cells #[u0,u1,u2,u3,u4] 28)).alloc (.cells #[.pointer none,.slice none 0 0] 70)).cell? ⟨w.heap.size,4,none⟩=some u4:=Lib.cell_of_heap hold 4
     go_enter Tryd.func8,Tryd.ntmps8
     go_wp2_with (go_at_call 27; refine HT.out.mono ?_)
     rintro e w2 ⟨g2,v,hx2,hO2,hf2,hp2,hv2,rfl⟩
     obtain ⟨us,rfl,hus⟩:=PRs.of_tup hv2
     have hus0:us=[]:=List.length_eq_zero_iff.1 hus.1
     subst hus0
     have hB2:g2.B 0=some (.pointer (some ⟨w.heap.size+1,0,none⟩)):=hp2 0 _ ⟨rfl,rfl⟩
     obtain ⟨b',p,v,e0,k1,k2,k3,k4,k5⟩:=hO2.hold 0 _ _ rfl hB2
     cases e0
     have hown:w2.ownsRow w.heap.size 5 1 v (keyB t).length (Lib.byteCells (keyB t)):=by
      cases k3 with
      | tl hrd hB =>
       have hh:=hO2.hold 1 _ _ rfl hB
       obtain ⟨ao,cap,val,rfl,hcap,h0,hl1,hr1,b1,o1,hb1,hcell1⟩:=rd_row hrd rfl
       have hval:∀ q,q<([]++keyI t:List Int).length→val q 0=.int .u8 (([]++keyI t:List Int).getD q 0):=fun q hq=>(hr1 q hq 0 _ rfl).val rfl
       have hfl:flatV 1 ([]++keyI t:List Int).length val=Lib.byteCells (keyB t):=by
        rw [← bytes_of]
        apply List.ext_getElem?
        intro j
        by_cases hj:j<([]++keyI t:List Int).length * 1
        · rw [flatV_get hj]
          have hj':j<((keyB t).map fun b=>(b.toNat:Int)).length * 1:=hj
          rw [flatV_get hj',Nat.mod_one,Nat.div_one,hval j (by omega)]; rfl
        · rw [List.getElem?_eq_none (by rw [flatV_len]; omega),List.getElem?_eq_none (by rw [flatV_len]; exact Nat.le_of_not_lt hj)]
       have hlen:([]++keyI t:List Int).length=(keyB t).length:=by simp [keyI]
       have h5:=tail_owns (k:=1) (v:=.slice ao ([]++keyI t:List Int).length cap) (n:=([]++keyI t:List Int).length) (olds:=Lib.byteCells (keyB t)) hO2.fro hh (by rw [Lib.byteCells_length,hlen,Nat.mul_one]) (by
        rcases hh with hn | ⟨gb,n2,cap2,cur,he,g1,g2,g3,g4,g5,g6⟩
        · left; injection hn with e1 e2 e3; exact ⟨by rw [e1,e2,e3],e2⟩
        · right
          cases he
          refine ⟨gb,cap,rfl,fun j hj=>?_⟩
          obtain ⟨_,q2,_⟩:=rowv_parts hj
          have hbb:=hb1 (Nat.lt_of_le_of_lt (Nat.zero_le _) q2)
          cases hbb
          have:=hcell1 j hj
          rw [Nat.zero_add,hfl] at this
          exact this)
       rw [hlen] at h5 ⊢
       refine ⟨h5.1,?_⟩
       rcases h5.2 with h6 | ⟨gb,cap2,cur,he,g1,g2⟩
       · exact .inl h6
       · refine .inr ⟨gb,cap2,cur,he,Nat.le_of_not_lt (fun hc=>hO2.kept 1 _ gb hB (by rw [hlen,he]; rfl) hc),g2⟩
     go_wp2_with (go_at_call 28; refine (stringW w.heap.size (w.heap.size+1) p v (keyB t) _ k1 hown (keyB_ne t)).mono ?_)
     rintro e w3 ⟨rfl,hb3⟩
     go_wp2
     go_ret
     have hb2:Below w.heap.size w w3:=by
      have h7:Below w.heap.size w w2:=by
       refine ⟨hx2.os.trans hbel.os,hx2.tape.trans hbel.tape,hx2.output.trans hbel.output,Nat.le_trans hbel.size hx2.size,fun k hk=>(hx2.block k hk).trans (hbel.block k hk)⟩
      exact h7.trans hb3
     exact ⟨H,_,rfl,⟨hb2,H.le_refl,fun b j v hv=>(hb2.cell (p:=⟨b,j,none⟩) (hfro.lt hv)).trans (hfro b j v hv),fun b j v h1 h2=>by rw [h1] at h2; cases h2⟩,.f (.v _ rfl)⟩
   · cases hs
 · cases hs
end Go.Proofs.YtdeacbdpmdfgdaaDoor
