/- The names of a term, sorted, each once: the end of Free, shown by hand. -/
import Derived.Test.YtemhncjjiomppaaDoorKf
import Derived.Test.YtemhncjjiomppaaDoorVf
import Derived.Test.YtemhncjjiomppaaDoorReg
import Derived.Test.YtemhncjjiomppaaDoorOp
import Derived.Test.YtemhncjjiomppaaDoorShelf
import Derived.Sort.OwnSorted
import Derived.Lib.SlicesCompact
namespace Go.Proofs.YtemhncjjiomppaaDoor
open Go.RowKit Go.Sort
set_option linter.unusedVariables false
set_option maxRecDepth 100000
def bl (s:ByteArray):List UInt8:=s.data.toList
def ofB (l:List UInt8):ByteArray:=⟨l.toArray⟩
def Qah (L:List ByteArray):List ByteArray:=(Lib.compact ((L.map bl).mergeSort fun x y=>decide (x≤y))).map ofB
theorem Qn1 (L:List ByteArray):(L.map bl).map encStr=L.map Value.string:=by
 rw [List.map_map]
 apply List.map_congr_left
 intro s _
 show Value.string ⟨s.data.toList.toArray⟩=_
 simp
section
variable {P : Program} {w0 : Cx} {H0 H : Hp} {B : Hd} {m : Nat} {s : PS} {g : Gh} {a : Act} {w w' : World} {lo : Nat} {u : Value} {x : PO}
theorem PO.kept (h:x.holds w H B lo u) (hb:∀ b,blk u=some b→w'.heap[b]?=w.heap[b]?) (hsz:w.heap.size≤w'.heap.size):x.holds w' H B lo u:=by
 cases x with
 | cells l =>
  obtain ⟨b,vs,rfl,h1,h2,h3,h4,h5⟩:=h
  have e1:=hb b rfl
  exact ⟨b,vs,rfl,⟨fun j hj=>(World.cell?_of_block (a:=⟨b,j,none⟩) e1).trans (h1.cells j hj),fun j=>(World.frozen?_of_block (a:=⟨b,j,none⟩) e1).trans (h1.free j),Nat.lt_of_lt_of_le h1.lt hsz⟩,h2,h3,h4,h5⟩
 | own e x =>
  obtain ⟨k,n,get,vs,hv,h1,h3,h4⟩:=h
  refine ⟨k,n,get,vs,hv,⟨h1.1,?_⟩,h3,h4⟩
  rcases h1.2 with h5 | ⟨g,cap,cur,rfl,hg,hh,r⟩
  · exact .inl h5
  · exact .inr ⟨g,cap,cur,rfl,hg,by rw [hb g rfl]; exact hh,r⟩
 | tail e k =>
  rcases h with h | ⟨g,n,cap,cur,rfl,h1,h2,h3,h4,h5,h6⟩
  · exact .inl h
  · exact .inr ⟨g,n,cap,cur,rfl,h1,by rw [hb g rfl]; exact h2,h3,h4,h5,h6⟩
 | gone=>trivial
 | map t has get ks vs =>
  obtain ⟨b,es,clock,l,rfl,h1,h2,h3,h4,h5⟩:=h
  exact ⟨b,es,clock,l,rfl,by rw [hb b rfl]; exact h1,h2,h3,h4,h5⟩
 | bld T y =>
  obtain ⟨b,p,v,rfl,h1,h2,h3,h4,h5⟩:=h
  exact ⟨b,p,v,rfl,by rw [hb b rfl]; exact h1,h2,h3,h4,h5⟩
theorem QlA {b j:Nat} {v:Value} (h:w.cell? ⟨b,j,none⟩=some v):b<w.heap.size:=by
 unfold World.cell? at h
 cases hh:w.heap[b]? with
 | none=>simp [hh] at h
 | some o=>exact (Array.getElem?_eq_some_iff.1 hh).1
theorem QmU {o:Nat} {e:TypeId} {y y':Lf} (h:Real w0 H0 m s g a w) (ho:s.ob[o]?=some (.own e y)) (hB:g.B o=some u) (hgr:w.grownBy w' (blk u)) (hnew:(PO.own e y').holds w' g.H g.B 0 u):Real w0 H0 m ⟨s.env,setL s.ob o (.own e y')⟩ g a w':=by
 have hown:=h.obs.hold o _ u ho hB
 have hH:∀ b,blk u=some b→∀ j,g.H b j=none:=by
  obtain ⟨k,n,get,vs,hv,h1,h3,h4⟩:=hown
  exact h4
 have hfro:Fro g.H w':=by
  intro k j z hz
  have hk:=QlA (h.obs.fro k j z hz)
  have hne:some k≠blk u:=fun hc=>by rw [hH k hc.symm j] at hz; cases hz
  exact (World.cell?_of_block (a:=⟨k,j,none⟩) (hgr.block k hk hne)).trans (h.obs.fro k j z hz)
 refine ⟨h.ext.grown hgr (fun b hb=>h.obs.kept o u b hB hb) h.ext.le hfro h.ext.new,⟨hfro,fun o' u' b' h1 h2=>Nat.lt_of_lt_of_le (h.obs.lt o' u' b' h1 h2) hgr.size,fun o' x' u' hx' hu'=>?_,h.obs.apart,fun o' u' hu'=>by rw [QaZ,List.length_set]; exact h.obs.dom o' u' hu',h.obs.kept⟩,fun o' ho'=>h.full o' (by rw [QaZ,List.length_set] at ho'; exact ho'),h.env,h.sz,h.dfr,h.ptr⟩
 rw [QaZ,List.getElem?_set] at hx'
 by_cases hoo:o=o'
 · subst hoo
   rw [if_pos rfl] at hx'
   split at hx'
   · cases hx'
     rw [show g.B o=some u' from hu'] at hB
     cases hB
     exact hnew
   · cases hx'
 · rw [if_neg hoo] at hx'
   exact PO.kept (h.obs.hold o' x' u' hx' hu') (fun b hb=>hgr.block b (h.obs.lt o' u' b hu' hb) fun hc=>h.obs.apart o o' u u' b hoo hB hu' hc.symm hb) hgr.size
theorem QmX {e:TypeId} {L:List ByteArray} (h:(PO.own e (.dt .str L)).holds w H B lo u):w.ownsRow lo e 1 u L.length (L.map Value.string)∧∀ b,blk u=some b→∀ j,H b j=none:=by
 obtain ⟨k,n,get,vs,hv,h1,h3,h4⟩:=h
 simp only [Lf.view0,Option.some.injEq,Prod.mk.injEq] at hv
 obtain ⟨rfl,rfl,rfl⟩:=hv
 have e1:vs=L.map Value.string:=by
  have hl:vs.length=L.length:=by rw [h1.1]; exact Nat.mul_one _
  apply List.ext_getElem?
  intro i
  by_cases hi:i<L.length
  · obtain ⟨v,h5,h6⟩:=(h3 i hi).2 0 (.v (.string (L.getD i Sh.str.nil))) rfl
    have h7:=h6.val rfl
    subst h7
    have e2:i * Sh.str.k+0=i:=Nat.mul_one i
    rw [e2] at h5
    rw [h5,List.getElem?_map,List.getElem?_eq_getElem hi,List.getD_eq_getElem?_getD,List.getElem?_eq_getElem hi]
    rfl
  · rw [List.getElem?_eq_none (by omega),List.getElem?_eq_none (by simp; omega)]
 subst e1
 exact ⟨h1,h4⟩
theorem QmI {e:TypeId} {L:List ByteArray} (h:w.ownsRow lo e 1 u L.length (L.map Value.string)) (hH:∀ b,blk u=some b→∀ j,H b j=none):(PO.own e (.dt .str L)).holds w H B lo u :=
 ⟨1,L.length,_,L.map Value.string,rfl,h,fun i hi=>⟨rfl,fun j y hy=>by
  match j,hy with
  | 0,hy =>
   cases hy
   refine ⟨.string (L.getD i Sh.str.nil),?_,.v _ rfl⟩
   rw [show i * 1+0=i by omega,List.getElem?_map,List.getElem?_eq_getElem hi,List.getD_eq_getElem?_getD,List.getElem?_eq_getElem hi]
   rfl
  | j+1,hy=>cases hy⟩,hH⟩
theorem Real.act {ob:List PO} {a':Act} (h:Real w0 H0 m ⟨[],ob⟩ g a w) (hs:a'.tmps.size=m) (hd:a'.defers=w0.D):Real w0 H0 m ⟨[],ob⟩ g a' w:=⟨h.ext,h.obs,h.full,fun d x hx=>(by cases hx),hs,hd,h.ptr⟩
theorem Qfp (d:Nat) (v:Value):(a.put (some d) v).tmps.size=a.tmps.size:=by simp [Act.put]
theorem QmT {d:Nat} {e:TypeId} {F:List ByteArray} {ob:List PO} {o:Nat} {y:Lf} {v:Value} (hB0:∀ o,w0.B o=none) (h:Real w0 H0 m ⟨[],ob⟩ ⟨H0,B⟩ a w) (ho:ob[o]?=some (.own e y)) (hB:B o=some u) (hgr:w.grownBy w' (blk u)) (hv:v=.slice none 0 0∧F=[]∨∃ g cap cur,blk u=some g∧v=.slice (some ⟨g,0,none⟩) F.length cap∧F.length≤cap∧cap≤maxLen∧w'.heap[g]?=some (.cells cur e (0,0))∧cur.toList.take F.length=F.map Value.string)
  {a':Act} (hs:a'.tmps.size=m) (hd:a'.defers=w0.D) (hx:a'.tmps.getD d undef=v):∃ H1,Real w0 H0 m ⟨[(d,.f (.dt .str F))],[]⟩ ⟨H1,fun _=>none⟩ a' w':=by
 have hown:=h.obs.hold o _ u ho hB
 have hH:∀ b,blk u=some b→∀ j,H0 b j=none:=by
  obtain ⟨k,n,get,vs,hv,h1,h3,h4⟩:=hown
  exact h4
 have hfro:Fro H0 w':=by
  intro k j z hz
  have hk:=QlA (h.obs.fro k j z hz)
  have hne:some k≠blk u:=fun hc=>by rw [hH k hc.symm j] at hz; cases hz
  exact (World.cell?_of_block (a:=⟨k,j,none⟩) (hgr.block k hk hne)).trans (h.obs.fro k j z hz)
 have key:∃ H1,H0.le H1∧Fro H1 w'∧(∀ b j z,H1 b j=some z→H0 b j=none→¬ w0.K b)∧Rd H1 v (.dt .str F):=by
  rcases hv with ⟨rfl,rfl⟩ | ⟨gb,cap,cur,hg,rfl,hc,hm,hheap,htake⟩
  · exact ⟨H0,Hp.le_refl _,hfro,fun b j z h1 h2=>(by rw [h1] at h2; cases h2),Qf6 (x:=.dt .str []) rfl (fun _=>rfl) trivial⟩
  · have hcell:∀ j,j<F.length→w'.cell? ⟨gb,j,none⟩=some (.string (F.getD j Sh.str.nil)):=fun j hj=>by
     have h1:(cur.toList.take F.length)[j]?=(F.map Value.string)[j]?:=by rw [htake]
     rw [List.getElem?_take_of_lt hj,List.getElem?_map,List.getElem?_eq_getElem hj,Array.getElem?_toList] at h1
     simp only [World.cell?,hheap]
     simp only [Option.isSome_none,Bool.false_eq_true,if_false]
     rw [h1,List.getD_eq_getElem?_getD,List.getElem?_eq_getElem hj]
     rfl
    refine ⟨fun b j=>if b=gb∧j<F.length then some (.string (F.getD j Sh.str.nil)) else H0 b j,fun b j z hz=>?_,fun b j z hz=>?_,fun b j z hz hn=>?_,?_⟩
    · have:¬ (b=gb∧j<F.length):=fun hc=>by rw [hc.1,hH gb hg j] at hz; cases hz
      dsimp only
      rw [if_neg this]; exact hz
    · dsimp only at hz
      split at hz
      · rename_i hc
        cases hz
        rw [hc.1]; exact hcell j hc.2
      · exact hfro b j z hz
    · dsimp only at hz
      split at hz
      · rename_i hc
        rw [hc.1]; exact h.obs.kept o u gb hB hg
      · rw [hz] at hn; cases hn
    · refine .slf (fun _=>rfl) (f:=.dt .str F) (k:=1) (n:=F.length) (get:=fun i=>Sh.str.cells (F.getD i Sh.str.nil)) rfl trivial hc hm (fun hc=>by cases hc) gb 0 (fun i _=>.string (F.getD i Sh.str.nil)) (fun _=>rfl) (fun i hi j hj=>?_) (fun i hi=>rfl) (fun i hi j x hx=>?_)
      · have e1:0+i * 1+j=i:=by omega
        rw [e1,if_pos ⟨rfl,hi⟩]
      · match j,hx with
        | 0,hx=>cases hx; exact .v _ rfl
        | j+1,hx=>cases hx
 obtain ⟨H1,k1,k2,k3,k4⟩:=key
 refine ⟨H1,⟨h.ext.grown hgr (fun b hb=>h.obs.kept o u b hB hb) k1 k2 k3,⟨k2,fun o u b hu=>(by cases hu),fun o x u hx=>(by simp at hx),fun o o' u u' b _ hu=>(by cases hu),fun o u hu=>(by cases hu),fun o u b hu=>(by cases hu)⟩,fun o ho=>(by simp at ho),fun d' x hx'=>?_,hs,hd,fun o p hp=>by have h9:=hp.1; rw [hB0 o] at h9; cases h9⟩⟩
 unfold look at hx'
 split at hx'
 · rename_i hd'
   cases hx'
   obtain rfl:=Nat.eq_of_beq_eq_true hd'
   rw [hx]
   exact .f k4
 · cases hx'
end
def Qoa (t:Tw) (L:List ByteArray) (s:PS):Prop:=s.ob=[.cells (Qad (tmC t)),.cells [.tl 3 (.dt .str L)],.cells [.fn 35 [] [.bp 1 0,.bp 2 0]],.tail 9 1]∧look s.env 3=some (.bp 1 0)
theorem QnY:∀ {l:List (Nat × PV)} {d o k:Nat},look l d=some (.bp o k)→look (fgE l) d=some (.bp o k)
 | [],d,o,k,h=>by cases h
 | (d',y)::l,d,o,k,h=>by
  unfold look at h
  split at h
  · rename_i hd
    cases h
    unfold fgE look
    rw [hd]
  · rename_i hd
    have ih:=QnY h
    cases y <;> (unfold fgE look; rw [hd]; exact ih)
def codeF : Code := .seq (.region 5 #[⟨some 9, .load 31 (.tmp 3), 31, "term.go:57", #[], none⟩, ⟨some 10, .call ⟨.value (.func 36), #[.tmp 9], #[31]⟩, 0, "term.go:57", #[⟨0, .data⟩], none⟩] false)
 (.seq (.region 6 #[⟨some 11, .load 31 (.tmp 3), 31, "term.go:58", #[], none⟩, ⟨some 12, .call ⟨.value (.func 37), #[.tmp 11], #[31]⟩, 31, "term.go:58", #[⟨0, .data⟩], none⟩,
  ⟨some 2, .assign (.tmp 12), 31, "term.go:58", #[⟨1, .data⟩, ⟨1, .chain⟩, ⟨0, .phase⟩, ⟨1, .phase⟩], none⟩] false) .ret)
theorem Qnv:Qkd 5 (Tryd.f11.body.getD .skip)=codeF:=by kernel_rfl
def QhK (L:List ByteArray):List (List UInt8):=(L.map bl).mergeSort fun x y=>decide (x≤y)
theorem map_bl (l:List (List UInt8)):(l.map ofB).map bl=l:=by
 rw [List.map_map]
 exact List.map_id l
theorem Qn0 (l:List (List UInt8)):l.map encStr=(l.map ofB).map Value.string:=by rw [List.map_map]; rfl
theorem Qfz (w:World) (r:Option Nat):w.grownBy w r:=⟨rfl,rfl,rfl,Nat.le_refl _,fun _ _ _=>rfl⟩
theorem QmK {w:World} {v:Value} {L:List ByteArray} (h:w.ownsRow 0 9 1 v L.length (L.map Value.string)) (hL:L.length≤100000000) :
  Calls Tryd.prog 36 #[v] w fun e w2=>e=.returned (.tuple #[])∧w.grownBy w2 (blk v)∧w2.ownsRow 0 9 1 v L.length (((QhK L).map ofB).map Value.string):=by
 rcases h.2 with ⟨rfl,hn⟩ | ⟨g,cap,cur,rfl,hbase,hb,h1,h2,h3,h4⟩
 · obtain rfl:=List.length_eq_zero_iff.1 hn
   refine (Tryd.slices_Sort_string_none none 0 w).mono fun e w2 hw=>?_
   obtain ⟨rfl,rfl⟩:=hw
   exact ⟨rfl,Qfz _ _,⟨by simp [QhK],.inl ⟨rfl,rfl⟩⟩⟩
 · have hs:=Tryd.slices_Sort_string g 0 cap (L.map bl) w (holds_of_block hb (by rw [Qn1,List.length_map]; rw [Nat.mul_one] at h4; exact h4)) (Array.getElem?_eq_some_iff.1 hb).1 (by rw [List.length_map]; omega)
   rw [List.length_map] at hs
   refine hs.mono fun e w2 hw=>?_
   obtain ⟨rfl,n,os,rfl⟩:=hw
   refine ⟨rfl,grownBy_sorted _,?_⟩
   have hl:(QhK L).length=(L.map bl).length:=by unfold QhK; rw [List.length_mergeSort]
   have ho:=ownsRow_sorted (n:=n) (os:=os) (e:=9) (base:=0) (g:=g) (cap:=cap) (cur:=cur) hl hbase hb (by rw [List.length_map]; exact h1) h2 h3
   rw [List.length_map,Qn0] at ho
   exact ho
theorem Qkj (zs:List (List UInt8)):(Lib.compact zs).length≤zs.length:=by
 unfold Lib.compact Lib.compactUpTo
 rw [List.length_map]
 exact Nat.le_trans (List.length_filter_le _ _) (by simp)
theorem Qin {w:World} {v:Value} {M:List ByteArray} (h:w.ownsRow 0 9 1 v M.length (M.map Value.string)) (hM:M.length≤100000000) :
  Calls Tryd.prog 37 #[v] w fun e w2=>∃ r,e=.returned r∧w.grownBy w2 (blk v)∧(r=.slice none 0 0∧(Lib.compact (M.map bl)).map ofB=[]∨∃ g cap cur,blk v=some g∧r=.slice (some ⟨g,0,none⟩) ((Lib.compact (M.map bl)).map ofB).length cap∧((Lib.compact (M.map bl)).map ofB).length≤cap∧cap≤maxLen∧w2.heap[g]?=some (.cells cur 9 (0,0))∧cur.toList.take ((Lib.compact (M.map bl)).map ofB).length=((Lib.compact (M.map bl)).map ofB).map Value.string):=by
 rcases h.2 with ⟨rfl,hn⟩ | ⟨g,cap,cur,rfl,hbase,hb,h1,h2,h3,h4⟩
 · obtain rfl:=List.length_eq_zero_iff.1 hn
   refine (Tryd.slices_Compact_string_empty none 0 w).mono fun e w2 hw=>?_
   obtain ⟨rfl,rfl⟩:=hw
   exact ⟨_,rfl,Qfz _ _,.inl ⟨rfl,rfl⟩⟩
 · have hs:=Tryd.slices_Compact_string g 0 cap (M.map bl) w (holds_of_block hb (by rw [Qn1,List.length_map]; rw [Nat.mul_one] at h4; exact h4)) (by rw [List.length_map]; omega) (by rw [List.length_map]; exact h1)
   have hcl:=Qkj (M.map bl)
   rw [List.length_map] at hs hcl
   refine hs.mono fun e w2 hw=>?_
   obtain ⟨rfl,q,rfl⟩:=hw
   obtain ⟨F,hF⟩:∃ F,F=Lib.compact (M.map bl):=⟨_,rfl⟩
   rw [← hF] at hcl ⊢
   have hgrow:putRow encStr (Sort.ahead w q) g 0 (F++List.replicate (M.length - F.length) []).toArray=grow (putRow encStr (Sort.ahead w q) g 0 (F++List.replicate (M.length - F.length) []).toArray) #[]:=(grow_empty _).symm
   rw [hgrow]
   have hlen:(F++List.replicate (M.length - F.length) []).length=M.length:=by simp; omega
   refine ⟨_,rfl,grownBy_sorted _,.inr ⟨g,cap,_,rfl,by rw [List.length_map],by rw [List.length_map]; omega,h2,heap_sorted _ hb,?_⟩⟩
   have ht:=take_putCells cur (F++List.replicate (M.length - F.length) []) (by rw [hlen,h3]; omega)
   rw [hlen] at ht
   have h5:=congrArg (List.take F.length) ht
   have h6:List.take F.length (List.map encStr (F++List.replicate (M.length - F.length) []))=List.map encStr F:=by
    rw [List.map_append,List.take_append_of_le_length (by simp)]
    exact List.take_of_length_le (by simp)
   rw [List.take_take,Nat.min_eq_left hcl,h6] at h5
   rw [List.length_map,h5,Qn0]
set_option maxHeartbeats 1000000 in
theorem Qnm {w0:Cx} {H0:Hp} {s:PS} {g:Gh} {a:Act} {w:World} {t:Tw} {L:List ByteArray} (hL:L.length≤100000000) (hK:∀ b j v,H0 b j=some v→w0.K b) (hB0:∀ o,w0.B o=none) (hs:Qoa t L s) (hR:Real w0 H0 13 s g a w) :
  (Qkd 5 (Tryd.f11.body.getD .skip)).wp Tryd.prog (Qr w0 H0 13 noQ (Ends Tryd.prog Tryd.f11.results.toList (.f (.dt .str (Qah L))))) a w:=by
 rw [Qnv]
 have R0:=Qig hK hR
 have fob:(forget s).ob=[.gone,.cells [.wr 3],.gone,.own 9 (.dt .str L)]:=by
  unfold forget
  rw [hs.1]
  rfl
 have f3:look (forget s).env 3=some (.bp 1 0):=QnY hs.2
 have ob1:(forget s).ob[1]?=some (.cells [.wr 3]):=by rw [fob]; rfl
 have ob3:(forget s).ob[3]?=some (.own 9 (.dt .str L)):=by rw [fob]; rfl
 have p3:=R0.env 3 _ f3
 obtain ⟨ptr,hptr⟩:∃ p,p=a.tmps.getD 3 undef:=⟨_,rfl⟩
 rw [← hptr] at p3
 have hN:=R0.noEnv
 obtain ⟨v,hu⟩:=R0.full 3 (by rw [fob]; exact (by decide:3<4))
 have hl:Qgc Tryd.prog ⟨[],(forget s).ob⟩ 31 (.bp 1 0)=some (.wr 3):=by rw [fob]; kernel_rfl
 obtain ⟨v1,hload,hv⟩:=QcC (s:=⟨[],(forget s).ob⟩) (fun i x hx=>hx) hN.obs p3 hl
 have hvu:v1=v:=by
  cases hv with
  | wr hb _=>exact Option.some.inj (hb.symm.trans hu)
 subst hvu
 obtain ⟨hrow,hH⟩:=QmX (R0.obs.hold 3 _ v1 ob3 hu)
 obtain ⟨ad,had⟩:∃ ad,ptr=.pointer (some ad):=by
  cases p3 with
  | bp h=>exact ⟨_,rfl⟩
 have sz0:a.tmps.size=13:=R0.sz
 refine wp_seq (wp_region_list ?_)
 refine wpList_plain rfl fun K1 k1=>Qll (by rw [← hptr]; exact had) (by rw [← had]; exact hload) (k1 _ _ ?_)
 refine wpList_plain rfl fun K2 k2=>Qlm (by kernel_rfl) (vs:=#[v1]) ?_ (QmK hrow hL) fun e w2 h2=>⟨.tuple #[],h2.1,k2 _ _ ?_⟩
 · have e9:(a.put (some 9) v1).eval (.tmp 9)=v1:=by
    show (a.put (some 9) v1).tmps.getD 9 undef=v1
    rw [Qam,if_pos ⟨rfl,by omega⟩]
   simp [e9]
 obtain ⟨-,hgr,hown2⟩:=h2
 refine wpList_nil ?_
 have hlM:((QhK L).map ofB).length=L.length:=by unfold QhK; rw [List.length_map,List.length_mergeSort,List.length_map]
 obtain ⟨M,hM⟩:∃ M,M=(QhK L).map ofB:=⟨_,rfl⟩
 rw [← hM] at hlM hown2
 rw [← hlM] at hown2
 have R1:=QmU hN ob3 hu hgr (QmI hown2 hH)
 have sz1:((a.put (some 9) v1).put (some 10) (.tuple #[])).tmps.size=13:=by rw [Qfp,Qfp]; exact sz0
 obtain ⟨a1,ha1⟩:∃ a1,a1=(a.put (some 9) v1).put (some 10) (.tuple #[]):=⟨_,rfl⟩
 have t1:a1.tmps.getD 3 undef=ptr:=by
  rw [ha1,Qam,if_neg (fun c=>absurd c.1 (by decide)),Qam,if_neg (fun c=>absurd c.1 (by decide)),hptr]
 have d1:a1.defers=w0.D:=by rw [ha1]; exact R0.dfr
 rw [← ha1] at sz1 ⊢
 have R2:=R1.act sz1 d1
 have sob:setL (forget s).ob 3 (.own 9 (.dt .str M))=[.gone,.cells [.wr 3],.gone,.own 9 (.dt .str M)]:=by rw [fob]; rfl
 dsimp only at R2
 rw [sob] at R2
 have hl2:Qgc Tryd.prog ⟨[],[.gone,.cells [.wr 3],.gone,.own 9 (.dt .str M)]⟩ 31 (.bp 1 0)=some (.wr 3):=by kernel_rfl
 have p3':PR H0 g.B ptr (.bp 1 0):=p3
 obtain ⟨v2,hload2,hv2⟩:=QcC (s:=⟨[],[.gone,.cells [.wr 3],.gone,.own 9 (.dt .str M)]⟩) (fun i x hx=>hx) R2.obs p3' hl2
 have hvu2:v2=v1:=by
  cases hv2 with
  | wr hb _=>exact Option.some.inj (hb.symm.trans hu)
 subst hvu2
 show Code.wp _ (.seq (.region 6 _ false) .ret) _ a1 w2
 refine wp_seq (wp_region_list ?_)
 refine wpList_plain rfl fun K3 k3=>Qll (by rw [t1]; exact had) (by rw [← had]; exact hload2) (k3 _ _ ?_)
 refine wpList_plain rfl fun K4 k4=>Qlm (by kernel_rfl) (vs:=#[v2]) ?_ (Qin hown2 (by omega)) fun e w3 h3=>?_
 · have e11:(a1.put (some 11) v2).eval (.tmp 11)=v2:=by
    show (a1.put (some 11) v2).tmps.getD 11 undef=v2
    rw [Qam,if_pos ⟨rfl,by omega⟩]
   simp [e11]
 obtain ⟨r,rfl,hgr3,hr⟩:=h3
 refine ⟨r,rfl,k4 _ _ ?_⟩
 have hF:(Lib.compact (M.map bl)).map ofB=Qah L:=by rw [hM,map_bl]; rfl
 rw [hF] at hr
 have sz3:((a1.put (some 11) v2).put (some 12) r).tmps.size=13:=by rw [Qfp,Qfp]; exact sz1
 refine wpList_plain rfl fun K5 k5=>Qln (x:=r) ?_ (k5 _ _ ?_)
 · rw [Qam,if_pos ⟨rfl,by rw [Qfp]; omega⟩]
 refine wpList_nil ?_
 show Code.wp _ .ret _ _ w3
 obtain ⟨H1,hfin⟩:=QmT (d:=2) hB0 R2 (o:=3) rfl hu hgr3 hr (a':=((a1.put (some 11) v2).put (some 12) r).put (some 2) r) (by rw [Qfp]; exact sz3) d1 (by rw [Qam,if_pos ⟨rfl,by omega⟩])
 refine wp_ret ⟨_,_,hfin,?_⟩
 generalize Qah L=F
 have hres:resP Tryd.prog (frzAll ⟨[(2,.f (.dt .str F))],[]⟩ 0) Tryd.f11.results.toList=some (.f (.dt .str F)):=by kernel_rfl
 show (match resP Tryd.prog (frzAll ⟨[(2,.f (.dt .str F))],[]⟩ 0) Tryd.f11.results.toList with | some x=>Qbp (flatR x)=true∧Sub (flatR x) (.f (.dt .str F)) | none=>False)
 rw [hres]
 exact ⟨rfl,.refl _⟩
end Go.Proofs.YtemhncjjiomppaaDoor
