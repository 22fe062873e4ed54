/- What a row gives that lays strconv's two errors. -/
import Derived.Test.YtdeacbdpmdfgdaaDoorCn
import Derived.Test.YtdeacbdpmdfgdaaDoorRows
import Derived.WalkKit
import Derived.ProofKit
import Derived.OpenShut
import Derived.Deep.Slices
import Derived.Test.YtdeacbdpmdfgdaaDoorKx
import Derived.Test.YtdeacbdpmdfgdaaDoorEz
import Derived.Test.YtdeacbdpmdfgdaaDoorCards
import Derived.Test.YtdeacbdpmdfgdaaDoorTie
import Derived.LaidSub
import Derived.Deep.DeepHandedRow
import Derived.Lib.LaidTab
import Derived.Test.YtdeacbdpmdfgdaaDoorKu
import Derived.Shelf.Vars
import Derived.Test.YtdeacbdpmdfgdaaDoorYa
import Derived.LaidLaws
namespace Go.Proofs.YtdeacbdpmdfgdaaDoor
open Go.ChangeShapes Go.WideShapes Go.ChangeAt Go.RowKit Go.Deep
set_option linter.unusedVariables false
set_option maxRecDepth 100000
def H0 (W:World):Hp:=fun b j=>W.cell? ⟨b,j,none⟩
theorem fro0 (W:World):Fro (H0 W) W:=fun _ _ _ h=>h
def InE (W:World) (s:Sh) (cs:List Value) (q:s.T):Prop:=cs.length=s.k∧∀ (j:Nat) x,(s.cells q)[j]?=some x→∃ v,cs[j]?=some v∧Rd (H0 W) v x
theorem Sh.k_pos:∀ s:Sh,0<s.k:=by intro s; cases s <;> decide
theorem bulk_map {H:Type} (D:Nat→DataW H) (f:Nat→Nat):∀ n,(∀ i,i<n→f i≤Rows.uptoBulk (D i))→((List.range n).map f).sum≤Rows.uptoBulkAll ((List.range n).map D):=by
 have app:∀ l m:List (DataW H),Rows.uptoBulkAll (l++m)=Rows.uptoBulkAll l+Rows.uptoBulkAll m:=by
  intro l m
  induction l with
  | nil=>simp [Rows.uptoBulkAll]
  | cons x l ih=>simp only [List.cons_append,Rows.uptoBulkAll,ih]; omega
 intro n
 induction n with
 | zero=>intro _; exact Nat.le_refl _
 | succ n ih =>
  intro h
  have h1:=ih fun i hi=>h i (by omega)
  have h2:=h n (by omega)
  simp only [List.range_succ,List.map_append,List.sum_append,app,List.map_cons,List.map_nil,List.sum_cons,List.sum_nil,Rows.uptoBulkAll]
  omega
theorem bulk_at {H:Type} {D:Nat→DataW H} {n i:Nat} (h:i<n):Rows.uptoBulk (D i)≤Rows.uptoBulkAll ((List.range n).map D):=by
 have h1:=bulk_map D (fun j=>if j=i then Rows.uptoBulk (D i) else 0) n (fun j hj=>by split <;> simp_all)
 refine Nat.le_trans ?_ h1
 have:∀ m,i<m→Rows.uptoBulk (D i)≤((List.range m).map (fun j=>if j=i then Rows.uptoBulk (D i) else 0)).sum:=by
  intro m
  induction m with
  | zero=>intro h; omega
  | succ m ih =>
   intro h
   simp only [List.range_succ,List.map_append,List.sum_append,List.map_cons,List.map_nil,List.sum_cons,List.sum_nil]
   by_cases hm:m=i
   · rw [if_pos hm]; omega
   · have:=ih (by omega); omega
 exact this n h
section
variable {H : Type} {enc : TypeId × Value → H} {W : World}
theorem row_in {s:Sh} {e t:TypeId} {fuel:Nat} {cs:List Value} {x:DataW H × List MemPlace} (ht:Tryd.prog.underlying t=some (.slice e)) (hk:Tryd.prog.cellsOf e=s.k) (sz:s.T→Nat)
  (hel:∀ n cs y,Rows.uptoBulk y.1<Rows.uptoBulk x.1→DataW.trod enc Tryd.prog W 0 (fun _=>true) true n e cs=some y→∃ q,InE W s cs q∧sz q≤Rows.uptoBulk y.1)
  (h:DataW.trod enc Tryd.prog W 0 (fun _=>true) true fuel t cs=some x):∃ v l,cs=[v]∧Rd (H0 W) v (.dt s l)∧(l.map sz).sum+1≤Rows.uptoBulk x.1:=by
 have view:∀ l:List s.T,(Lf.dt s l).view=some (s.k,l.length,fun i=>s.cells (l.getD i s.nil)):=fun _=>rfl
 rcases open_slice ht h with ⟨rfl,rfl⟩ | ⟨a,len,cap,m,n,D,Pl,rfl,_,hl,hm,hmm,rfl,hx⟩
 · exact ⟨_,[],rfl,.slf (fun _=>rfl) (view []) trivial (Nat.le_refl _) (by unfold maxLen; omega) (fun _=>rfl) 0 0 (fun _ _=>undef) (fun h=>by cases h) (fun i h=>by cases h) (fun i h=>by cases h) (fun i h=>by cases h),by simp [Rows.uptoBulk]⟩
 simp only [if_true] at hmm
 subst hmm
 have hb:Rows.uptoBulk (DataW.slice ((List.range len).map D) ((List.range (m - len)).map fun j=>D (len+j)))=Rows.uptoBulkAll ((List.range len).map D)+Rows.uptoBulkAll ((List.range (m - len)).map fun j=>D (len+j))+1:=rfl
 have each:∀ i,i<len→∃ q:List Value × s.T,W.cells? 0 (a.add (i * s.k)) s.k=some q.1∧InE W s q.1 q.2∧sz q.2≤Rows.uptoBulk (D i):=by
  intro i hi
  obtain ⟨cs',h1,h2⟩:=hx i (by omega)
  have h3:=bulk_at (D:=D) hi
  obtain ⟨q,h4,h5⟩:=hel n cs' _ (by dsimp only; rw [hb]; omega) h2
  rw [hk] at h1
  exact ⟨(cs',q),h1,h4,h5⟩
 haveI:Inhabited s.T:=⟨s.nil⟩
 obtain ⟨q,hq⟩:=choose_lt each
 obtain ⟨l,hL⟩:∃ l,l=(List.range len).map fun i=>(q i).2:=⟨_,rfl⟩
 have hlen:l.length=len:=by rw [hL]; simp
 have hat:∀ i,i<len→l.getD i s.nil=(q i).2:=fun i hi=>by
  rw [hL,List.getD_eq_getElem?_getD,List.getElem?_map,List.getElem?_range hi]; rfl
 have hsum:(l.map sz).sum=((List.range len).map fun i=>sz (q i).2).sum:=by rw [hL,List.map_map]; rfl
 clear hL
 subst hlen
 have key:∃ b o,0<l.length→a=⟨b,o,none⟩:=by
  by_cases h0:0<l.length
  · obtain ⟨h1,-⟩:=hq 0 h0
    obtain ⟨_,h2,h3⟩:=World.cells?_some h1
    have h4:=h3 0 s.k_pos
    rw [List.getElem?_eq_getElem (by have:=s.k_pos; omega)] at h4
    obtain ⟨b,o,sp⟩:=a
    refine ⟨b,o,fun _=>?_⟩
    cases sp with
    | none=>rfl
    | some sp =>
     exfalso
     unfold Addr.add World.cell? at h4
     simp at h4
     split at h4 <;> cases h4
  · exact ⟨0,0,fun h=>absurd h h0⟩
 obtain ⟨b,o,key⟩:=key
 refine ⟨_,l,rfl,Rd.slf (f:=.dt s l) (fun _=>rfl) (view l) trivial hl hm (fun h=>by cases h) b o (fun i j=>(q i).1.getD j undef) (fun h=>by rw [key h]) (fun i hi j hj=>?_) (fun i hi=>Sh.cells_len s _) (fun i hi j x hj=>?_),?_⟩
 · obtain ⟨h1,-⟩:=hq i hi
   obtain ⟨_,h2,h3⟩:=World.cells?_some h1
   have h4:=h3 j hj
   rw [key (by omega),List.getElem?_eq_getElem (by omega)] at h4
   show W.cell? ⟨b,o+i * s.k+j,none⟩=_
   rw [List.getD_eq_getElem?_getD,List.getElem?_eq_getElem (by omega),Option.getD_some,← h4]
   rw [add_add]
   unfold Addr.add
   by_cases h0:i * s.k+j=0
   · have e1:o+i * s.k+j=o:=by omega
     rw [if_pos h0,e1]
   · rw [if_neg h0]
     simp [Nat.add_assoc]
 · obtain ⟨-,h2,-⟩:=hq i hi
   have hj:(s.cells (l.getD i s.nil))[j]?=some x:=hj
   rw [hat i hi] at hj
   obtain ⟨v,h3,h4⟩:=h2.2 j x hj
   rw [List.getD_eq_getElem?_getD,h3]
   exact h4
 · rw [hb,hsum]
   have:=bulk_map D (fun i=>sz (q i).2) l.length fun i hi=>(hq i hi).2.2
   omega
theorem cellsU32':Tryd.prog.cellsOf 84=1:=by kernel_rfl
theorem limbs_in {fuel:Nat} {cs:List Value} {x:DataW H × List MemPlace} (h:DataW.trod enc Tryd.prog W 0 (fun _=>true) true fuel 24 cs=some x) :
  ∃ v l,cs=[v]∧Rd (H0 W) v (.lr l l.length)∧l.length+1≤Rows.uptoBulk x.1:=by
 have lits_bulk:∀ (k:IntKind) (l:List Int),Rows.uptoBulkAll (lits (H:=H) k l)=l.length:=by
  intro k l
  induction l with
  | nil=>rfl
  | cons z l ih =>
   show 1+Rows.uptoBulkAll (lits (H:=H) k l)=l.length+1
   omega
 rcases open_ints Tryd.underlying24 Tryd.underlying84 cellsU32' h with ⟨rfl,rfl⟩ | ⟨a,len,cap,zs,rfl,_,hl,hm,hz,rfl,hcell,hwz⟩
 · exact ⟨_,[],rfl,.slf (fun _=>rfl) (f:=.lr [] 0) (k:=1) (n:=0) (get:=fun i=>[.v (.int .u32 (([]:List Nat).getD i 0:Nat))]) rfl ⟨Nat.le_refl _,by simp⟩ (Nat.le_refl _) (by unfold maxLen; omega) (fun _=>rfl) 0 0 (fun _ _=>undef) (fun h=>by omega) (fun i h=>by omega) (fun i h=>by omega) (fun i h=>by omega),by simp [Rows.uptoBulk]⟩
 simp only [if_true] at hz
 have hb:∀ z∈zs,0≤z∧z<4294967296:=fun z h=>by
  have h5:=hwz z h
  have e1:IntKind.u32.min=0:=rfl
  have e2:IntKind.u32.max=4294967295:=rfl
  simp [Lit.wf,e1,e2] at h5
  omega
 have hlen:((zs.take len).map Int.toNat).length=len:=by simp; omega
 have hat:∀ i,i<len→((((zs.take len).map Int.toNat).getD i 0:Nat):Int)=zs.getD i 0:=fun i hi=>by
  have hiz:i<zs.length:=by omega
  have:=hb zs[i] (List.getElem_mem _)
  simp only [List.getD_eq_getElem?_getD,List.getElem?_map,List.getElem?_take,if_pos hi,List.getElem?_eq_getElem hiz,Option.map_some,Option.getD_some]
  omega
 have key:∃ b o,0<len→a=⟨b,o,none⟩:=by
  by_cases h0:0<len
  · have h4:=hcell 0 (by omega)
    obtain ⟨b,o,sp⟩:=a
    refine ⟨b,o,fun _=>?_⟩
    cases sp with
    | none=>rfl
    | some sp =>
     exfalso
     unfold Addr.add World.cell? at h4
     simp at h4
     split at h4 <;> cases h4
  · exact ⟨0,0,fun h=>absurd h h0⟩
 obtain ⟨b,o,key⟩:=key
 obtain ⟨l,hl'⟩:∃ l,l=(zs.take len).map Int.toNat:=⟨_,rfl⟩
 rw [← hl'] at hlen hat
 subst hlen
 refine ⟨_,l,rfl,.slf (fun _=>rfl) (f:=.lr l l.length) rfl ⟨Nat.le_refl _,fun x hx=>?_⟩ hl hm (fun h=>by cases h) b o (fun i _=>.int .u32 (zs.getD i 0)) (fun h=>by rw [key h]) (fun i hi j hj=>?_) (fun i hi=>rfl) (fun i hi j x hx=>?_),?_⟩
 · rw [hl'] at hx
   obtain ⟨z,hz',rfl⟩:=List.mem_map.1 hx
   have:=hb z (List.mem_of_mem_take hz')
   omega
 · have h4:=hcell i (by omega)
   have hj0:j=0:=by omega
   subst hj0
   rw [key (by omega)] at h4
   show W.cell? ⟨b,o+i * 1+0,none⟩=_
   rw [← h4]
   unfold Addr.add
   by_cases h0:i=0
   · subst h0; simp
   · rw [if_neg h0]; simp
 · match j,hx with
   | 0,hx =>
    simp at hx; subst hx
    have:=hat i hi
    rw [List.getD_eq_getElem?_getD] at this
    rw [this]
    exact .v _ rfl
   | j+1,hx=>simp at hx
 · show l.length+1≤Rows.uptoBulkAll (lits .u32 (zs.take l.length))+Rows.uptoBulkAll (lits .u32 (zs.drop l.length))+1
   rw [lits_bulk,List.length_take]
   omega
theorem str_in {fuel:Nat} {cs:List Value} {x:DataW H × List MemPlace} (h:DataW.trod enc Tryd.prog W 0 (fun _=>true) true fuel 9 cs=some x) :
  ∃ s:ByteArray,cs=[.string s]∧s.size+1≤Rows.uptoBulk x.1:=by
 obtain ⟨s,rfl,rfl,_⟩:=DataW.trod_string Tryd.underlying9 h
 exact ⟨s,rfl,Nat.le_of_eq (by show s.size+1=s.data.toList.length+1; rw [Array.length_toList]; rfl)⟩
theorem bool_in {fuel:Nat} {cs:List Value} {x:DataW H × List MemPlace} (h:DataW.trod enc Tryd.prog W 0 (fun _=>true) true fuel 4 cs=some x):∃ b,cs=[.bool b]:=by
 obtain ⟨b,hb,_⟩:=DataW.trod_bool Tryd.underlying4 h
 exact ⟨b,hb⟩
theorem cellsBool':Tryd.prog.cellsOf 4=1:=by kernel_rfl
theorem cellsStr':Tryd.prog.cellsOf 9=1:=by kernel_rfl
theorem cellsLimbs':Tryd.prog.cellsOf 24=1:=by kernel_rfl
theorem cellsInt':Tryd.prog.cellsOf 26=2:=by kernel_rfl
theorem bulk_pos (d:DataW H):1≤Rows.uptoBulk d:=by
 cases d with
 | lit l=>cases l <;> simp [Rows.uptoBulk]
 | _=>simp [Rows.uptoBulk]
theorem int_in {fuel:Nat} {cs:List Value} {x:DataW H × List MemPlace} (h:DataW.trod enc Tryd.prog W 0 (fun _=>true) true fuel 26 cs=some x) :
  ∃ b v l,cs=[.bool b,v]∧Rd (H0 W) v (.lr l l.length)∧l.length+2≤Rows.uptoBulk x.1:=by
 obtain ⟨y0,y1,n,rfl,hl,h0,h1⟩:=trod_struct2 Tryd.underlying26 h
 dsimp only at h0 h1
 rw [cellsBool'] at h0
 rw [cellsLimbs'] at h1
 rw [cellsInt'] at hl
 match cs,hl with
 | [c0,c1],_ =>
  simp only [List.drop_zero,List.drop_succ_cons,List.take_succ_cons,List.take_zero] at h0 h1
  obtain ⟨b,hb⟩:=bool_in h0
  obtain ⟨v,l,hv,h2,h3⟩:=limbs_in h1
  cases hb; cases hv
  refine ⟨b,_,l,rfl,h2,?_⟩
  have:=bulk_pos y0.1
  simp only [Rows.uptoBulk,Rows.uptoBulkAll]
  omega
theorem cellsTerm':Tryd.prog.cellsOf 28=5:=by kernel_rfl
theorem cellsKind':Tryd.prog.cellsOf 23=1:=by kernel_rfl
theorem cellsTerms':Tryd.prog.cellsOf 22=1:=by kernel_rfl
theorem agg_in {s:Sh} {cs:List Value} {q:s.T} {v:Array Value} (hv:v.toList=cs) (h:InE W s cs q):PR (H0 W) B0 (.agg v) (.agg (wrapF (s.cells q))):=by
 have hw:∀ l:List Lf,(wrapF l).length=l.length∧∀ (i:Nat) y,(wrapF l)[i]?=some y→∃ x,l[i]?=some x∧y=PV.f x:=by
  intro l
  induction l with
  | nil=>exact ⟨rfl,fun i y h=>by cases h⟩
  | cons x l ih =>
   refine ⟨by show (wrapF l).length+1=_; rw [ih.1]; rfl,fun i y h=>?_⟩
   cases i with
   | zero=>cases h; exact ⟨x,rfl,rfl⟩
   | succ i=>exact ih.2 i y h
 obtain ⟨w1,w2⟩:=hw (s.cells q)
 refine PR.agg (by rw [w1,Sh.cells_len,← h.1,← hv]; simp) fun i u y hu hy=>?_
 obtain ⟨x,hx,rfl⟩:=w2 i y hy
 obtain ⟨u',hu',hr⟩:=h.2 i x hx
 have:v.toList[i]?=some u:=by simpa using hu
 rw [hv,hu'] at this
 cases this
 exact .f hr
theorem str_at {base:Nat} {v:Value} {d:DataW H} {p:List MemPlace} (hv:Value.okWide Tryd.prog W .any base 9 v) (h:DataW.Trod enc Tryd.prog W 0 (fun _=>true) true 9 v d p):∃ s,PR (H0 W) B0 v (.f (.v (.string s)))∧s.size+1≤Rows.uptoBulk d:=by
 obtain ⟨s,rfl⟩:=okWide_string Tryd.underlying9 hv
 obtain ⟨fuel,hf⟩:=h
 obtain ⟨s',h1,h2⟩:=str_in hf
 obtain rfl:s=s':=by simpa [Value.cells] using h1
 exact ⟨s,.f (.v _ rfl),h2⟩
theorem laidOut':laidOutB Tryd.prog=true:=by kernel_rfl
theorem own':ownKnob Tryd.prog.godebug=none:=by kernel_rfl
theorem args_keep' {W':World} {v:Value} {d:DataW H} {p:List MemPlace} (t:TypeId) (hr:Tryd.prog.readableRec t=true) (ht:t<Tryd.prog.types.size) (h:DataW.Trod enc Tryd.prog W 0 (fun _=>true) true t v d p)
  (hlt:∀ x∈p,x.block<W.heap.size) (hb:Below W.heap.size W W'):DataW.Trod enc Tryd.prog W' 0 (fun b=>decide (b<W.heap.size)) true t v d p :=
 Below.trod laidOut' hr ht h hb hlt
end
end Go.Proofs.YtdeacbdpmdfgdaaDoor
namespace Go.Proofs.YtdeacbdpmdfgdaaDoor
open Go.ChangeShapes Go.WideShapes Go.ChangeAt Go.RowKit Go.Deep
set_option linter.unusedVariables false
set_option maxRecDepth 100000
mutual
def badT:Tw→Nat
 | .mk k _ _ d l=>(if (0≤k∧k≤255)∧∀ x∈d,x<4294967296 then 0 else 1)+badTL l
def badTL:List Tw→Nat
 | []=>0
 | t::l=>badT t+badTL l
end
mutual
theorem bad_kind:∀ (t:Tw),badT t=0→kindR t
 | .mk k _ _ d l,h=>by
  rw [badT] at h
  split at h
  · rename_i hk
    exact ⟨hk,bad_kindL l (by omega)⟩
  · omega
theorem bad_kindL:∀ (l:List Tw),badTL l=0→kindRL l
 | [],_=>trivial
 | t::l,h=>by
  rw [badTL] at h
  exact ⟨bad_kind t (by omega),bad_kindL l (by omega)⟩
end
def cntKi (t:Tw):Nat:=cntT t+1000000000 * badT t
theorem cntKi_sum:∀ l:List Tw,(l.map cntKi).sum=cntTL l+1000000000 * badTL l
 | []=>rfl
 | t::l=>by rw [List.map_cons,List.sum_cons,cntKi_sum l,cntTL,badTL,cntKi]; omega
section
variable {H : Type} {enc : TypeId × Value → H} {W : World}
theorem term_inK:∀ (N fuel:Nat) (cs:List Value) (x:DataW H × List MemPlace),Rows.uptoBulk x.1<N→DataW.trod enc Tryd.prog W 0 (fun _=>true) true fuel 28 cs=some x →
  ∃ q:Tw,InE W .tm cs q∧cntKi q≤Rows.uptoBulk x.1
 | 0,_,_,_,hN,_=>absurd hN (Nat.not_lt_zero _)
 | N+1,fuel,cs,x,hN,h=>by
  obtain ⟨xs,n,_,rfl,hl,hxl,hf⟩:=DataW.trod_struct Tryd.underlying28 h
  rw [cellsTerm'] at hl
  match xs,hxl,cs,hl with
  | [y0,y1,y2,y3],_,[c0,c1,c2,c3,c4],_ =>
   have g0:DataW.trod enc Tryd.prog W 0 (fun _=>true) true n 23 (([c0,c1,c2,c3,c4].drop 0).take (Tryd.prog.cellsOf 23))=some y0:=hf 0 _ rfl
   have g1:DataW.trod enc Tryd.prog W 0 (fun _=>true) true n 9 (([c0,c1,c2,c3,c4].drop 1).take (Tryd.prog.cellsOf 9))=some y1:=hf 1 _ rfl
   have g2:DataW.trod enc Tryd.prog W 0 (fun _=>true) true n 26 (([c0,c1,c2,c3,c4].drop 2).take (Tryd.prog.cellsOf 26))=some y2:=hf 2 _ rfl
   have g3:DataW.trod enc Tryd.prog W 0 (fun _=>true) true n 22 (([c0,c1,c2,c3,c4].drop 4).take (Tryd.prog.cellsOf 22))=some y3:=hf 3 _ rfl
   rw [cellsKind'] at g0
   rw [cellsStr'] at g1
   rw [cellsInt'] at g2
   rw [cellsTerms'] at g3
   simp only [List.drop_zero,List.drop_succ_cons,List.take_succ_cons,List.take_zero] at g0 g1 g2 g3
   obtain ⟨k,hk,_,hkw⟩:=DataW.trod_int Tryd.underlying23 g0
   obtain ⟨s,hs,b1⟩:=str_in g1
   obtain ⟨b,v,l,hi,r2,b2⟩:=int_in g2
   have hB:Rows.uptoBulk (DataW.agg ([y0,y1,y2,y3].map (·.1)))=Rows.uptoBulk y0.1+(Rows.uptoBulk y1.1+(Rows.uptoBulk y2.1+(Rows.uptoBulk y3.1+0)))+1:=rfl
   have p0:=bulk_pos y0.1
   rw [hB] at hN ⊢
   obtain ⟨u,m,hu,r3,b3⟩:=row_in (s:=.tm) Tryd.underlying22 cellsTerm' cntKi (fun n cs y hy ht=>term_inK N n cs y (by omega) ht) g3
   have hdr:∀ x∈l,x<4294967296:=by
    cases r2 with
    | sl _ hg=>exact hg.2
   have hkr:0≤k∧k≤255:=by
    have e1:IntKind.u8.min=0:=rfl
    have e2:IntKind.u8.max=255:=rfl
    simp [Lit.wf,e1,e2] at hkw
    omega
   cases hk; cases hs; cases hi; cases hu
   refine ⟨.mk k s b l m,⟨rfl,fun j x hj=>?_⟩,?_⟩
   · match j,hj with
     | 0,hj=>cases hj; exact ⟨_,rfl,.v _ rfl⟩
     | 1,hj=>cases hj; exact ⟨_,rfl,.v _ rfl⟩
     | 2,hj=>cases hj; exact ⟨_,rfl,.v _ rfl⟩
     | 3,hj=>cases hj; exact ⟨_,rfl,r2⟩
     | 4,hj=>cases hj; exact ⟨_,rfl,r3⟩
     | j+5,hj=>cases hj
   · rw [cntKi_sum] at b3
     rw [cntKi,cntT,badT,if_pos ⟨hkr,hdr⟩]
     omega
theorem term_atK {base:Nat} {v:Value} {d:DataW H} {p:List MemPlace} (hv:Value.okWide Tryd.prog W .any base 28 v) (h:DataW.Trod enc Tryd.prog W 0 (fun _=>true) true 28 v d p):∃ q,PR (H0 W) B0 v (tmP q)∧cntT q+1000000000 * badT q≤Rows.uptoBulk d:=by
 obtain ⟨cs,rfl,hsz⟩:=okWide_struct Tryd.underlying28 hv
 obtain ⟨fuel,hf⟩:=h
 obtain ⟨q,h1,h2⟩:=term_inK _ _ _ _ (Nat.lt_succ_self _) hf
 exact ⟨q,agg_in rfl h1,h2⟩
end
end Go.Proofs.YtdeacbdpmdfgdaaDoor
namespace Go.Proofs.YtdeacbdpmdfgdaaDoor
open Go.ChangeShapes Go.WideShapes Go.ChangeAt Go.RowKit
theorem gTabT : Tryd.prog.globalNamed "internal/strconv.uint64pow10" = some 1 := by kernel_rfl
theorem gTabTypeT:(Tryd.prog.globals[1]?).map (·.type)=some 215:=by kernel_rfl
theorem cellsTabT:Tryd.prog.cellsOf 215=20:=by kernel_rfl
theorem cellsU64T:Tryd.prog.cellsOf 142=1:=by kernel_rfl
set_option maxRecDepth 100000 in
theorem tabT {W : World} {laid : List (String × DataW Unit)} (hf : (laid.filter fun x => x.1 == "internal/strconv.uint64pow10") = [("internal/strconv.uint64pow10", Rows.laid_internal_strconv_uint64pow10)]) (h : laidMetH Tryd.prog laid W) : Tab W := by
 have := h.filter fun x => x.1 == "internal/strconv.uint64pow10"
 rw [hf,show (Rows.laid_internal_strconv_uint64pow10:DataW Unit)=Lib.tabData .u64 Lib.pow10Tab by kernel_rfl] at this
 exact Lib.tabIs_of_head (rest:=[]) gTabT gTabTypeT Tryd.underlying215 Tryd.underlying142 cellsU64T cellsTabT this
end Go.Proofs.YtdeacbdpmdfgdaaDoor
namespace Go.Proofs.YtdeacbdpmdfgdaaDoor
theorem max_at {W:World} (h:W.ShapedOpen Tryd.prog):∃ m,H0 W 0 0=some (.int .i64 m) :=
 cell_of_shapedOpen_int (t:=3) (zero:=#[.int .i64 0]) h (of_decide_eq_true (by kernel_rfl)) (by kernel_rfl) (by kernel_rfl) (by kernel_rfl) (by kernel_rfl) (by kernel_rfl)
end Go.Proofs.YtdeacbdpmdfgdaaDoor
namespace Go.Proofs.YtdeacbdpmdfgdaaDoor
open Go.ChangeShapes Go.WideShapes Go.ChangeAt Go.RowKit
theorem err_in {W:World} {n nm:String} {g:Nat} {d:DataW Unit} (hg:Tryd.prog.globalNamed n=some g) (ht:(Tryd.prog.globals[g]?).map (·.type)=some 165) (h:laidMet Tryd.prog [(n,.iface nm d)] W):∃ e,H0 W g 0=some e∧errIs e:=by
 obtain ⟨ps,⟨g0,t0,cs0,f0,p0,q0,hg0,ht0,hv0,hd0,_⟩,hnd,hrows⟩:=h
 obtain rfl:=Option.some.inj (hg.symm.trans hg0)
 obtain rfl:=Option.some.inj (ht.symm.trans ht0)
 obtain ⟨f1,u,v,e,hn,h1⟩:=iface_of_trod (Tryd.underlying165) hd0
 refine ⟨.iface u v,?_,.inr ⟨u,v,rfl⟩⟩
 have h2:=World.var?_cell hg0 hv0 0
 have h3:cs0[0]?=some (Value.iface u v):=by
  rw [← Array.getElem?_toList,e]; rfl
 rw [h3] at h2
 exact h2
theorem errsT {W : World} {laid : List (String × DataW Unit)} (h1 : (laid.filter fun x => x.1 == "strconv.ErrSyntax") = [("strconv.ErrSyntax", Rows.laid_strconv_ErrSyntax)]) (h2 : (laid.filter fun x => x.1 == "strconv.ErrRange") = [("strconv.ErrRange", Rows.laid_strconv_ErrRange)]) (h : laidMetH Tryd.prog laid W) :
  (∃ e,H0 W 2 0=some e∧errIs e)∧∃ e,H0 W 3 0=some e∧errIs e:=by
 have h3 := h.filter fun x => x.1 == "strconv.ErrSyntax"
 have h4 := h.filter fun x => x.1 == "strconv.ErrRange"
 rw [h1] at h3
 rw [h2] at h4
 exact ⟨err_in (by kernel_rfl) (by kernel_rfl) (laidMetH_iff.1 h3).1,err_in (by kernel_rfl) (by kernel_rfl) (laidMetH_iff.1 h4).1⟩
end Go.Proofs.YtdeacbdpmdfgdaaDoor
