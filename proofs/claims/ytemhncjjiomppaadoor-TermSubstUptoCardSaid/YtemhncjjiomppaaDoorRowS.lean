/- A row of texts that came in, its texts counted. -/
import Derived.Test.YtemhncjjiomppaaDoorCn
import Derived.Test.YtemhncjjiomppaaDoorRows
import Derived.WalkKit
import Derived.ProofKit
import Derived.OpenShut
import Derived.Deep.Slices
import Derived.Test.YtemhncjjiomppaaDoorKx
import Derived.Test.YtemhncjjiomppaaDoorEz
import Derived.Test.YtemhncjjiomppaaDoorCards
import Derived.Test.YtemhncjjiomppaaDoorTie
import Derived.LaidSub
import Derived.Deep.DeepHandedRow
import Derived.Lib.LaidTab
import Derived.Carry
namespace Go.Proofs.YtemhncjjiomppaaDoor
open Go.ChangeShapes Go.WideShapes Go.ChangeAt Go.RowKit Go.Deep
set_option linter.unusedVariables false
set_option maxRecDepth 100000
def H0 (W:World):Hp:=fun b j=>W.cell? ⟨b,j,none⟩
theorem fro0 (W:World):Fro (H0 W) W:=fun _ _ _ h=>h
def InE (W:World) (s:Sh) (cs:List Value) (q:s.T):Prop:=cs.length=s.k∧∀ (j:Nat) x,(s.cells q)[j]?=some x→∃ v,cs[j]?=some v∧Rd (H0 W) v x
theorem Sh.k_pos:∀ s:Sh,0<s.k:=by intro s; cases s <;> decide
theorem QjC {H:Type} (D:Nat→DataW H) (f:Nat→Nat):∀ n,(∀ i,i<n→f i≤Rows.uptoBulk (D i))→((List.range n).map f).sum≤Rows.uptoBulkAll ((List.range n).map D):=by
 have app:∀ l m:List (DataW H),Rows.uptoBulkAll (l++m)=Rows.uptoBulkAll l+Rows.uptoBulkAll m:=by
  intro l m
  induction l with
  | nil=>simp [Rows.uptoBulkAll]
  | cons x l ih=>simp only [List.cons_append,Rows.uptoBulkAll,ih]; omega
 intro n
 induction n with
 | zero=>intro _; exact Nat.le_refl _
 | succ n ih =>
  intro h
  have h1:=ih fun i hi=>h i (by omega)
  have h2:=h n (by omega)
  simp only [List.range_succ,List.map_append,List.sum_append,app,List.map_cons,List.map_nil,List.sum_cons,List.sum_nil,Rows.uptoBulkAll]
  omega
theorem Qpp {H:Type} {D:Nat→DataW H} {n i:Nat} (h:i<n):Rows.uptoBulk (D i)≤Rows.uptoBulkAll ((List.range n).map D):=by
 have h1:=QjC D (fun j=>if j=i then Rows.uptoBulk (D i) else 0) n (fun j hj=>by split <;> simp_all)
 refine Nat.le_trans ?_ h1
 have:∀ m,i<m→Rows.uptoBulk (D i)≤((List.range m).map (fun j=>if j=i then Rows.uptoBulk (D i) else 0)).sum:=by
  intro m
  induction m with
  | zero=>intro h; omega
  | succ m ih =>
   intro h
   simp only [List.range_succ,List.map_append,List.sum_append,List.map_cons,List.map_nil,List.sum_cons,List.sum_nil]
   by_cases hm:m=i
   · rw [if_pos hm]; omega
   · have:=ih (by omega); omega
 exact this n h
section
variable {H : Type} {enc : TypeId × Value → H} {W : World}
theorem Qeq {s:Sh} {e t:TypeId} {fuel:Nat} {cs:List Value} {x:DataW H × List MemPlace} (ht:Tryd.prog.underlying t=some (.slice e)) (hk:Tryd.prog.cellsOf e=s.k) (sz:s.T→Nat)
  (hel:∀ n cs y,Rows.uptoBulk y.1<Rows.uptoBulk x.1→DataW.trod enc Tryd.prog W 0 (fun _=>true) true n e cs=some y→∃ q,InE W s cs q∧sz q≤Rows.uptoBulk y.1)
  (h:DataW.trod enc Tryd.prog W 0 (fun _=>true) true fuel t cs=some x):∃ v l,cs=[v]∧Rd (H0 W) v (.dt s l)∧(l.map sz).sum+1≤Rows.uptoBulk x.1:=by
 have view:∀ l:List s.T,(Lf.dt s l).view=some (s.k,l.length,fun i=>s.cells (l.getD i s.nil)):=fun _=>rfl
 rcases open_slice ht h with ⟨rfl,rfl⟩ | ⟨a,len,cap,m,n,D,Pl,rfl,_,hl,hm,hmm,rfl,hx⟩
 · exact ⟨_,[],rfl,.slf (fun _=>rfl) (view []) trivial (Nat.le_refl _) (by unfold maxLen; omega) (fun _=>rfl) 0 0 (fun _ _=>undef) (fun h=>by cases h) (fun i h=>by cases h) (fun i h=>by cases h) (fun i h=>by cases h),by simp [Rows.uptoBulk]⟩
 simp only [if_true] at hmm
 subst hmm
 have hb:Rows.uptoBulk (DataW.slice ((List.range len).map D) ((List.range (m - len)).map fun j=>D (len+j)))=Rows.uptoBulkAll ((List.range len).map D)+Rows.uptoBulkAll ((List.range (m - len)).map fun j=>D (len+j))+1:=rfl
 have each:∀ i,i<len→∃ q:List Value × s.T,W.cells? 0 (a.add (i * s.k)) s.k=some q.1∧InE W s q.1 q.2∧sz q.2≤Rows.uptoBulk (D i):=by
  intro i hi
  obtain ⟨cs',h1,h2⟩:=hx i (by omega)
  have h3:=Qpp (D:=D) hi
  obtain ⟨q,h4,h5⟩:=hel n cs' _ (by dsimp only; rw [hb]; omega) h2
  rw [hk] at h1
  exact ⟨(cs',q),h1,h4,h5⟩
 haveI:Inhabited s.T:=⟨s.nil⟩
 obtain ⟨q,hq⟩:=choose_lt each
 obtain ⟨l,hL⟩:∃ l,l=(List.range len).map fun i=>(q i).2:=⟨_,rfl⟩
 have hlen:l.length=len:=by rw [hL]; simp
 have hat:∀ i,i<len→l.getD i s.nil=(q i).2:=fun i hi=>by
  rw [hL,List.getD_eq_getElem?_getD,List.getElem?_map,List.getElem?_range hi]; rfl
 have hsum:(l.map sz).sum=((List.range len).map fun i=>sz (q i).2).sum:=by rw [hL,List.map_map]; rfl
 clear hL
 subst hlen
 have key:∃ b o,0<l.length→a=⟨b,o,none⟩:=by
  by_cases h0:0<l.length
  · obtain ⟨h1,-⟩:=hq 0 h0
    obtain ⟨_,h2,h3⟩:=World.cells?_some h1
    have h4:=h3 0 s.k_pos
    rw [List.getElem?_eq_getElem (by have:=s.k_pos; omega)] at h4
    obtain ⟨b,o,sp⟩:=a
    refine ⟨b,o,fun _=>?_⟩
    cases sp with
    | none=>rfl
    | some sp =>
     exfalso
     unfold Addr.add World.cell? at h4
     simp at h4
     split at h4 <;> cases h4
  · exact ⟨0,0,fun h=>absurd h h0⟩
 obtain ⟨b,o,key⟩:=key
 refine ⟨_,l,rfl,Rd.slf (f:=.dt s l) (fun _=>rfl) (view l) trivial hl hm (fun h=>by cases h) b o (fun i j=>(q i).1.getD j undef) (fun h=>by rw [key h]) (fun i hi j hj=>?_) (fun i hi=>Sh.cells_len s _) (fun i hi j x hj=>?_),?_⟩
 · obtain ⟨h1,-⟩:=hq i hi
   obtain ⟨_,h2,h3⟩:=World.cells?_some h1
   have h4:=h3 j hj
   rw [key (by omega),List.getElem?_eq_getElem (by omega)] at h4
   show W.cell? ⟨b,o+i * s.k+j,none⟩=_
   rw [List.getD_eq_getElem?_getD,List.getElem?_eq_getElem (by omega),Option.getD_some,← h4]
   rw [add_add]
   unfold Addr.add
   by_cases h0:i * s.k+j=0
   · have e1:o+i * s.k+j=o:=by omega
     rw [if_pos h0,e1]
   · rw [if_neg h0]
     simp [Nat.add_assoc]
 · obtain ⟨-,h2,-⟩:=hq i hi
   have hj:(s.cells (l.getD i s.nil))[j]?=some x:=hj
   rw [hat i hi] at hj
   obtain ⟨v,h3,h4⟩:=h2.2 j x hj
   rw [List.getD_eq_getElem?_getD,h3]
   exact h4
 · rw [hb,hsum]
   have:=QjC D (fun i=>sz (q i).2) l.length fun i hi=>(hq i hi).2.2
   omega
theorem Qmb:Tryd.prog.cellsOf 57=1:=by kernel_rfl
theorem Qnb {fuel:Nat} {cs:List Value} {x:DataW H × List MemPlace} (h:DataW.trod enc Tryd.prog W 0 (fun _=>true) true fuel 25 cs=some x) :
  ∃ v l,cs=[v]∧Rd (H0 W) v (.lr l l.length)∧l.length+1≤Rows.uptoBulk x.1:=by
 have lits_bulk:∀ (k:IntKind) (l:List Int),Rows.uptoBulkAll (lits (H:=H) k l)=l.length:=by
  intro k l
  induction l with
  | nil=>rfl
  | cons z l ih =>
   show 1+Rows.uptoBulkAll (lits (H:=H) k l)=l.length+1
   omega
 rcases open_ints Tryd.underlying25 Tryd.underlying57 Qmb h with ⟨rfl,rfl⟩ | ⟨a,len,cap,zs,rfl,_,hl,hm,hz,rfl,hcell,hwz⟩
 · exact ⟨_,[],rfl,.slf (fun _=>rfl) (f:=.lr [] 0) (k:=1) (n:=0) (get:=fun i=>[.v (.int .u32 (([]:List Nat).getD i 0:Nat))]) rfl ⟨Nat.le_refl _,by simp⟩ (Nat.le_refl _) (by unfold maxLen; omega) (fun _=>rfl) 0 0 (fun _ _=>undef) (fun h=>by omega) (fun i h=>by omega) (fun i h=>by omega) (fun i h=>by omega),by simp [Rows.uptoBulk]⟩
 simp only [if_true] at hz
 have hb:∀ z∈zs,0≤z∧z<4294967296:=fun z h=>by
  have h5:=hwz z h
  have e1:IntKind.u32.min=0:=rfl
  have e2:IntKind.u32.max=4294967295:=rfl
  simp [Lit.wf,e1,e2] at h5
  omega
 have hlen:((zs.take len).map Int.toNat).length=len:=by simp; omega
 have hat:∀ i,i<len→((((zs.take len).map Int.toNat).getD i 0:Nat):Int)=zs.getD i 0:=fun i hi=>by
  have hiz:i<zs.length:=by omega
  have:=hb zs[i] (List.getElem_mem _)
  simp only [List.getD_eq_getElem?_getD,List.getElem?_map,List.getElem?_take,if_pos hi,List.getElem?_eq_getElem hiz,Option.map_some,Option.getD_some]
  omega
 have key:∃ b o,0<len→a=⟨b,o,none⟩:=by
  by_cases h0:0<len
  · have h4:=hcell 0 (by omega)
    obtain ⟨b,o,sp⟩:=a
    refine ⟨b,o,fun _=>?_⟩
    cases sp with
    | none=>rfl
    | some sp =>
     exfalso
     unfold Addr.add World.cell? at h4
     simp at h4
     split at h4 <;> cases h4
  · exact ⟨0,0,fun h=>absurd h h0⟩
 obtain ⟨b,o,key⟩:=key
 obtain ⟨l,hl'⟩:∃ l,l=(zs.take len).map Int.toNat:=⟨_,rfl⟩
 rw [← hl'] at hlen hat
 subst hlen
 refine ⟨_,l,rfl,.slf (fun _=>rfl) (f:=.lr l l.length) rfl ⟨Nat.le_refl _,fun x hx=>?_⟩ hl hm (fun h=>by cases h) b o (fun i _=>.int .u32 (zs.getD i 0)) (fun h=>by rw [key h]) (fun i hi j hj=>?_) (fun i hi=>rfl) (fun i hi j x hx=>?_),?_⟩
 · rw [hl'] at hx
   obtain ⟨z,hz',rfl⟩:=List.mem_map.1 hx
   have:=hb z (List.mem_of_mem_take hz')
   omega
 · have h4:=hcell i (by omega)
   have hj0:j=0:=by omega
   subst hj0
   rw [key (by omega)] at h4
   show W.cell? ⟨b,o+i * 1+0,none⟩=_
   rw [← h4]
   unfold Addr.add
   by_cases h0:i=0
   · subst h0; simp
   · rw [if_neg h0]; simp
 · match j,hx with
   | 0,hx =>
    simp at hx; subst hx
    have:=hat i hi
    rw [List.getD_eq_getElem?_getD] at this
    rw [this]
    exact .v _ rfl
   | j+1,hx=>simp at hx
 · show l.length+1≤Rows.uptoBulkAll (lits .u32 (zs.take l.length))+Rows.uptoBulkAll (lits .u32 (zs.drop l.length))+1
   rw [lits_bulk,List.length_take]
   omega
theorem Qei {fuel:Nat} {cs:List Value} {x:DataW H × List MemPlace} (h:DataW.trod enc Tryd.prog W 0 (fun _=>true) true fuel 9 cs=some x) :
  ∃ s:ByteArray,cs=[.string s]∧s.size+1≤Rows.uptoBulk x.1:=by
 obtain ⟨s,rfl,rfl,_⟩:=DataW.trod_string Tryd.underlying9 h
 exact ⟨s,rfl,Nat.le_of_eq (by show s.size+1=s.data.toList.length+1; rw [Array.length_toList]; rfl)⟩
theorem Qpq {fuel:Nat} {cs:List Value} {x:DataW H × List MemPlace} (h:DataW.trod enc Tryd.prog W 0 (fun _=>true) true fuel 4 cs=some x):∃ b,cs=[.bool b]:=by
 obtain ⟨b,hb,_⟩:=DataW.trod_bool Tryd.underlying4 h
 exact ⟨b,hb⟩
theorem Qko:Tryd.prog.cellsOf 4=1:=by kernel_rfl
theorem QbI:Tryd.prog.cellsOf 9=1:=by kernel_rfl
theorem Qiq:Tryd.prog.cellsOf 25=1:=by kernel_rfl
theorem Qht:Tryd.prog.cellsOf 27=2:=by kernel_rfl
theorem QjB (d:DataW H):1≤Rows.uptoBulk d:=by
 cases d with
 | lit l=>cases l <;> simp [Rows.uptoBulk]
 | _=>simp [Rows.uptoBulk]
theorem int_in {fuel:Nat} {cs:List Value} {x:DataW H × List MemPlace} (h:DataW.trod enc Tryd.prog W 0 (fun _=>true) true fuel 27 cs=some x) :
  ∃ b v l,cs=[.bool b,v]∧Rd (H0 W) v (.lr l l.length)∧l.length+2≤Rows.uptoBulk x.1:=by
 obtain ⟨y0,y1,n,rfl,hl,h0,h1⟩:=trod_struct2 Tryd.underlying27 h
 dsimp only at h0 h1
 rw [Qko] at h0
 rw [Qiq] at h1
 rw [Qht] at hl
 match cs,hl with
 | [c0,c1],_ =>
  simp only [List.drop_zero,List.drop_succ_cons,List.take_succ_cons,List.take_zero] at h0 h1
  obtain ⟨b,hb⟩:=Qpq h0
  obtain ⟨v,l,hv,h2,h3⟩:=Qnb h1
  cases hb; cases hv
  refine ⟨b,_,l,rfl,h2,?_⟩
  have:=QjB y0.1
  simp only [Rows.uptoBulk,Rows.uptoBulkAll]
  omega
theorem QdC:Tryd.prog.cellsOf 30=5:=by kernel_rfl
theorem Qkm:Tryd.prog.cellsOf 24=1:=by kernel_rfl
theorem Qip:Tryd.prog.cellsOf 28=1:=by kernel_rfl
theorem Qe0:∀ l:List Tw,(l.map cntT).sum=QaB l
 | []=>rfl
 | t::l=>by rw [List.map_cons,List.sum_cons,Qe0 l,QaB]
set_option maxRecDepth 100000 in
theorem QhH:∀ (N fuel:Nat) (cs:List Value) (x:DataW H × List MemPlace),Rows.uptoBulk x.1<N→DataW.trod enc Tryd.prog W 0 (fun _=>true) true fuel 30 cs=some x →
  ∃ q:Tw,InE W .tm cs q∧cntT q≤Rows.uptoBulk x.1
 | 0,_,_,_,hN,_=>absurd hN (Nat.not_lt_zero _)
 | N+1,fuel,cs,x,hN,h=>by
  obtain ⟨xs,n,_,rfl,hl,hxl,hf⟩:=DataW.trod_struct Tryd.underlying30 h
  rw [QdC] at hl
  match xs,hxl,cs,hl with
  | [y0,y1,y2,y3],_,[c0,c1,c2,c3,c4],_ =>
   have g0:DataW.trod enc Tryd.prog W 0 (fun _=>true) true n 24 (([c0,c1,c2,c3,c4].drop 0).take (Tryd.prog.cellsOf 24))=some y0:=hf 0 _ rfl
   have g1:DataW.trod enc Tryd.prog W 0 (fun _=>true) true n 9 (([c0,c1,c2,c3,c4].drop 1).take (Tryd.prog.cellsOf 9))=some y1:=hf 1 _ rfl
   have g2:DataW.trod enc Tryd.prog W 0 (fun _=>true) true n 27 (([c0,c1,c2,c3,c4].drop 2).take (Tryd.prog.cellsOf 27))=some y2:=hf 2 _ rfl
   have g3:DataW.trod enc Tryd.prog W 0 (fun _=>true) true n 28 (([c0,c1,c2,c3,c4].drop 4).take (Tryd.prog.cellsOf 28))=some y3:=hf 3 _ rfl
   rw [Qkm] at g0
   rw [QbI] at g1
   rw [Qht] at g2
   rw [Qip] at g3
   simp only [List.drop_zero,List.drop_succ_cons,List.take_succ_cons,List.take_zero] at g0 g1 g2 g3
   obtain ⟨k,hk,_⟩:=DataW.trod_int Tryd.underlying24 g0
   obtain ⟨s,hs,b1⟩:=Qei g1
   obtain ⟨b,v,l,hi,r2,b2⟩:=int_in g2
   have hB:Rows.uptoBulk (DataW.agg ([y0,y1,y2,y3].map (·.1)))=Rows.uptoBulk y0.1+(Rows.uptoBulk y1.1+(Rows.uptoBulk y2.1+(Rows.uptoBulk y3.1+0)))+1:=rfl
   have p0:=QjB y0.1
   rw [hB] at hN ⊢
   obtain ⟨u,m,hu,r3,b3⟩:=Qeq (s:=.tm) Tryd.underlying28 QdC cntT (fun n cs y hy ht=>QhH N n cs y (by omega) ht) g3
   cases hk; cases hs; cases hi; cases hu
   refine ⟨.mk k s b l m,⟨rfl,fun j x hj=>?_⟩,?_⟩
   · match j,hj with
     | 0,hj=>cases hj; exact ⟨_,rfl,.v _ rfl⟩
     | 1,hj=>cases hj; exact ⟨_,rfl,.v _ rfl⟩
     | 2,hj=>cases hj; exact ⟨_,rfl,.v _ rfl⟩
     | 3,hj=>cases hj; exact ⟨_,rfl,r2⟩
     | 4,hj=>cases hj; exact ⟨_,rfl,r3⟩
     | j+5,hj=>cases hj
   · rw [Qe0] at b3
     rw [cntT]
     omega
set_option maxRecDepth 100000 in
theorem QmE {fuel:Nat} {cs:List Value} {x:DataW H × List MemPlace} (h:DataW.trod enc Tryd.prog W 0 (fun _=>true) true fuel 28 cs=some x):∃ v l,cs=[v]∧Rd (H0 W) v (.dt .tm l)∧QaB l+1≤Rows.uptoBulk x.1:=by
 obtain ⟨v,l,h1,h2,h3⟩:=Qeq (s:=.tm) Tryd.underlying28 QdC cntT (fun n cs y _ ht=>QhH _ n cs y (Nat.lt_succ_self _) ht) h
 rw [Qe0] at h3
 exact ⟨v,l,h1,h2,h3⟩
theorem Qi7 {α:Type}:∀ l:List α,(l.map fun _=>1).sum=l.length
 | []=>rfl
 | x::l=>by rw [List.map_cons,List.sum_cons,Qi7 l,List.length_cons]; omega
theorem Qon {fuel:Nat} {cs:List Value} {x:DataW H × List MemPlace} (h:DataW.trod enc Tryd.prog W 0 (fun _=>true) true fuel 31 cs=some x):∃ v l,cs=[v]∧Rd (H0 W) v (.dt .str l)∧l.length+1≤Rows.uptoBulk x.1:=by
 obtain ⟨v,l,h1,h2,h3⟩:=Qeq (s:=.str) Tryd.underlying31 QbI (fun _=>1) (fun n cs y _ ht=>by
  obtain ⟨q,hq,hb⟩:=Qei ht
  refine ⟨q,⟨by rw [hq]; rfl,fun j x hj=>?_⟩,by omega⟩
  match j,hj with
  | 0,hj=>cases hj; exact ⟨_,by rw [hq]; rfl,.v _ rfl⟩
  | j+1,hj=>cases hj) h
 rw [Qi7] at h3
 exact ⟨v,l,h1,h2,h3⟩
theorem Qhv:Tryd.prog.cellsOf 115=2:=by kernel_rfl
theorem Qkl:Tryd.prog.cellsOf 31=1:=by kernel_rfl
theorem Qhu:Tryd.prog.cellsOf 113=2:=by kernel_rfl
theorem Qkn:Tryd.prog.cellsOf 111=1:=by kernel_rfl
theorem Qhs:Tryd.prog.cellsOf 156=2:=by kernel_rfl
def szCn (c:Cn):Nat:=1+c.name.size / 8+c.fields.length
def QmH (d:Dat):Nat:=1+d.name.size / 8+cntK d.cons
theorem Qjt:∀ l:List Cn,(l.map szCn).sum=cntK l
 | []=>rfl
 | t::l=>by rw [List.map_cons,List.sum_cons,Qjt l,cntK]; rfl
theorem Qjv:∀ l:List Dat,(l.map QmH).sum=cntD l
 | []=>rfl
 | t::l=>by rw [List.map_cons,List.sum_cons,Qjv l,cntD]; rfl
theorem con_in {fuel:Nat} {cs:List Value} {x:DataW H × List MemPlace} (h:DataW.trod enc Tryd.prog W 0 (fun _=>true) true fuel 115 cs=some x) :
  ∃ q:Cn,InE W .con cs q∧szCn q≤Rows.uptoBulk x.1:=by
 obtain ⟨y0,y1,n,rfl,hl,h0,h1⟩:=trod_struct2 Tryd.underlying115 h
 dsimp only at h0 h1
 rw [QbI] at h0
 rw [Qkl] at h1
 rw [Qhv] at hl
 match cs,hl with
 | [c0,c1],_ =>
  simp only [List.drop_zero,List.drop_succ_cons,List.take_succ_cons,List.take_zero] at h0 h1
  obtain ⟨s,hs,b0⟩:=Qei h0
  obtain ⟨v,l,hv,h2,h3⟩:=Qon h1
  cases hs; cases hv
  refine ⟨⟨s,l⟩,⟨rfl,fun j x hj=>?_⟩,?_⟩
  · match j,hj with
    | 0,hj=>cases hj; exact ⟨_,rfl,.v _ rfl⟩
    | 1,hj=>cases hj; exact ⟨_,rfl,h2⟩
    | j+2,hj=>cases hj
  · simp only [Rows.uptoBulk,Rows.uptoBulkAll,szCn]
    omega
theorem dat_in {fuel:Nat} {cs:List Value} {x:DataW H × List MemPlace} (h:DataW.trod enc Tryd.prog W 0 (fun _=>true) true fuel 113 cs=some x) :
  ∃ q:Dat,InE W .dat cs q∧QmH q≤Rows.uptoBulk x.1:=by
 obtain ⟨y0,y1,n,rfl,hl,h0,h1⟩:=trod_struct2 Tryd.underlying113 h
 dsimp only at h0 h1
 rw [QbI] at h0
 rw [Qkn] at h1
 rw [Qhu] at hl
 match cs,hl with
 | [c0,c1],_ =>
  simp only [List.drop_zero,List.drop_succ_cons,List.take_succ_cons,List.take_zero] at h0 h1
  obtain ⟨s,hs,b0⟩:=Qei h0
  obtain ⟨v,l,hv,h2,h3⟩:=Qeq (s:=.con) Tryd.underlying111 Qhv szCn (fun n cs y _ ht=>con_in ht) h1
  rw [Qjt] at h3
  cases hs; cases hv
  refine ⟨⟨s,l⟩,⟨rfl,fun j x hj=>?_⟩,?_⟩
  · match j,hj with
    | 0,hj=>cases hj; exact ⟨_,rfl,.v _ rfl⟩
    | 1,hj=>cases hj; exact ⟨_,rfl,h2⟩
    | j+2,hj=>cases hj
  · simp only [Rows.uptoBulk,Rows.uptoBulkAll,QmH]
    omega
theorem Qo4 {fuel:Nat} {cs:List Value} {x:DataW H × List MemPlace} (h:DataW.trod enc Tryd.prog W 0 (fun _=>true) true fuel 22 cs=some x):∃ v l,cs=[v]∧Rd (H0 W) v (.dt .dat l)∧cntD l+1≤Rows.uptoBulk x.1:=by
 obtain ⟨v,l,h1,h2,h3⟩:=Qeq (s:=.dat) Tryd.underlying22 Qhu QmH (fun n cs y _ ht=>dat_in ht) h
 rw [Qjv] at h3
 exact ⟨v,l,h1,h2,h3⟩
theorem Qor {fuel:Nat} {cs:List Value} {x:DataW H × List MemPlace} (h:DataW.trod enc Tryd.prog W 0 (fun _=>true) true fuel 23 cs=some x):∃ v l,cs=[v]∧Rd (H0 W) v (.dt .srt l)∧(l.map fun s:Srt=>s.name.size+s.sort.size+2).sum+1≤Rows.uptoBulk x.1:=by
 exact Qeq (s:=.srt) Tryd.underlying23 Qhs (fun s:Srt=>s.name.size+s.sort.size+2) (fun n cs y _ ht=>by
  obtain ⟨y0,y1,n,rfl,hl,h0,h1⟩:=trod_struct2 Tryd.underlying156 ht
  dsimp only at h0 h1
  rw [QbI] at h0 h1
  rw [Qhs] at hl
  match cs,hl with
  | [c0,c1],_ =>
   simp only [List.drop_zero,List.drop_succ_cons,List.take_succ_cons,List.take_zero] at h0 h1
   obtain ⟨s,hs,b0⟩:=Qei h0
   obtain ⟨s',hs',b1⟩:=Qei h1
   cases hs; cases hs'
   refine ⟨⟨s,s'⟩,⟨rfl,fun j x hj=>?_⟩,?_⟩
   · match j,hj with
     | 0,hj=>cases hj; exact ⟨_,rfl,.v _ rfl⟩
     | 1,hj=>cases hj; exact ⟨_,rfl,.v _ rfl⟩
     | j+2,hj=>cases hj
   · simp only [Rows.uptoBulk,Rows.uptoBulkAll]
     omega) h
theorem agg_in {s:Sh} {cs:List Value} {q:s.T} {v:Array Value} (hv:v.toList=cs) (h:InE W s cs q):PR (H0 W) B0 (.agg v) (.agg (Qad (s.cells q))):=by
 have hw:∀ l:List Lf,(Qad l).length=l.length∧∀ (i:Nat) y,(Qad l)[i]?=some y→∃ x,l[i]?=some x∧y=PV.f x:=by
  intro l
  induction l with
  | nil=>exact ⟨rfl,fun i y h=>by cases h⟩
  | cons x l ih =>
   refine ⟨by show (Qad l).length+1=_; rw [ih.1]; rfl,fun i y h=>?_⟩
   cases i with
   | zero=>cases h; exact ⟨x,rfl,rfl⟩
   | succ i=>exact ih.2 i y h
 obtain ⟨w1,w2⟩:=hw (s.cells q)
 refine PR.agg (by rw [w1,Sh.cells_len,← h.1,← hv]; simp) fun i u y hu hy=>?_
 obtain ⟨x,hx,rfl⟩:=w2 i y hy
 obtain ⟨u',hu',hr⟩:=h.2 i x hx
 have:v.toList[i]?=some u:=by simpa using hu
 rw [hv,hu'] at this
 cases this
 exact .f hr
theorem Qo5 {base:Nat} {v:Value} {d:DataW H} {p:List MemPlace} (hv:Value.okWide Tryd.prog W .any base 22 v) (h:DataW.Trod enc Tryd.prog W 0 (fun _=>true) true 22 v d p):∃ l,PR (H0 W) B0 v (.f (.dt .dat l))∧cntD l+1≤Rows.uptoBulk d:=by
 obtain ⟨a0,len0,cap0,rfl⟩:=okWide_slice Tryd.underlying22 hv
 obtain ⟨fuel,hf⟩:=h
 obtain ⟨v',l,h1,h2,h3⟩:=Qo4 hf
 obtain rfl:Value.slice a0 len0 cap0=v':=by simpa [Value.cells] using h1
 exact ⟨l,.f h2,h3⟩
theorem Qos {base:Nat} {v:Value} {d:DataW H} {p:List MemPlace} (hv:Value.okWide Tryd.prog W .any base 23 v) (h:DataW.Trod enc Tryd.prog W 0 (fun _=>true) true 23 v d p):∃ l,PR (H0 W) B0 v (.f (.dt .srt l))∧(l.map fun s:Srt=>s.name.size+s.sort.size+2).sum+1≤Rows.uptoBulk d:=by
 obtain ⟨a0,len0,cap0,rfl⟩:=okWide_slice Tryd.underlying23 hv
 obtain ⟨fuel,hf⟩:=h
 obtain ⟨v',l,h1,h2,h3⟩:=Qor hf
 obtain rfl:Value.slice a0 len0 cap0=v':=by simpa [Value.cells] using h1
 exact ⟨l,.f h2,h3⟩
theorem QmF {base:Nat} {v:Value} {d:DataW H} {p:List MemPlace} (hv:Value.okWide Tryd.prog W .any base 28 v) (h:DataW.Trod enc Tryd.prog W 0 (fun _=>true) true 28 v d p):∃ l,PR (H0 W) B0 v (.f (.dt .tm l))∧QaB l+1≤Rows.uptoBulk d:=by
 obtain ⟨a0,len0,cap0,rfl⟩:=okWide_slice Tryd.underlying28 hv
 obtain ⟨fuel,hf⟩:=h
 obtain ⟨v',l,h1,h2,h3⟩:=QmE hf
 obtain rfl:Value.slice a0 len0 cap0=v':=by simpa [Value.cells] using h1
 exact ⟨l,.f h2,h3⟩
theorem Qoi {base:Nat} {v:Value} {d:DataW H} {p:List MemPlace} (hv:Value.okWide Tryd.prog W .any base 30 v) (h:DataW.Trod enc Tryd.prog W 0 (fun _=>true) true 30 v d p):∃ q,PR (H0 W) B0 v (tmP q)∧cntT q≤Rows.uptoBulk d:=by
 obtain ⟨cs,rfl,hsz⟩:=okWide_struct Tryd.underlying30 hv
 obtain ⟨fuel,hf⟩:=h
 obtain ⟨q,h1,h2⟩:=QhH _ _ _ _ (Nat.lt_succ_self _) hf
 exact ⟨q,agg_in rfl h1,h2⟩
theorem Qnc:laidOutB Tryd.prog=true:=by kernel_rfl
theorem own':ownKnob Tryd.prog.godebug=none:=by kernel_rfl
theorem QbJ {W':World} {v:Value} {d:DataW H} {p:List MemPlace} (t:TypeId) (hr:Tryd.prog.readableRec t=true) (ht:t<Tryd.prog.types.size) (h:DataW.Trod enc Tryd.prog W 0 (fun _=>true) true t v d p)
  (hlt:∀ x∈p,x.block<W.heap.size) (hb:Below W.heap.size W W'):DataW.Trod enc Tryd.prog W' 0 (fun b=>decide (b<W.heap.size)) true t v d p :=
 Below.trod Qnc hr ht h hb hlt
end
end Go.Proofs.YtemhncjjiomppaaDoor
namespace Go.Proofs.YtemhncjjiomppaaDoor
open Go.ChangeShapes Go.WideShapes Go.ChangeAt Go.RowKit
theorem gTabT : Tryd.prog.globalNamed "internal/strconv.uint64pow10" = some 1 := by kernel_rfl
theorem QlR:(Tryd.prog.globals[1]?).map (·.type)=some 242:=by kernel_rfl
theorem Qmc:Tryd.prog.cellsOf 242=20:=by kernel_rfl
theorem Qma:Tryd.prog.cellsOf 137=1:=by kernel_rfl
set_option maxRecDepth 100000 in
theorem tabT {W : World} {laid : List (String × DataW Unit)} (hf : (laid.filter fun x => x.1 == "internal/strconv.uint64pow10") = [("internal/strconv.uint64pow10", Rows.laid_internal_strconv_uint64pow10)]) (h : laidMetH Tryd.prog laid W) : Tab W := by
 have := h.filter fun x => x.1 == "internal/strconv.uint64pow10"
 rw [hf,show (Rows.laid_internal_strconv_uint64pow10:DataW Unit)=Lib.tabData .u64 Lib.pow10Tab by kernel_rfl] at this
 exact Lib.tabIs_of_head (rest:=[]) gTabT QlR Tryd.underlying242 Tryd.underlying137 Qma Qmc this
end Go.Proofs.YtemhncjjiomppaaDoor
namespace Go.Proofs.YtemhncjjiomppaaDoor
open Go.ChangeShapes Go.WideShapes Go.ChangeAt Go.RowKit Go.Deep
set_option linter.unusedVariables false
set_option maxRecDepth 100000
theorem QiJ:∀ {l:List ByteArray} {s:ByteArray},s∈l→s.size≤(l.map fun s:ByteArray=>s.size+1).sum
 | u::l,s,h=>by
  rw [List.map_cons,List.sum_cons]
  rcases List.mem_cons.1 h with rfl | h
  · omega
  · have:=QiJ h; omega
section
variable {H : Type} {enc : TypeId × Value → H} {W : World}
theorem Qoo {base:Nat} {v:Value} {d:DataW H} {p:List MemPlace} (hv:Value.okWide Tryd.prog W .any base 31 v) (h:DataW.Trod enc Tryd.prog W 0 (fun _=>true) true 31 v d p):∃ l:List ByteArray,PR (H0 W) B0 v (.f (.dt .str l))∧(l.map fun s:ByteArray=>s.size+1).sum+1≤Rows.uptoBulk d:=by
 obtain ⟨a0,len0,cap0,rfl⟩:=okWide_slice Tryd.underlying31 hv
 obtain ⟨fuel,hf⟩:=h
 obtain ⟨v',l,h1,h2,h3⟩:=Qeq (s:=.str) Tryd.underlying31 QbI (fun s:ByteArray=>s.size+1) (fun n cs y _ ht=>by
  obtain ⟨q,hq,hb⟩:=Qei ht
  refine ⟨q,⟨by rw [hq]; rfl,fun j x hj=>?_⟩,hb⟩
  match j,hj with
  | 0,hj=>cases hj; exact ⟨_,by rw [hq]; rfl,.v _ rfl⟩
  | j+1,hj=>cases hj) hf
 obtain rfl:Value.slice a0 len0 cap0=v':=by simpa [Value.cells] using h1
 exact ⟨l,.f h2,h3⟩
end
end Go.Proofs.YtemhncjjiomppaaDoor
