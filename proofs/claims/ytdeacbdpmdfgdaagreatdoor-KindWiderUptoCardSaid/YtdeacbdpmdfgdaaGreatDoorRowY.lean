/- Types, kappas, a name with its sort that came in. -/
import Derived.Test.YtdeacbdpmdfgdaaGreatDoorCn
import Derived.Test.YtdeacbdpmdfgdaaGreatDoorRows
import Derived.WalkKit
import Derived.ProofKit
import Derived.OpenShut
import Derived.Deep.Slices
import Derived.Test.YtdeacbdpmdfgdaaGreatDoorKx
import Derived.Test.YtdeacbdpmdfgdaaGreatDoorEz
import Derived.Test.YtdeacbdpmdfgdaaGreatDoorCards
import Derived.Test.YtdeacbdpmdfgdaaGreatDoorTie
import Derived.LaidSub
import Derived.Deep.DeepHandedRow
import Derived.Lib.LaidTab
import Derived.Test.YtdeacbdpmdfgdaaGreatDoorHs
namespace Go.Proofs.YtdeacbdpmdfgdaaGreatDoor
open Go.ChangeShapes Go.WideShapes Go.ChangeAt Go.RowKit Go.Deep
set_option linter.unusedVariables false
set_option maxRecDepth 100000
def H0 (W:World):Hp:=fun b j=>W.cell? ⟨b,j,none⟩
theorem fro0 (W:World):Fro (H0 W) W:=fun _ _ _ h=>h
def InE (W:World) (s:Sh) (cs:List Value) (q:s.T):Prop:=cs.length=s.k∧∀ (j:Nat) x,(s.cells q)[j]?=some x→∃ v,cs[j]?=some v∧Rd (H0 W) v x
theorem Sh.k_pos:∀ s:Sh,0<s.k:=by intro s; cases s <;> decide
theorem Qlb {H:Type} (D:Nat→DataW H) (f:Nat→Nat):∀ n,(∀ i,i<n→f i≤Rows.uptoBulk (D i))→((List.range n).map f).sum≤Rows.uptoBulkAll ((List.range n).map D):=by
 have app:∀ l m:List (DataW H),Rows.uptoBulkAll (l++m)=Rows.uptoBulkAll l+Rows.uptoBulkAll m:=by
  intro l m
  induction l with
  | nil=>simp [Rows.uptoBulkAll]
  | cons x l ih=>simp only [List.cons_append,Rows.uptoBulkAll,ih]; omega
 intro n
 induction n with
 | zero=>intro _; exact Nat.le_refl _
 | succ n ih =>
  intro h
  have h1:=ih fun i hi=>h i (by omega)
  have h2:=h n (by omega)
  simp only [List.range_succ,List.map_append,List.sum_append,app,List.map_cons,List.map_nil,List.sum_cons,List.sum_nil,Rows.uptoBulkAll]
  omega
theorem Qsa {H:Type} {D:Nat→DataW H} {n i:Nat} (h:i<n):Rows.uptoBulk (D i)≤Rows.uptoBulkAll ((List.range n).map D):=by
 have h1:=Qlb D (fun j=>if j=i then Rows.uptoBulk (D i) else 0) n (fun j hj=>by split <;> simp_all)
 refine Nat.le_trans ?_ h1
 have:∀ m,i<m→Rows.uptoBulk (D i)≤((List.range m).map (fun j=>if j=i then Rows.uptoBulk (D i) else 0)).sum:=by
  intro m
  induction m with
  | zero=>intro h; omega
  | succ m ih =>
   intro h
   simp only [List.range_succ,List.map_append,List.sum_append,List.map_cons,List.map_nil,List.sum_cons,List.sum_nil]
   by_cases hm:m=i
   · rw [if_pos hm]; omega
   · have:=ih (by omega); omega
 exact this n h
section
variable {H : Type} {enc : TypeId × Value → H} {W : World}
theorem Qdu {s:Sh} {e t:TypeId} {fuel:Nat} {cs:List Value} {x:DataW H × List MemPlace} (ht:Tryz.prog.underlying t=some (.slice e)) (hk:Tryz.prog.cellsOf e=s.k) (sz:s.T→Nat)
  (hel:∀ n cs y,Rows.uptoBulk y.1<Rows.uptoBulk x.1→DataW.trod enc Tryz.prog W 0 (fun _=>true) true n e cs=some y→∃ q,InE W s cs q∧sz q≤Rows.uptoBulk y.1)
  (h:DataW.trod enc Tryz.prog W 0 (fun _=>true) true fuel t cs=some x):∃ v l,cs=[v]∧Rd (H0 W) v (.dt s l)∧(l.map sz).sum+1≤Rows.uptoBulk x.1:=by
 have view:∀ l:List s.T,(Lf.dt s l).view=some (s.k,l.length,fun i=>s.cells (l.getD i s.nil)):=fun _=>rfl
 rcases open_slice ht h with ⟨rfl,rfl⟩ | ⟨a,len,cap,m,n,D,Pl,rfl,_,hl,hm,hmm,rfl,hx⟩
 · exact ⟨_,[],rfl,.slf (fun _=>rfl) (view []) trivial (Nat.le_refl _) (by unfold maxLen; omega) (fun _=>rfl) 0 0 (fun _ _=>undef) (fun h=>by cases h) (fun i h=>by cases h) (fun i h=>by cases h) (fun i h=>by cases h),by simp [Rows.uptoBulk]⟩
 simp only [if_true] at hmm
 subst hmm
 have hb:Rows.uptoBulk (DataW.slice ((List.range len).map D) ((List.range (m - len)).map fun j=>D (len+j)))=Rows.uptoBulkAll ((List.range len).map D)+Rows.uptoBulkAll ((List.range (m - len)).map fun j=>D (len+j))+1:=rfl
 have each:∀ i,i<len→∃ q:List Value × s.T,W.cells? 0 (a.add (i * s.k)) s.k=some q.1∧InE W s q.1 q.2∧sz q.2≤Rows.uptoBulk (D i):=by
  intro i hi
  obtain ⟨cs',h1,h2⟩:=hx i (by omega)
  have h3:=Qsa (D:=D) hi
  obtain ⟨q,h4,h5⟩:=hel n cs' _ (by dsimp only; rw [hb]; omega) h2
  rw [hk] at h1
  exact ⟨(cs',q),h1,h4,h5⟩
 haveI:Inhabited s.T:=⟨s.nil⟩
 obtain ⟨q,hq⟩:=choose_lt each
 obtain ⟨l,hL⟩:∃ l,l=(List.range len).map fun i=>(q i).2:=⟨_,rfl⟩
 have hlen:l.length=len:=by rw [hL]; simp
 have hat:∀ i,i<len→l.getD i s.nil=(q i).2:=fun i hi=>by
  rw [hL,List.getD_eq_getElem?_getD,List.getElem?_map,List.getElem?_range hi]; rfl
 have hsum:(l.map sz).sum=((List.range len).map fun i=>sz (q i).2).sum:=by rw [hL,List.map_map]; rfl
 clear hL
 subst hlen
 have key:∃ b o,0<l.length→a=⟨b,o,none⟩:=by
  by_cases h0:0<l.length
  · obtain ⟨h1,-⟩:=hq 0 h0
    obtain ⟨_,h2,h3⟩:=World.cells?_some h1
    have h4:=h3 0 s.k_pos
    rw [List.getElem?_eq_getElem (by have:=s.k_pos; omega)] at h4
    obtain ⟨b,o,sp⟩:=a
    refine ⟨b,o,fun _=>?_⟩
    cases sp with
    | none=>rfl
    | some sp =>
     exfalso
     unfold Addr.add World.cell? at h4
     simp at h4
     split at h4 <;> cases h4
  · exact ⟨0,0,fun h=>absurd h h0⟩
 obtain ⟨b,o,key⟩:=key
 refine ⟨_,l,rfl,Rd.slf (f:=.dt s l) (fun _=>rfl) (view l) trivial hl hm (fun h=>by cases h) b o (fun i j=>(q i).1.getD j undef) (fun h=>by rw [key h]) (fun i hi j hj=>?_) (fun i hi=>Sh.cells_len s _) (fun i hi j x hj=>?_),?_⟩
 · obtain ⟨h1,-⟩:=hq i hi
   obtain ⟨_,h2,h3⟩:=World.cells?_some h1
   have h4:=h3 j hj
   rw [key (by omega),List.getElem?_eq_getElem (by omega)] at h4
   show W.cell? ⟨b,o+i * s.k+j,none⟩=_
   rw [List.getD_eq_getElem?_getD,List.getElem?_eq_getElem (by omega),Option.getD_some,← h4]
   rw [add_add]
   unfold Addr.add
   by_cases h0:i * s.k+j=0
   · have e1:o+i * s.k+j=o:=by omega
     rw [if_pos h0,e1]
   · rw [if_neg h0]
     simp [Nat.add_assoc]
 · obtain ⟨-,h2,-⟩:=hq i hi
   have hj:(s.cells (l.getD i s.nil))[j]?=some x:=hj
   rw [hat i hi] at hj
   obtain ⟨v,h3,h4⟩:=h2.2 j x hj
   rw [List.getD_eq_getElem?_getD,h3]
   exact h4
 · rw [hb,hsum]
   have:=Qlb D (fun i=>sz (q i).2) l.length fun i hi=>(hq i hi).2.2
   omega
theorem Qoa:Tryz.prog.cellsOf 101=1:=by kernel_rfl
theorem Qpe {fuel:Nat} {cs:List Value} {x:DataW H × List MemPlace} (h:DataW.trod enc Tryz.prog W 0 (fun _=>true) true fuel 26 cs=some x) :
  ∃ v l,cs=[v]∧Rd (H0 W) v (.lr l l.length)∧l.length+1≤Rows.uptoBulk x.1:=by
 have lits_bulk:∀ (k:IntKind) (l:List Int),Rows.uptoBulkAll (lits (H:=H) k l)=l.length:=by
  intro k l
  induction l with
  | nil=>rfl
  | cons z l ih =>
   show 1+Rows.uptoBulkAll (lits (H:=H) k l)=l.length+1
   omega
 rcases open_ints Tryz.underlying26 Tryz.underlying101 Qoa h with ⟨rfl,rfl⟩ | ⟨a,len,cap,zs,rfl,_,hl,hm,hz,rfl,hcell,hwz⟩
 · exact ⟨_,[],rfl,.slf (fun _=>rfl) (f:=.lr [] 0) (k:=1) (n:=0) (get:=fun i=>[.v (.int .u32 (([]:List Nat).getD i 0:Nat))]) rfl ⟨Nat.le_refl _,by simp⟩ (Nat.le_refl _) (by unfold maxLen; omega) (fun _=>rfl) 0 0 (fun _ _=>undef) (fun h=>by omega) (fun i h=>by omega) (fun i h=>by omega) (fun i h=>by omega),by simp [Rows.uptoBulk]⟩
 simp only [if_true] at hz
 have hb:∀ z∈zs,0≤z∧z<4294967296:=fun z h=>by
  have h5:=hwz z h
  have e1:IntKind.u32.min=0:=rfl
  have e2:IntKind.u32.max=4294967295:=rfl
  simp [Lit.wf,e1,e2] at h5
  omega
 have hlen:((zs.take len).map Int.toNat).length=len:=by simp; omega
 have hat:∀ i,i<len→((((zs.take len).map Int.toNat).getD i 0:Nat):Int)=zs.getD i 0:=fun i hi=>by
  have hiz:i<zs.length:=by omega
  have:=hb zs[i] (List.getElem_mem _)
  simp only [List.getD_eq_getElem?_getD,List.getElem?_map,List.getElem?_take,if_pos hi,List.getElem?_eq_getElem hiz,Option.map_some,Option.getD_some]
  omega
 have key:∃ b o,0<len→a=⟨b,o,none⟩:=by
  by_cases h0:0<len
  · have h4:=hcell 0 (by omega)
    obtain ⟨b,o,sp⟩:=a
    refine ⟨b,o,fun _=>?_⟩
    cases sp with
    | none=>rfl
    | some sp =>
     exfalso
     unfold Addr.add World.cell? at h4
     simp at h4
     split at h4 <;> cases h4
  · exact ⟨0,0,fun h=>absurd h h0⟩
 obtain ⟨b,o,key⟩:=key
 obtain ⟨l,hl'⟩:∃ l,l=(zs.take len).map Int.toNat:=⟨_,rfl⟩
 rw [← hl'] at hlen hat
 subst hlen
 refine ⟨_,l,rfl,.slf (fun _=>rfl) (f:=.lr l l.length) rfl ⟨Nat.le_refl _,fun x hx=>?_⟩ hl hm (fun h=>by cases h) b o (fun i _=>.int .u32 (zs.getD i 0)) (fun h=>by rw [key h]) (fun i hi j hj=>?_) (fun i hi=>rfl) (fun i hi j x hx=>?_),?_⟩
 · rw [hl'] at hx
   obtain ⟨z,hz',rfl⟩:=List.mem_map.1 hx
   have:=hb z (List.mem_of_mem_take hz')
   omega
 · have h4:=hcell i (by omega)
   have hj0:j=0:=by omega
   subst hj0
   rw [key (by omega)] at h4
   show W.cell? ⟨b,o+i * 1+0,none⟩=_
   rw [← h4]
   unfold Addr.add
   by_cases h0:i=0
   · subst h0; simp
   · rw [if_neg h0]; simp
 · match j,hx with
   | 0,hx =>
    simp at hx; subst hx
    have:=hat i hi
    rw [List.getD_eq_getElem?_getD] at this
    rw [this]
    exact .v _ rfl
   | j+1,hx=>simp at hx
 · show l.length+1≤Rows.uptoBulkAll (lits .u32 (zs.take l.length))+Rows.uptoBulkAll (lits .u32 (zs.drop l.length))+1
   rw [lits_bulk,List.length_take]
   omega
theorem Qcl {fuel:Nat} {cs:List Value} {x:DataW H × List MemPlace} (h:DataW.trod enc Tryz.prog W 0 (fun _=>true) true fuel 9 cs=some x) :
  ∃ s:ByteArray,cs=[.string s]∧s.size+1≤Rows.uptoBulk x.1:=by
 obtain ⟨s,rfl,rfl,_⟩:=DataW.trod_string Tryz.underlying9 h
 exact ⟨s,rfl,Nat.le_of_eq (by show s.size+1=s.data.toList.length+1; rw [Array.length_toList]; rfl)⟩
theorem Qoo {fuel:Nat} {cs:List Value} {x:DataW H × List MemPlace} (h:DataW.trod enc Tryz.prog W 0 (fun _=>true) true fuel 4 cs=some x):∃ b,cs=[.bool b]:=by
 obtain ⟨b,hb,_⟩:=DataW.trod_bool Tryz.underlying4 h
 exact ⟨b,hb⟩
theorem Qgx:Tryz.prog.cellsOf 4=1:=by kernel_rfl
theorem QaV:Tryz.prog.cellsOf 9=1:=by kernel_rfl
theorem QjH:Tryz.prog.cellsOf 26=1:=by kernel_rfl
theorem QfN:Tryz.prog.cellsOf 28=2:=by kernel_rfl
theorem QdK (d:DataW H):1≤Rows.uptoBulk d:=by
 cases d with
 | lit l=>cases l <;> simp [Rows.uptoBulk]
 | _=>simp [Rows.uptoBulk]
theorem Qqj {fuel:Nat} {cs:List Value} {x:DataW H × List MemPlace} (h:DataW.trod enc Tryz.prog W 0 (fun _=>true) true fuel 28 cs=some x) :
  ∃ b v l,cs=[.bool b,v]∧Rd (H0 W) v (.lr l l.length)∧l.length+2≤Rows.uptoBulk x.1:=by
 obtain ⟨y0,y1,n,rfl,hl,h0,h1⟩:=trod_struct2 Tryz.underlying28 h
 dsimp only at h0 h1
 rw [Qgx] at h0
 rw [QjH] at h1
 rw [QfN] at hl
 match cs,hl with
 | [c0,c1],_ =>
  simp only [List.drop_zero,List.drop_succ_cons,List.take_succ_cons,List.take_zero] at h0 h1
  obtain ⟨b,hb⟩:=Qoo h0
  obtain ⟨v,l,hv,h2,h3⟩:=Qpe h1
  cases hb; cases hv
  refine ⟨b,_,l,rfl,h2,?_⟩
  have:=QdK y0.1
  simp only [Rows.uptoBulk,Rows.uptoBulkAll]
  omega
theorem Qbv:Tryz.prog.cellsOf 31=5:=by kernel_rfl
theorem Qgw:Tryz.prog.cellsOf 25=1:=by kernel_rfl
theorem QfL:Tryz.prog.cellsOf 29=1:=by kernel_rfl
theorem Qip:∀ l:List Tw,(l.map cntT).sum=QaL l
 | []=>rfl
 | t::l=>by rw [List.map_cons,List.sum_cons,Qip l,QaL]
set_option maxRecDepth 100000 in
theorem Qmr:∀ (N fuel:Nat) (cs:List Value) (x:DataW H × List MemPlace),Rows.uptoBulk x.1<N→DataW.trod enc Tryz.prog W 0 (fun _=>true) true fuel 31 cs=some x →
  ∃ q:Tw,InE W .tm cs q∧cntT q≤Rows.uptoBulk x.1
 | 0,_,_,_,hN,_=>absurd hN (Nat.not_lt_zero _)
 | N+1,fuel,cs,x,hN,h=>by
  obtain ⟨xs,n,_,rfl,hl,hxl,hf⟩:=DataW.trod_struct Tryz.underlying31 h
  rw [Qbv] at hl
  match xs,hxl,cs,hl with
  | [y0,y1,y2,y3],_,[c0,c1,c2,c3,c4],_ =>
   have g0:DataW.trod enc Tryz.prog W 0 (fun _=>true) true n 25 (([c0,c1,c2,c3,c4].drop 0).take (Tryz.prog.cellsOf 25))=some y0:=hf 0 _ rfl
   have g1:DataW.trod enc Tryz.prog W 0 (fun _=>true) true n 9 (([c0,c1,c2,c3,c4].drop 1).take (Tryz.prog.cellsOf 9))=some y1:=hf 1 _ rfl
   have g2:DataW.trod enc Tryz.prog W 0 (fun _=>true) true n 28 (([c0,c1,c2,c3,c4].drop 2).take (Tryz.prog.cellsOf 28))=some y2:=hf 2 _ rfl
   have g3:DataW.trod enc Tryz.prog W 0 (fun _=>true) true n 29 (([c0,c1,c2,c3,c4].drop 4).take (Tryz.prog.cellsOf 29))=some y3:=hf 3 _ rfl
   rw [Qgw] at g0
   rw [QaV] at g1
   rw [QfN] at g2
   rw [QfL] at g3
   simp only [List.drop_zero,List.drop_succ_cons,List.take_succ_cons,List.take_zero] at g0 g1 g2 g3
   obtain ⟨k,hk,_⟩:=DataW.trod_int Tryz.underlying25 g0
   obtain ⟨s,hs,b1⟩:=Qcl g1
   obtain ⟨b,v,l,hi,r2,b2⟩:=Qqj g2
   have hB:Rows.uptoBulk (DataW.agg ([y0,y1,y2,y3].map (·.1)))=Rows.uptoBulk y0.1+(Rows.uptoBulk y1.1+(Rows.uptoBulk y2.1+(Rows.uptoBulk y3.1+0)))+1:=rfl
   have p0:=QdK y0.1
   rw [hB] at hN ⊢
   obtain ⟨u,m,hu,r3,b3⟩:=Qdu (s:=.tm) Tryz.underlying29 Qbv cntT (fun n cs y hy ht=>Qmr N n cs y (by omega) ht) g3
   cases hk; cases hs; cases hi; cases hu
   refine ⟨.mk k s b l m,⟨rfl,fun j x hj=>?_⟩,?_⟩
   · match j,hj with
     | 0,hj=>cases hj; exact ⟨_,rfl,.v _ rfl⟩
     | 1,hj=>cases hj; exact ⟨_,rfl,.v _ rfl⟩
     | 2,hj=>cases hj; exact ⟨_,rfl,.v _ rfl⟩
     | 3,hj=>cases hj; exact ⟨_,rfl,r2⟩
     | 4,hj=>cases hj; exact ⟨_,rfl,r3⟩
     | j+5,hj=>cases hj
   · rw [Qip] at b3
     rw [cntT]
     omega
theorem Qkz {α:Type}:∀ l:List α,(l.map fun _=>1).sum=l.length
 | []=>rfl
 | x::l=>by rw [List.map_cons,List.sum_cons,Qkz l,List.length_cons]; omega
theorem QqQ {fuel:Nat} {cs:List Value} {x:DataW H × List MemPlace} (h:DataW.trod enc Tryz.prog W 0 (fun _=>true) true fuel 45 cs=some x):∃ v l,cs=[v]∧Rd (H0 W) v (.dt .str l)∧l.length+1≤Rows.uptoBulk x.1:=by
 obtain ⟨v,l,h1,h2,h3⟩:=Qdu (s:=.str) Tryz.underlying45 QaV (fun _=>1) (fun n cs y _ ht=>by
  obtain ⟨q,hq,hb⟩:=Qcl ht
  refine ⟨q,⟨by rw [hq]; rfl,fun j x hj=>?_⟩,by omega⟩
  match j,hj with
  | 0,hj=>cases hj; exact ⟨_,by rw [hq]; rfl,.v _ rfl⟩
  | j+1,hj=>cases hj) h
 rw [Qkz] at h3
 exact ⟨v,l,h1,h2,h3⟩
theorem QiA:Tryz.prog.cellsOf 84=2:=by kernel_rfl
theorem Ql2:Tryz.prog.cellsOf 45=1:=by kernel_rfl
theorem Qiz:Tryz.prog.cellsOf 82=2:=by kernel_rfl
theorem Ql5:Tryz.prog.cellsOf 80=1:=by kernel_rfl
theorem QfM:Tryz.prog.cellsOf 37=2:=by kernel_rfl
def szCn (c:Cn):Nat:=1+c.name.size / 8+c.fields.length
def QoO (d:Dat):Nat:=1+d.name.size / 8+cntK d.cons
theorem Qk3:∀ l:List Cn,(l.map szCn).sum=cntK l
 | []=>rfl
 | t::l=>by rw [List.map_cons,List.sum_cons,Qk3 l,cntK]; rfl
theorem Qk5:∀ l:List Dat,(l.map QoO).sum=cntD l
 | []=>rfl
 | t::l=>by rw [List.map_cons,List.sum_cons,Qk5 l,cntD]; rfl
theorem con_in {fuel:Nat} {cs:List Value} {x:DataW H × List MemPlace} (h:DataW.trod enc Tryz.prog W 0 (fun _=>true) true fuel 84 cs=some x) :
  ∃ q:Cn,InE W .con cs q∧szCn q≤Rows.uptoBulk x.1:=by
 obtain ⟨y0,y1,n,rfl,hl,h0,h1⟩:=trod_struct2 Tryz.underlying84 h
 dsimp only at h0 h1
 rw [QaV] at h0
 rw [Ql2] at h1
 rw [QiA] at hl
 match cs,hl with
 | [c0,c1],_ =>
  simp only [List.drop_zero,List.drop_succ_cons,List.take_succ_cons,List.take_zero] at h0 h1
  obtain ⟨s,hs,b0⟩:=Qcl h0
  obtain ⟨v,l,hv,h2,h3⟩:=QqQ h1
  cases hs; cases hv
  refine ⟨⟨s,l⟩,⟨rfl,fun j x hj=>?_⟩,?_⟩
  · match j,hj with
    | 0,hj=>cases hj; exact ⟨_,rfl,.v _ rfl⟩
    | 1,hj=>cases hj; exact ⟨_,rfl,h2⟩
    | j+2,hj=>cases hj
  · simp only [Rows.uptoBulk,Rows.uptoBulkAll,szCn]
    omega
theorem dat_in {fuel:Nat} {cs:List Value} {x:DataW H × List MemPlace} (h:DataW.trod enc Tryz.prog W 0 (fun _=>true) true fuel 82 cs=some x) :
  ∃ q:Dat,InE W .dat cs q∧QoO q≤Rows.uptoBulk x.1:=by
 obtain ⟨y0,y1,n,rfl,hl,h0,h1⟩:=trod_struct2 Tryz.underlying82 h
 dsimp only at h0 h1
 rw [QaV] at h0
 rw [Ql5] at h1
 rw [Qiz] at hl
 match cs,hl with
 | [c0,c1],_ =>
  simp only [List.drop_zero,List.drop_succ_cons,List.take_succ_cons,List.take_zero] at h0 h1
  obtain ⟨s,hs,b0⟩:=Qcl h0
  obtain ⟨v,l,hv,h2,h3⟩:=Qdu (s:=.con) Tryz.underlying80 QiA szCn (fun n cs y _ ht=>con_in ht) h1
  rw [Qk3] at h3
  cases hs; cases hv
  refine ⟨⟨s,l⟩,⟨rfl,fun j x hj=>?_⟩,?_⟩
  · match j,hj with
    | 0,hj=>cases hj; exact ⟨_,rfl,.v _ rfl⟩
    | 1,hj=>cases hj; exact ⟨_,rfl,h2⟩
    | j+2,hj=>cases hj
  · simp only [Rows.uptoBulk,Rows.uptoBulkAll,QoO]
    omega
theorem QrE {fuel:Nat} {cs:List Value} {x:DataW H × List MemPlace} (h:DataW.trod enc Tryz.prog W 0 (fun _=>true) true fuel 22 cs=some x):∃ v l,cs=[v]∧Rd (H0 W) v (.dt .dat l)∧cntD l+1≤Rows.uptoBulk x.1:=by
 obtain ⟨v,l,h1,h2,h3⟩:=Qdu (s:=.dat) Tryz.underlying22 Qiz QoO (fun n cs y _ ht=>dat_in ht) h
 rw [Qk5] at h3
 exact ⟨v,l,h1,h2,h3⟩
theorem QmB {fuel:Nat} {cs:List Value} {x:DataW H × List MemPlace} (h:DataW.trod enc Tryz.prog W 0 (fun _=>true) true fuel 24 cs=some x):∃ v l,cs=[v]∧Rd (H0 W) v (.dt .srt l)∧(l.map fun s:Srt=>s.name.size+s.sort.size+2).sum+1≤Rows.uptoBulk x.1:=by
 exact Qdu (s:=.srt) Tryz.underlying24 QfM (fun s:Srt=>s.name.size+s.sort.size+2) (fun n cs y _ ht=>by
  obtain ⟨y0,y1,n,rfl,hl,h0,h1⟩:=trod_struct2 Tryz.underlying37 ht
  dsimp only at h0 h1
  rw [QaV] at h0 h1
  rw [QfM] at hl
  match cs,hl with
  | [c0,c1],_ =>
   simp only [List.drop_zero,List.drop_succ_cons,List.take_succ_cons,List.take_zero] at h0 h1
   obtain ⟨s,hs,b0⟩:=Qcl h0
   obtain ⟨s',hs',b1⟩:=Qcl h1
   cases hs; cases hs'
   refine ⟨⟨s,s'⟩,⟨rfl,fun j x hj=>?_⟩,?_⟩
   · match j,hj with
     | 0,hj=>cases hj; exact ⟨_,rfl,.v _ rfl⟩
     | 1,hj=>cases hj; exact ⟨_,rfl,.v _ rfl⟩
     | j+2,hj=>cases hj
   · simp only [Rows.uptoBulk,Rows.uptoBulkAll]
     omega) h
theorem QqA {s:Sh} {cs:List Value} {q:s.T} {v:Array Value} (hv:v.toList=cs) (h:InE W s cs q):PR (H0 W) B0 (.agg v) (.agg (Qac (s.cells q))):=by
 have hw:∀ l:List Lf,(Qac l).length=l.length∧∀ (i:Nat) y,(Qac l)[i]?=some y→∃ x,l[i]?=some x∧y=PV.f x:=by
  intro l
  induction l with
  | nil=>exact ⟨rfl,fun i y h=>by cases h⟩
  | cons x l ih =>
   refine ⟨by show (Qac l).length+1=_; rw [ih.1]; rfl,fun i y h=>?_⟩
   cases i with
   | zero=>cases h; exact ⟨x,rfl,rfl⟩
   | succ i=>exact ih.2 i y h
 obtain ⟨w1,w2⟩:=hw (s.cells q)
 refine PR.agg (by rw [w1,Sh.cells_len,← h.1,← hv]; simp) fun i u y hu hy=>?_
 obtain ⟨x,hx,rfl⟩:=w2 i y hy
 obtain ⟨u',hu',hr⟩:=h.2 i x hx
 have:v.toList[i]?=some u:=by simpa using hu
 rw [hv,hu'] at this
 cases this
 exact .f hr
theorem QrF {base:Nat} {v:Value} {d:DataW H} {p:List MemPlace} (hv:Value.okWide Tryz.prog W .any base 22 v) (h:DataW.Trod enc Tryz.prog W 0 (fun _=>true) true 22 v d p):∃ l,PR (H0 W) B0 v (.f (.dt .dat l))∧cntD l+1≤Rows.uptoBulk d:=by
 obtain ⟨a0,len0,cap0,rfl⟩:=okWide_slice Tryz.underlying22 hv
 obtain ⟨fuel,hf⟩:=h
 obtain ⟨v',l,h1,h2,h3⟩:=QrE hf
 obtain rfl:Value.slice a0 len0 cap0=v':=by simpa [Value.cells] using h1
 exact ⟨l,.f h2,h3⟩
theorem QqT {base:Nat} {v:Value} {d:DataW H} {p:List MemPlace} (hv:Value.okWide Tryz.prog W .any base 24 v) (h:DataW.Trod enc Tryz.prog W 0 (fun _=>true) true 24 v d p):∃ l,PR (H0 W) B0 v (.f (.dt .srt l))∧(l.map fun s:Srt=>s.name.size+s.sort.size+2).sum+1≤Rows.uptoBulk d:=by
 obtain ⟨a0,len0,cap0,rfl⟩:=okWide_slice Tryz.underlying24 hv
 obtain ⟨fuel,hf⟩:=h
 obtain ⟨v',l,h1,h2,h3⟩:=QmB hf
 obtain rfl:Value.slice a0 len0 cap0=v':=by simpa [Value.cells] using h1
 exact ⟨l,.f h2,h3⟩
theorem Qpg:laidOutB Tryz.prog=true:=by kernel_rfl
theorem own':ownKnob Tryz.prog.godebug=none:=by kernel_rfl
theorem QbZ {W':World} {v:Value} {d:DataW H} {p:List MemPlace} (t:TypeId) (hr:Tryz.prog.readableRec t=true) (ht:t<Tryz.prog.types.size) (h:DataW.Trod enc Tryz.prog W 0 (fun _=>true) true t v d p)
  (hlt:∀ x∈p,x.block<W.heap.size) (hb:Below W.heap.size W W'):DataW.Trod enc Tryz.prog W' 0 (fun b=>decide (b<W.heap.size)) true t v d p :=
 Below.trod Qpg hr ht h hb hlt
end
end Go.Proofs.YtdeacbdpmdfgdaaGreatDoor
namespace Go.Proofs.YtdeacbdpmdfgdaaGreatDoor
open Go.ChangeShapes Go.WideShapes Go.ChangeAt Go.RowKit Go.Deep
set_option linter.unusedVariables false
set_option maxRecDepth 100000
mutual
def badT:Tw→Nat
 | .mk k _ _ d l=>(if (0≤k∧k≤255)∧∀ x∈d,x<4294967296 then 0 else 1)+Qmb l
def Qmb:List Tw→Nat
 | []=>0
 | t::l=>badT t+Qmb l
end
mutual
theorem Qlg:∀ (t:Tw),badT t=0→Qbq t
 | .mk k _ _ d l,h=>by
  rw [badT] at h
  split at h
  · rename_i hk
    exact ⟨hk,QiF l (by omega)⟩
  · omega
theorem QiF:∀ (l:List Tw),Qmb l=0→Qgj l
 | [],_=>trivial
 | t::l,h=>by
  rw [Qmb] at h
  exact ⟨Qlg t (by omega),QiF l (by omega)⟩
end
def QjF (t:Tw):Nat:=cntT t+1000000000 * badT t
theorem Qis:∀ l:List Tw,(l.map QjF).sum=QaL l+1000000000 * Qmb l
 | []=>rfl
 | t::l=>by rw [List.map_cons,List.sum_cons,Qis l,QaL,Qmb,QjF]; omega
section
variable {H : Type} {enc : TypeId × Value → H} {W : World}
theorem Qj3:∀ (N fuel:Nat) (cs:List Value) (x:DataW H × List MemPlace),Rows.uptoBulk x.1<N→DataW.trod enc Tryz.prog W 0 (fun _=>true) true fuel 31 cs=some x →
  ∃ q:Tw,InE W .tm cs q∧QjF q≤Rows.uptoBulk x.1
 | 0,_,_,_,hN,_=>absurd hN (Nat.not_lt_zero _)
 | N+1,fuel,cs,x,hN,h=>by
  obtain ⟨xs,n,_,rfl,hl,hxl,hf⟩:=DataW.trod_struct Tryz.underlying31 h
  rw [Qbv] at hl
  match xs,hxl,cs,hl with
  | [y0,y1,y2,y3],_,[c0,c1,c2,c3,c4],_ =>
   have g0:DataW.trod enc Tryz.prog W 0 (fun _=>true) true n 25 (([c0,c1,c2,c3,c4].drop 0).take (Tryz.prog.cellsOf 25))=some y0:=hf 0 _ rfl
   have g1:DataW.trod enc Tryz.prog W 0 (fun _=>true) true n 9 (([c0,c1,c2,c3,c4].drop 1).take (Tryz.prog.cellsOf 9))=some y1:=hf 1 _ rfl
   have g2:DataW.trod enc Tryz.prog W 0 (fun _=>true) true n 28 (([c0,c1,c2,c3,c4].drop 2).take (Tryz.prog.cellsOf 28))=some y2:=hf 2 _ rfl
   have g3:DataW.trod enc Tryz.prog W 0 (fun _=>true) true n 29 (([c0,c1,c2,c3,c4].drop 4).take (Tryz.prog.cellsOf 29))=some y3:=hf 3 _ rfl
   rw [Qgw] at g0
   rw [QaV] at g1
   rw [QfN] at g2
   rw [QfL] at g3
   simp only [List.drop_zero,List.drop_succ_cons,List.take_succ_cons,List.take_zero] at g0 g1 g2 g3
   obtain ⟨k,hk,_,hkw⟩:=DataW.trod_int Tryz.underlying25 g0
   obtain ⟨s,hs,b1⟩:=Qcl g1
   obtain ⟨b,v,l,hi,r2,b2⟩:=Qqj g2
   have hB:Rows.uptoBulk (DataW.agg ([y0,y1,y2,y3].map (·.1)))=Rows.uptoBulk y0.1+(Rows.uptoBulk y1.1+(Rows.uptoBulk y2.1+(Rows.uptoBulk y3.1+0)))+1:=rfl
   have p0:=QdK y0.1
   rw [hB] at hN ⊢
   obtain ⟨u,m,hu,r3,b3⟩:=Qdu (s:=.tm) Tryz.underlying29 Qbv QjF (fun n cs y hy ht=>Qj3 N n cs y (by omega) ht) g3
   have hdr:∀ x∈l,x<4294967296:=by
    cases r2 with
    | sl _ hg=>exact hg.2
   have hkr:0≤k∧k≤255:=by
    have e1:IntKind.u8.min=0:=rfl
    have e2:IntKind.u8.max=255:=rfl
    simp [Lit.wf,e1,e2] at hkw
    omega
   cases hk; cases hs; cases hi; cases hu
   refine ⟨.mk k s b l m,⟨rfl,fun j x hj=>?_⟩,?_⟩
   · match j,hj with
     | 0,hj=>cases hj; exact ⟨_,rfl,.v _ rfl⟩
     | 1,hj=>cases hj; exact ⟨_,rfl,.v _ rfl⟩
     | 2,hj=>cases hj; exact ⟨_,rfl,.v _ rfl⟩
     | 3,hj=>cases hj; exact ⟨_,rfl,r2⟩
     | 4,hj=>cases hj; exact ⟨_,rfl,r3⟩
     | j+5,hj=>cases hj
   · rw [Qis] at b3
     rw [QjF,cntT,badT,if_pos ⟨hkr,hdr⟩]
     omega
end
end Go.Proofs.YtdeacbdpmdfgdaaGreatDoor
namespace Go.Proofs.YtdeacbdpmdfgdaaGreatDoor
open Go.ChangeShapes Go.WideShapes Go.ChangeAt Go.RowKit
theorem gTabT : Tryz.prog.globalNamed "internal/strconv.uint64pow10" = some 0 := by kernel_rfl
theorem QnK:(Tryz.prog.globals[0]?).map (·.type)=some 185:=by kernel_rfl
theorem Qoc:Tryz.prog.cellsOf 185=20:=by kernel_rfl
theorem Qn9:Tryz.prog.cellsOf 110=1:=by kernel_rfl
set_option maxRecDepth 100000 in
theorem tabT {W : World} {laid : List (String × DataW Unit)} (hf : (laid.filter fun x => x.1 == "internal/strconv.uint64pow10") = [("internal/strconv.uint64pow10", Rows.laid_internal_strconv_uint64pow10)]) (h : laidMetH Tryz.prog laid W) : Tab W := by
 have := h.filter fun x => x.1 == "internal/strconv.uint64pow10"
 rw [hf,show (Rows.laid_internal_strconv_uint64pow10:DataW Unit)=Lib.tabData .u64 Lib.pow10Tab by kernel_rfl] at this
 exact Lib.tabIs_of_head (rest:=[]) gTabT QnK Tryz.underlying185 Tryz.underlying110 Qn9 Qoc this
end Go.Proofs.YtdeacbdpmdfgdaaGreatDoor
namespace Go.Proofs.YtdeacbdpmdfgdaaGreatDoor
open Go.ChangeShapes Go.WideShapes Go.ChangeAt Go.RowKit Go.Deep
set_option linter.unusedVariables false
set_option maxRecDepth 100000
mutual
theorem Qju:∀ (t:Tw),cntT t≤4000000→t.fitT
 | .mk k n b d l,h=>by
  rw [cntT] at h
  exact ⟨by omega,by omega,by have:=Qhg l (by omega); omega,(Qhg l (by omega)).2⟩
theorem Qhg:∀ (l:List Tw),QaL l≤4000000→l.length≤QaL l∧Qcb l
 | [],_=>⟨Nat.zero_le _,trivial⟩
 | t::l,h=>by
  have h0:=(Qcf t 0).1
  have h1:=(Qcf t 0).2
  rw [QaL] at h ⊢
  have h2:=Qhg l (by omega)
  exact ⟨by rw [List.length_cons]; omega,Qju t (by omega),h2.2⟩
end
mutual
def blkY:Yw→Nat
 | .mk _ s t p r=>1+s.size / 8+QjF t+blkP p+Qf0 r
def blkQ:ByteArray × Yw→Nat
 | (s,y)=>1+s.size / 8+blkY y
def blkP:List (ByteArray × Yw)→Nat
 | []=>0
 | x::l=>blkQ x+blkP l
def Qf0:List Yw→Nat
 | []=>0
 | y::l=>blkY y+Qf0 l
end
mutual
theorem QjO:∀ (y:Yw),blkY y≤4000000→y.fit∧cntY y≤blkY y∧1≤blkY y
 | .mk f s t p r,h=>by
  rw [blkY] at h ⊢
  have h1:=Qle p (by omega)
  have h2:=Qld r (by omega)
  have h3:QjF t=cntT t+1000000000 * badT t:=rfl
  have h4:badT t=0:=by omega
  rw [Yw.fit,cntY]
  exact ⟨⟨⟨by omega,Qju t (by omega),Qlg t h4⟩,⟨by omega,by omega⟩,h1.1,h2.1⟩,by omega,by omega⟩
theorem Qp2:∀ (x:ByteArray × Yw),blkQ x≤4000000→fitQ x∧cntQ x≤blkQ x∧1≤blkQ x
 | (s,y),h=>by
  rw [blkQ] at h ⊢
  have h1:=QjO y (by omega)
  rw [fitQ,cntQ]
  exact ⟨⟨by omega,h1.1⟩,by omega,by omega⟩
theorem Qle:∀ (l:List (ByteArray × Yw)),blkP l≤4000000→fitP l∧cntP l≤blkP l∧l.length≤blkP l
 | [],_=>by rw [fitP,cntP,blkP]; exact ⟨trivial,Nat.le_refl _,Nat.le_refl _⟩
 | x::l,h=>by
  rw [blkP] at h ⊢
  have h1:=Qp2 x (by omega)
  have h2:=Qle l (by omega)
  rw [fitP,cntP,List.length_cons]
  exact ⟨⟨h1.1,h2.1⟩,by omega,by omega⟩
theorem Qld:∀ (l:List Yw),Qf0 l≤4000000→fitY l∧QaF l≤Qf0 l∧l.length≤Qf0 l
 | [],_=>by rw [fitY,QaF,Qf0]; exact ⟨trivial,Nat.le_refl _,Nat.le_refl _⟩
 | x::l,h=>by
  rw [Qf0] at h ⊢
  have h1:=QjO x (by omega)
  have h2:=Qld l (by omega)
  rw [fitY,QaF,List.length_cons]
  exact ⟨⟨h1.1,h2.1⟩,by omega,by omega⟩
end
theorem Qlf:∀ l:List (ByteArray × Yw),(l.map blkQ).sum=blkP l
 | []=>by rw [blkP]; rfl
 | x::l=>by rw [List.map_cons,List.sum_cons,Qlf l,blkP]
theorem QiE:∀ l:List Yw,(l.map blkY).sum=Qf0 l
 | []=>by rw [Qf0]; rfl
 | x::l=>by rw [List.map_cons,List.sum_cons,QiE l,Qf0]
def QoN (k:Kap):Nat:=1+k.name.size / 8+k.params.length+cntT k.body
theorem Qir:∀ l:List Kap,(l.map QoN).sum=Qa6 l
 | []=>by rw [Qa6]; rfl
 | x::l=>by rw [List.map_cons,List.sum_cons,Qir l,Qa6,QoN]
theorem QnA:∀ {l:List Kap},Qa6 l≤4000000→fitK l
 | x::l,h,k,hk=>by
  rw [Qa6] at h
  rcases List.mem_cons.1 hk with rfl | hk
  · exact ⟨by omega,Qju _ (by omega)⟩
  · exact QnA (l:=l) (by omega) k hk
theorem QiR:∀ l:List Srt,l.length≤(l.map fun s:Srt=>s.name.size+s.sort.size+2).sum
 | []=>Nat.le_refl _
 | x::l=>by have:=QiR l; rw [List.map_cons,List.sum_cons,List.length_cons]; omega
section
variable {H : Type} {enc : TypeId × Value → H} {W : World}
theorem Qiy:Tryz.prog.cellsOf 86=7:=by kernel_rfl
theorem Qhr:Tryz.prog.cellsOf 35=9:=by kernel_rfl
theorem Qix:Tryz.prog.cellsOf 43=10:=by kernel_rfl
theorem Ql3:Tryz.prog.cellsOf 24=1:=by kernel_rfl
theorem Ql4:Tryz.prog.cellsOf 32=1:=by kernel_rfl
theorem Qob:Tryz.prog.cellsOf 33=1:=by kernel_rfl
theorem kap_in {fuel:Nat} {cs:List Value} {x:DataW H × List MemPlace} (h:DataW.trod enc Tryz.prog W 0 (fun _=>true) true fuel 86 cs=some x) :
  ∃ q:Kap,InE W .kap cs q∧QoN q≤Rows.uptoBulk x.1:=by
 obtain ⟨xs,n,_,rfl,hl,hxl,hf⟩:=DataW.trod_struct Tryz.underlying86 h
 rw [Qiy] at hl
 match xs,hxl,cs,hl with
 | [y0,y1,y2],_,[c0,c1,c2,c3,c4,c5,c6],_ =>
  have g0:DataW.trod enc Tryz.prog W 0 (fun _=>true) true n 9 (([c0,c1,c2,c3,c4,c5,c6].drop 0).take (Tryz.prog.cellsOf 9))=some y0:=hf 0 _ rfl
  have g1:DataW.trod enc Tryz.prog W 0 (fun _=>true) true n 24 (([c0,c1,c2,c3,c4,c5,c6].drop 1).take (Tryz.prog.cellsOf 24))=some y1:=hf 1 _ rfl
  have g2:DataW.trod enc Tryz.prog W 0 (fun _=>true) true n 31 (([c0,c1,c2,c3,c4,c5,c6].drop 2).take (Tryz.prog.cellsOf 31))=some y2:=hf 2 _ rfl
  rw [QaV] at g0
  rw [Ql3] at g1
  rw [Qbv] at g2
  simp only [List.drop_zero,List.drop_succ_cons,List.take_succ_cons,List.take_zero] at g0 g1 g2
  obtain ⟨s,hs,b0⟩:=Qcl g0
  obtain ⟨v,l,hv,r1,b1⟩:=QmB g1
  obtain ⟨q,r2,b2⟩:=Qmr _ _ _ _ (Nat.lt_succ_self _) g2
  have hB:Rows.uptoBulk (DataW.agg ([y0,y1,y2].map (·.1)))=Rows.uptoBulk y0.1+(Rows.uptoBulk y1.1+(Rows.uptoBulk y2.1+0))+1:=rfl
  rw [hB]
  have hsl:=QiR l
  cases hs; cases hv
  refine ⟨⟨s,l,q⟩,⟨rfl,fun j x hj=>?_⟩,?_⟩
  · match j,hj with
    | 0,hj=>cases hj; exact ⟨_,rfl,.v _ rfl⟩
    | 1,hj=>cases hj; exact ⟨_,rfl,r1⟩
    | j+2,hj=>exact r2.2 j x hj
  · show 1+s.size / 8+l.length+cntT q≤_
    omega
theorem Qru {base:Nat} {v:Value} {d:DataW H} {p:List MemPlace} (hv:Value.okWide Tryz.prog W .any base 23 v) (h:DataW.Trod enc Tryz.prog W 0 (fun _=>true) true 23 v d p):∃ l,PR (H0 W) B0 v (.f (.dt .kap l))∧Qa6 l+1≤Rows.uptoBulk d:=by
 obtain ⟨a0,len0,cap0,rfl⟩:=okWide_slice Tryz.underlying23 hv
 obtain ⟨fuel,hf⟩:=h
 obtain ⟨v',l,h1,h2,h3⟩:=Qdu (s:=.kap) Tryz.underlying23 Qiy QoN (fun n cs y _ ht=>kap_in ht) hf
 obtain rfl:Value.slice a0 len0 cap0=v':=by simpa [Value.cells] using h1
 rw [Qir] at h3
 exact ⟨l,.f h2,h3⟩
theorem srt_at {base:Nat} {v:Value} {d:DataW H} {p:List MemPlace} (hv:Value.okWide Tryz.prog W .any base 37 v) (h:DataW.Trod enc Tryz.prog W 0 (fun _=>true) true 37 v d p):∃ q:Srt,PR (H0 W) B0 v (.agg [.f (.v (.string q.name)),.f (.v (.string q.sort))])∧1≤Rows.uptoBulk d:=by
 obtain ⟨cs,rfl,hsz⟩:=okWide_struct Tryz.underlying37 hv
 obtain ⟨fuel,hf⟩:=h
 obtain ⟨y0,y1,n,e,hl,h0,h1⟩:=trod_struct2 Tryz.underlying37 hf
 dsimp only at h0 h1
 rw [QaV] at h0 h1
 rw [QfM] at hl
 match cs,hl with
 | ⟨[c0,c1]⟩,_ =>
  simp only [Value.cells,List.drop_zero,List.drop_succ_cons,List.take_succ_cons,List.take_zero] at h0 h1
  obtain ⟨s,hs,b0⟩:=Qcl h0
  obtain ⟨s',hs',b1⟩:=Qcl h1
  cases hs; cases hs'
  exact ⟨⟨s,s'⟩,QqA (s:=.srt) (q:=⟨s,s'⟩) rfl ⟨rfl,fun j x hj=>match j,hj with
   | 0,hj=>by cases hj; exact ⟨_,rfl,.v _ rfl⟩
   | 1,hj=>by cases hj; exact ⟨_,rfl,.v _ rfl⟩
   | j+2,hj=>by cases hj⟩,QdK _⟩
theorem Qmo:∀ (N fuel:Nat) (cs:List Value) (x:DataW H × List MemPlace),Rows.uptoBulk x.1<N→DataW.trod enc Tryz.prog W 0 (fun _=>true) true fuel 35 cs=some x →
  ∃ q:Yw,InE W .ty cs q∧blkY q≤Rows.uptoBulk x.1
 | 0,_,_,_,hN,_=>absurd hN (Nat.not_lt_zero _)
 | N+1,fuel,cs,x,hN,h=>by
  obtain ⟨xs,n,_,rfl,hl,hxl,hf⟩:=DataW.trod_struct Tryz.underlying35 h
  rw [Qhr] at hl
  match xs,hxl,cs,hl with
  | [y0,y1,y2,y3,y4],_,[c0,c1,c2,c3,c4,c5,c6,c7,c8],_ =>
   have g0:DataW.trod enc Tryz.prog W 0 (fun _=>true) true n 4 (([c0,c1,c2,c3,c4,c5,c6,c7,c8].drop 0).take (Tryz.prog.cellsOf 4))=some y0:=hf 0 _ rfl
   have g1:DataW.trod enc Tryz.prog W 0 (fun _=>true) true n 9 (([c0,c1,c2,c3,c4,c5,c6,c7,c8].drop 1).take (Tryz.prog.cellsOf 9))=some y1:=hf 1 _ rfl
   have g2:DataW.trod enc Tryz.prog W 0 (fun _=>true) true n 31 (([c0,c1,c2,c3,c4,c5,c6,c7,c8].drop 2).take (Tryz.prog.cellsOf 31))=some y2:=hf 2 _ rfl
   have g3:DataW.trod enc Tryz.prog W 0 (fun _=>true) true n 32 (([c0,c1,c2,c3,c4,c5,c6,c7,c8].drop 7).take (Tryz.prog.cellsOf 32))=some y3:=hf 3 _ rfl
   have g4:DataW.trod enc Tryz.prog W 0 (fun _=>true) true n 33 (([c0,c1,c2,c3,c4,c5,c6,c7,c8].drop 8).take (Tryz.prog.cellsOf 33))=some y4:=hf 4 _ rfl
   rw [Qgx] at g0
   rw [QaV] at g1
   rw [Qbv] at g2
   rw [Ql4] at g3
   rw [Qob] at g4
   simp only [List.drop_zero,List.drop_succ_cons,List.take_succ_cons,List.take_zero] at g0 g1 g2 g3 g4
   obtain ⟨f,hfn⟩:=Qoo g0
   obtain ⟨s,hs,b1⟩:=Qcl g1
   obtain ⟨t,r2,b2⟩:=Qj3 _ _ _ _ (Nat.lt_succ_self _) g2
   have hB:Rows.uptoBulk (DataW.agg ([y0,y1,y2,y3,y4].map (·.1)))=Rows.uptoBulk y0.1+(Rows.uptoBulk y1.1+(Rows.uptoBulk y2.1+(Rows.uptoBulk y3.1+(Rows.uptoBulk y4.1+0))))+1:=rfl
   have p0:=QdK y0.1
   rw [hB] at hN ⊢
   obtain ⟨u,m,hu,r3,b3⟩:=Qdu (s:=.prm) Tryz.underlying32 Qix blkQ (fun n' cs y hy ht=>by
    obtain ⟨z0,z1,n2,rfl,hl,h0,h1⟩:=trod_struct2 Tryz.underlying43 ht
    dsimp only at h0 h1
    rw [QaV] at h0
    rw [Qhr] at h1
    rw [Qix] at hl
    match cs,hl with
    | [e0,e1,e2,e3,e4,e5,e6,e7,e8,e9],_ =>
     simp only [List.drop_zero,List.drop_succ_cons,List.take_succ_cons,List.take_zero] at h0 h1
     have hB2:Rows.uptoBulk (DataW.agg [z0.1,z1.1])=Rows.uptoBulk z0.1+(Rows.uptoBulk z1.1+0)+1:=rfl
     have hy':=hy
     obtain ⟨s',hs',b5⟩:=Qcl h0
     obtain ⟨q,r6,b6⟩:=Qmo N n2 _ _ (by simp only [Rows.uptoBulk,Rows.uptoBulkAll] at hy'; omega) h1
     cases hs'
     refine ⟨(s',q),⟨rfl,fun j x hj=>?_⟩,?_⟩
     · match j,hj with
       | 0,hj=>cases hj; exact ⟨_,rfl,.v _ rfl⟩
       | j+1,hj=>exact r6.2 j x hj
     · rw [blkQ]
       simp only [Rows.uptoBulk,Rows.uptoBulkAll]
       omega) g3
   obtain ⟨u',m',hu',r4,b4⟩:=Qdu (s:=.ty) Tryz.underlying33 Qhr blkY (fun n' cs y hy ht=>Qmo N n' cs y (by omega) ht) g4
   cases hfn; cases hs; cases hu; cases hu'
   refine ⟨.mk f s t m m',⟨rfl,fun j x hj=>?_⟩,?_⟩
   · match j,hj with
     | 0,hj=>cases hj; exact ⟨_,rfl,.v _ rfl⟩
     | 1,hj=>cases hj; exact ⟨_,rfl,.v _ rfl⟩
     | 2,hj=>exact r2.2 0 x hj
     | 3,hj=>exact r2.2 1 x hj
     | 4,hj=>exact r2.2 2 x hj
     | 5,hj=>exact r2.2 3 x hj
     | 6,hj=>exact r2.2 4 x hj
     | 7,hj=>cases hj; exact ⟨_,rfl,r3⟩
     | 8,hj=>cases hj; exact ⟨_,rfl,r4⟩
     | j+9,hj=>cases hj
   · rw [Qlf] at b3
     rw [QiE] at b4
     rw [blkY]
     omega
theorem ty_atK {base:Nat} {v:Value} {d:DataW H} {p:List MemPlace} (hv:Value.okWide Tryz.prog W .any base 35 v) (h:DataW.Trod enc Tryz.prog W 0 (fun _=>true) true 35 v d p):∃ q,PR (H0 W) B0 v (tyP q)∧blkY q≤Rows.uptoBulk d:=by
 obtain ⟨cs,rfl,hsz⟩:=okWide_struct Tryz.underlying35 hv
 obtain ⟨fuel,hf⟩:=h
 obtain ⟨q,h1,h2⟩:=Qmo _ _ _ _ (Nat.lt_succ_self _) hf
 exact ⟨q,QqA rfl h1,h2⟩
end
end Go.Proofs.YtdeacbdpmdfgdaaGreatDoor
