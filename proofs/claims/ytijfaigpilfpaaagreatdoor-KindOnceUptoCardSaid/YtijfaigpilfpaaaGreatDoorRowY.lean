/- Types, kappas, a name with its sort that came in. -/
import Derived.Test.YtijfaigpilfpaaaGreatDoorCn
import Derived.Test.YtijfaigpilfpaaaGreatDoorRows
import Derived.WalkKit
import Derived.ProofKit
import Derived.OpenShut
import Derived.Deep.Slices
import Derived.Test.YtijfaigpilfpaaaGreatDoorKx
import Derived.Test.YtijfaigpilfpaaaGreatDoorEz
import Derived.Test.YtijfaigpilfpaaaGreatDoorCards
import Derived.Test.YtijfaigpilfpaaaGreatDoorTie
import Derived.LaidSub
import Derived.Deep.DeepHandedRow
import Derived.Lib.LaidTab
import Derived.Test.YtijfaigpilfpaaaGreatDoorHr
namespace Go.Proofs.YtijfaigpilfpaaaGreatDoor
open Go.ChangeShapes Go.WideShapes Go.ChangeAt Go.RowKit Go.Deep
set_option linter.unusedVariables false
set_option maxRecDepth 100000
def H0 (W:World):Hp:=fun b j=>W.cell? ⟨b,j,none⟩
theorem fro0 (W:World):Fro (H0 W) W:=fun _ _ _ h=>h
def InE (W:World) (s:Sh) (cs:List Value) (q:s.T):Prop:=cs.length=s.k∧∀ (j:Nat) x,(s.cells q)[j]?=some x→∃ v,cs[j]?=some v∧Rd (H0 W) v x
theorem Sh.k_pos:∀ s:Sh,0<s.k:=by intro s; cases s <;> decide
theorem Qmb {H:Type} (D:Nat→DataW H) (f:Nat→Nat):∀ n,(∀ i,i<n→f i≤Rows.uptoBulk (D i))→((List.range n).map f).sum≤Rows.uptoBulkAll ((List.range n).map D):=by
 have app:∀ l m:List (DataW H),Rows.uptoBulkAll (l++m)=Rows.uptoBulkAll l+Rows.uptoBulkAll m:=by
  intro l m
  induction l with
  | nil=>simp [Rows.uptoBulkAll]
  | cons x l ih=>simp only [List.cons_append,Rows.uptoBulkAll,ih]; omega
 intro n
 induction n with
 | zero=>intro _; exact Nat.le_refl _
 | succ n ih =>
  intro h
  have h1:=ih fun i hi=>h i (by omega)
  have h2:=h n (by omega)
  simp only [List.range_succ,List.map_append,List.sum_append,app,List.map_cons,List.map_nil,List.sum_cons,List.sum_nil,Rows.uptoBulkAll]
  omega
theorem QtV {H:Type} {D:Nat→DataW H} {n i:Nat} (h:i<n):Rows.uptoBulk (D i)≤Rows.uptoBulkAll ((List.range n).map D):=by
 have h1:=Qmb D (fun j=>if j=i then Rows.uptoBulk (D i) else 0) n (fun j hj=>by split <;> simp_all)
 refine Nat.le_trans ?_ h1
 have:∀ m,i<m→Rows.uptoBulk (D i)≤((List.range m).map (fun j=>if j=i then Rows.uptoBulk (D i) else 0)).sum:=by
  intro m
  induction m with
  | zero=>intro h; omega
  | succ m ih =>
   intro h
   simp only [List.range_succ,List.map_append,List.sum_append,List.map_cons,List.map_nil,List.sum_cons,List.sum_nil]
   by_cases hm:m=i
   · rw [if_pos hm]; omega
   · have:=ih (by omega); omega
 exact this n h
section
variable {H : Type} {enc : TypeId × Value → H} {W : World}
theorem Qk7 {s:Sh} {e t:TypeId} {fuel:Nat} {cs:List Value} {x:DataW H × List MemPlace} (ht:Tryz.prog.underlying t=some (.slice e)) (hk:Tryz.prog.cellsOf e=s.k) (sz:s.T→Nat)
  (hel:∀ n cs y,Rows.uptoBulk y.1<Rows.uptoBulk x.1→DataW.trod enc Tryz.prog W 0 (fun _=>true) true n e cs=some y→∃ q,InE W s cs q∧sz q≤Rows.uptoBulk y.1)
  (h:DataW.trod enc Tryz.prog W 0 (fun _=>true) true fuel t cs=some x):∃ v l,cs=[v]∧Rd (H0 W) v (.dt s l)∧(l.map sz).sum+1≤Rows.uptoBulk x.1:=by
 have view:∀ l:List s.T,(Lf.dt s l).view=some (s.k,l.length,fun i=>s.cells (l.getD i s.nil)):=fun _=>rfl
 rcases open_slice ht h with ⟨rfl,rfl⟩ | ⟨a,len,cap,m,n,D,Pl,rfl,_,hl,hm,hmm,rfl,hx⟩
 · exact ⟨_,[],rfl,.slf (fun _=>rfl) (view []) trivial (Nat.le_refl _) (by unfold maxLen; omega) (fun _=>rfl) 0 0 (fun _ _=>undef) (fun h=>by cases h) (fun i h=>by cases h) (fun i h=>by cases h) (fun i h=>by cases h),by simp [Rows.uptoBulk]⟩
 simp only [if_true] at hmm
 subst hmm
 have hb:Rows.uptoBulk (DataW.slice ((List.range len).map D) ((List.range (m - len)).map fun j=>D (len+j)))=Rows.uptoBulkAll ((List.range len).map D)+Rows.uptoBulkAll ((List.range (m - len)).map fun j=>D (len+j))+1:=rfl
 have each:∀ i,i<len→∃ q:List Value × s.T,W.cells? 0 (a.add (i * s.k)) s.k=some q.1∧InE W s q.1 q.2∧sz q.2≤Rows.uptoBulk (D i):=by
  intro i hi
  obtain ⟨cs',h1,h2⟩:=hx i (by omega)
  have h3:=QtV (D:=D) hi
  obtain ⟨q,h4,h5⟩:=hel n cs' _ (by dsimp only; rw [hb]; omega) h2
  rw [hk] at h1
  exact ⟨(cs',q),h1,h4,h5⟩
 haveI:Inhabited s.T:=⟨s.nil⟩
 obtain ⟨q,hq⟩:=choose_lt each
 obtain ⟨l,hL⟩:∃ l,l=(List.range len).map fun i=>(q i).2:=⟨_,rfl⟩
 have hlen:l.length=len:=by rw [hL]; simp
 have hat:∀ i,i<len→l.getD i s.nil=(q i).2:=fun i hi=>by
  rw [hL,List.getD_eq_getElem?_getD,List.getElem?_map,List.getElem?_range hi]; rfl
 have hsum:(l.map sz).sum=((List.range len).map fun i=>sz (q i).2).sum:=by rw [hL,List.map_map]; rfl
 clear hL
 subst hlen
 have key:∃ b o,0<l.length→a=⟨b,o,none⟩:=by
  by_cases h0:0<l.length
  · obtain ⟨h1,-⟩:=hq 0 h0
    obtain ⟨_,h2,h3⟩:=World.cells?_some h1
    have h4:=h3 0 s.k_pos
    rw [List.getElem?_eq_getElem (by have:=s.k_pos; omega)] at h4
    obtain ⟨b,o,sp⟩:=a
    refine ⟨b,o,fun _=>?_⟩
    cases sp with
    | none=>rfl
    | some sp =>
     exfalso
     unfold Addr.add World.cell? at h4
     simp at h4
     split at h4 <;> cases h4
  · exact ⟨0,0,fun h=>absurd h h0⟩
 obtain ⟨b,o,key⟩:=key
 refine ⟨_,l,rfl,Rd.slf (f:=.dt s l) (fun _=>rfl) (view l) trivial hl hm (fun h=>by cases h) b o (fun i j=>(q i).1.getD j undef) (fun h=>by rw [key h]) (fun i hi j hj=>?_) (fun i hi=>Sh.cells_len s _) (fun i hi j x hj=>?_),?_⟩
 · obtain ⟨h1,-⟩:=hq i hi
   obtain ⟨_,h2,h3⟩:=World.cells?_some h1
   have h4:=h3 j hj
   rw [key (by omega),List.getElem?_eq_getElem (by omega)] at h4
   show W.cell? ⟨b,o+i * s.k+j,none⟩=_
   rw [List.getD_eq_getElem?_getD,List.getElem?_eq_getElem (by omega),Option.getD_some,← h4]
   rw [add_add]
   unfold Addr.add
   by_cases h0:i * s.k+j=0
   · have e1:o+i * s.k+j=o:=by omega
     rw [if_pos h0,e1]
   · rw [if_neg h0]
     simp [Nat.add_assoc]
 · obtain ⟨-,h2,-⟩:=hq i hi
   have hj:(s.cells (l.getD i s.nil))[j]?=some x:=hj
   rw [hat i hi] at hj
   obtain ⟨v,h3,h4⟩:=h2.2 j x hj
   rw [List.getD_eq_getElem?_getD,h3]
   exact h4
 · rw [hb,hsum]
   have:=Qmb D (fun i=>sz (q i).2) l.length fun i hi=>(hq i hi).2.2
   omega
theorem Qpj:Tryz.prog.cellsOf 162=1:=by kernel_rfl
theorem Qqv {fuel:Nat} {cs:List Value} {x:DataW H × List MemPlace} (h:DataW.trod enc Tryz.prog W 0 (fun _=>true) true fuel 23 cs=some x) :
  ∃ v l,cs=[v]∧Rd (H0 W) v (.lr l l.length)∧l.length+1≤Rows.uptoBulk x.1:=by
 have lits_bulk:∀ (k:IntKind) (l:List Int),Rows.uptoBulkAll (lits (H:=H) k l)=l.length:=by
  intro k l
  induction l with
  | nil=>rfl
  | cons z l ih =>
   show 1+Rows.uptoBulkAll (lits (H:=H) k l)=l.length+1
   omega
 rcases open_ints Tryz.underlying23 Tryz.underlying162 Qpj h with ⟨rfl,rfl⟩ | ⟨a,len,cap,zs,rfl,_,hl,hm,hz,rfl,hcell,hwz⟩
 · exact ⟨_,[],rfl,.slf (fun _=>rfl) (f:=.lr [] 0) (k:=1) (n:=0) (get:=fun i=>[.v (.int .u32 (([]:List Nat).getD i 0:Nat))]) rfl ⟨Nat.le_refl _,by simp⟩ (Nat.le_refl _) (by unfold maxLen; omega) (fun _=>rfl) 0 0 (fun _ _=>undef) (fun h=>by omega) (fun i h=>by omega) (fun i h=>by omega) (fun i h=>by omega),by simp [Rows.uptoBulk]⟩
 simp only [if_true] at hz
 have hb:∀ z∈zs,0≤z∧z<4294967296:=fun z h=>by
  have h5:=hwz z h
  have e1:IntKind.u32.min=0:=rfl
  have e2:IntKind.u32.max=4294967295:=rfl
  simp [Lit.wf,e1,e2] at h5
  omega
 have hlen:((zs.take len).map Int.toNat).length=len:=by simp; omega
 have hat:∀ i,i<len→((((zs.take len).map Int.toNat).getD i 0:Nat):Int)=zs.getD i 0:=fun i hi=>by
  have hiz:i<zs.length:=by omega
  have:=hb zs[i] (List.getElem_mem _)
  simp only [List.getD_eq_getElem?_getD,List.getElem?_map,List.getElem?_take,if_pos hi,List.getElem?_eq_getElem hiz,Option.map_some,Option.getD_some]
  omega
 have key:∃ b o,0<len→a=⟨b,o,none⟩:=by
  by_cases h0:0<len
  · have h4:=hcell 0 (by omega)
    obtain ⟨b,o,sp⟩:=a
    refine ⟨b,o,fun _=>?_⟩
    cases sp with
    | none=>rfl
    | some sp =>
     exfalso
     unfold Addr.add World.cell? at h4
     simp at h4
     split at h4 <;> cases h4
  · exact ⟨0,0,fun h=>absurd h h0⟩
 obtain ⟨b,o,key⟩:=key
 obtain ⟨l,hl'⟩:∃ l,l=(zs.take len).map Int.toNat:=⟨_,rfl⟩
 rw [← hl'] at hlen hat
 subst hlen
 refine ⟨_,l,rfl,.slf (fun _=>rfl) (f:=.lr l l.length) rfl ⟨Nat.le_refl _,fun x hx=>?_⟩ hl hm (fun h=>by cases h) b o (fun i _=>.int .u32 (zs.getD i 0)) (fun h=>by rw [key h]) (fun i hi j hj=>?_) (fun i hi=>rfl) (fun i hi j x hx=>?_),?_⟩
 · rw [hl'] at hx
   obtain ⟨z,hz',rfl⟩:=List.mem_map.1 hx
   have:=hb z (List.mem_of_mem_take hz')
   omega
 · have h4:=hcell i (by omega)
   have hj0:j=0:=by omega
   subst hj0
   rw [key (by omega)] at h4
   show W.cell? ⟨b,o+i * 1+0,none⟩=_
   rw [← h4]
   unfold Addr.add
   by_cases h0:i=0
   · subst h0; simp
   · rw [if_neg h0]; simp
 · match j,hx with
   | 0,hx =>
    simp at hx; subst hx
    have:=hat i hi
    rw [List.getD_eq_getElem?_getD] at this
    rw [this]
    exact .v _ rfl
   | j+1,hx=>simp at hx
 · show l.length+1≤Rows.uptoBulkAll (lits .u32 (zs.take l.length))+Rows.uptoBulkAll (lits .u32 (zs.drop l.length))+1
   rw [lits_bulk,List.length_take]
   omega
theorem QkX {fuel:Nat} {cs:List Value} {x:DataW H × List MemPlace} (h:DataW.trod enc Tryz.prog W 0 (fun _=>true) true fuel 9 cs=some x) :
  ∃ s:ByteArray,cs=[.string s]∧s.size+1≤Rows.uptoBulk x.1:=by
 obtain ⟨s,rfl,rfl,_⟩:=DataW.trod_string Tryz.underlying9 h
 exact ⟨s,rfl,Nat.le_of_eq (by show s.size+1=s.data.toList.length+1; rw [Array.length_toList]; rfl)⟩
theorem Qpz {fuel:Nat} {cs:List Value} {x:DataW H × List MemPlace} (h:DataW.trod enc Tryz.prog W 0 (fun _=>true) true fuel 4 cs=some x):∃ b,cs=[.bool b]:=by
 obtain ⟨b,hb,_⟩:=DataW.trod_bool Tryz.underlying4 h
 exact ⟨b,hb⟩
theorem QgI:Tryz.prog.cellsOf 4=1:=by kernel_rfl
theorem QdX:Tryz.prog.cellsOf 9=1:=by kernel_rfl
theorem Qkp:Tryz.prog.cellsOf 23=1:=by kernel_rfl
theorem Qjc:Tryz.prog.cellsOf 25=2:=by kernel_rfl
theorem QhW (d:DataW H):1≤Rows.uptoBulk d:=by
 cases d with
 | lit l=>cases l <;> simp [Rows.uptoBulk]
 | _=>simp [Rows.uptoBulk]
theorem int_in {fuel:Nat} {cs:List Value} {x:DataW H × List MemPlace} (h:DataW.trod enc Tryz.prog W 0 (fun _=>true) true fuel 25 cs=some x) :
  ∃ b v l,cs=[.bool b,v]∧Rd (H0 W) v (.lr l l.length)∧l.length+2≤Rows.uptoBulk x.1:=by
 obtain ⟨y0,y1,n,rfl,hl,h0,h1⟩:=trod_struct2 Tryz.underlying25 h
 dsimp only at h0 h1
 rw [QgI] at h0
 rw [Qkp] at h1
 rw [Qjc] at hl
 match cs,hl with
 | [c0,c1],_ =>
  simp only [List.drop_zero,List.drop_succ_cons,List.take_succ_cons,List.take_zero] at h0 h1
  obtain ⟨b,hb⟩:=Qpz h0
  obtain ⟨v,l,hv,h2,h3⟩:=Qqv h1
  cases hb; cases hv
  refine ⟨b,_,l,rfl,h2,?_⟩
  have:=QhW y0.1
  simp only [Rows.uptoBulk,Rows.uptoBulkAll]
  omega
theorem Qes:Tryz.prog.cellsOf 28=5:=by kernel_rfl
theorem Qm5:Tryz.prog.cellsOf 22=1:=by kernel_rfl
theorem Qko:Tryz.prog.cellsOf 26=1:=by kernel_rfl
theorem Qsa {s:Sh} {cs:List Value} {q:s.T} {v:Array Value} (hv:v.toList=cs) (h:InE W s cs q):PR (H0 W) B0 (.agg v) (.agg (Qae (s.cells q))):=by
 have hw:∀ l:List Lf,(Qae l).length=l.length∧∀ (i:Nat) y,(Qae l)[i]?=some y→∃ x,l[i]?=some x∧y=PV.f x:=by
  intro l
  induction l with
  | nil=>exact ⟨rfl,fun i y h=>by cases h⟩
  | cons x l ih =>
   refine ⟨by show (Qae l).length+1=_; rw [ih.1]; rfl,fun i y h=>?_⟩
   cases i with
   | zero=>cases h; exact ⟨x,rfl,rfl⟩
   | succ i=>exact ih.2 i y h
 obtain ⟨w1,w2⟩:=hw (s.cells q)
 refine PR.agg (by rw [w1,Sh.cells_len,← h.1,← hv]; simp) fun i u y hu hy=>?_
 obtain ⟨x,hx,rfl⟩:=w2 i y hy
 obtain ⟨u',hu',hr⟩:=h.2 i x hx
 have:v.toList[i]?=some u:=by simpa using hu
 rw [hv,hu'] at this
 cases this
 exact .f hr
theorem Qqx:laidOutB Tryz.prog=true:=by kernel_rfl
theorem own':ownKnob Tryz.prog.godebug=none:=by kernel_rfl
theorem Qeu {W':World} {v:Value} {d:DataW H} {p:List MemPlace} (t:TypeId) (hr:Tryz.prog.readableRec t=true) (ht:t<Tryz.prog.types.size) (h:DataW.Trod enc Tryz.prog W 0 (fun _=>true) true t v d p)
  (hlt:∀ x∈p,x.block<W.heap.size) (hb:Below W.heap.size W W'):DataW.Trod enc Tryz.prog W' 0 (fun b=>decide (b<W.heap.size)) true t v d p :=
 Below.trod Qqx hr ht h hb hlt
end
end Go.Proofs.YtijfaigpilfpaaaGreatDoor
namespace Go.Proofs.YtijfaigpilfpaaaGreatDoor
open Go.ChangeShapes Go.WideShapes Go.ChangeAt Go.RowKit Go.Deep
set_option linter.unusedVariables false
set_option maxRecDepth 100000
mutual
def badT:Tw→Nat
 | .mk k _ _ d l=>(if (0≤k∧k≤255)∧∀ x∈d,x<4294967296 then 0 else 1)+Qnb l
def Qnb:List Tw→Nat
 | []=>0
 | t::l=>badT t+Qnb l
end
mutual
theorem QhX:∀ (t:Tw),badT t=0→QaQ t
 | .mk k _ _ d l,h=>by
  rw [badT] at h
  split at h
  · rename_i hk
    exact ⟨hk,Qjh l (by omega)⟩
  · omega
theorem Qjh:∀ (l:List Tw),Qnb l=0→QdI l
 | [],_=>trivial
 | t::l,h=>by
  rw [Qnb] at h
  exact ⟨QhX t (by omega),Qjh l (by omega)⟩
end
def Qkm (t:Tw):Nat:=cntT t+1000000000 * badT t
theorem Qi6:∀ l:List Tw,(l.map Qkm).sum=Qat l+1000000000 * Qnb l
 | []=>rfl
 | t::l=>by rw [List.map_cons,List.sum_cons,Qi6 l,Qat,Qnb,Qkm]; omega
section
variable {H : Type} {enc : TypeId × Value → H} {W : World}
theorem QgZ:∀ (N fuel:Nat) (cs:List Value) (x:DataW H × List MemPlace),Rows.uptoBulk x.1<N→DataW.trod enc Tryz.prog W 0 (fun _=>true) true fuel 28 cs=some x →
  ∃ q:Tw,InE W .tm cs q∧Qkm q≤Rows.uptoBulk x.1
 | 0,_,_,_,hN,_=>absurd hN (Nat.not_lt_zero _)
 | N+1,fuel,cs,x,hN,h=>by
  obtain ⟨xs,n,_,rfl,hl,hxl,hf⟩:=DataW.trod_struct Tryz.underlying28 h
  rw [Qes] at hl
  match xs,hxl,cs,hl with
  | [y0,y1,y2,y3],_,[c0,c1,c2,c3,c4],_ =>
   have g0:DataW.trod enc Tryz.prog W 0 (fun _=>true) true n 22 (([c0,c1,c2,c3,c4].drop 0).take (Tryz.prog.cellsOf 22))=some y0:=hf 0 _ rfl
   have g1:DataW.trod enc Tryz.prog W 0 (fun _=>true) true n 9 (([c0,c1,c2,c3,c4].drop 1).take (Tryz.prog.cellsOf 9))=some y1:=hf 1 _ rfl
   have g2:DataW.trod enc Tryz.prog W 0 (fun _=>true) true n 25 (([c0,c1,c2,c3,c4].drop 2).take (Tryz.prog.cellsOf 25))=some y2:=hf 2 _ rfl
   have g3:DataW.trod enc Tryz.prog W 0 (fun _=>true) true n 26 (([c0,c1,c2,c3,c4].drop 4).take (Tryz.prog.cellsOf 26))=some y3:=hf 3 _ rfl
   rw [Qm5] at g0
   rw [QdX] at g1
   rw [Qjc] at g2
   rw [Qko] at g3
   simp only [List.drop_zero,List.drop_succ_cons,List.take_succ_cons,List.take_zero] at g0 g1 g2 g3
   obtain ⟨k,hk,_,hkw⟩:=DataW.trod_int Tryz.underlying22 g0
   obtain ⟨s,hs,b1⟩:=QkX g1
   obtain ⟨b,v,l,hi,r2,b2⟩:=int_in g2
   have hB:Rows.uptoBulk (DataW.agg ([y0,y1,y2,y3].map (·.1)))=Rows.uptoBulk y0.1+(Rows.uptoBulk y1.1+(Rows.uptoBulk y2.1+(Rows.uptoBulk y3.1+0)))+1:=rfl
   have p0:=QhW y0.1
   rw [hB] at hN ⊢
   obtain ⟨u,m,hu,r3,b3⟩:=Qk7 (s:=.tm) Tryz.underlying26 Qes Qkm (fun n cs y hy ht=>QgZ N n cs y (by omega) ht) g3
   have hdr:∀ x∈l,x<4294967296:=by
    cases r2 with
    | sl _ hg=>exact hg.2
   have hkr:0≤k∧k≤255:=by
    have e1:IntKind.u8.min=0:=rfl
    have e2:IntKind.u8.max=255:=rfl
    simp [Lit.wf,e1,e2] at hkw
    omega
   cases hk; cases hs; cases hi; cases hu
   refine ⟨.mk k s b l m,⟨rfl,fun j x hj=>?_⟩,?_⟩
   · match j,hj with
     | 0,hj=>cases hj; exact ⟨_,rfl,.v _ rfl⟩
     | 1,hj=>cases hj; exact ⟨_,rfl,.v _ rfl⟩
     | 2,hj=>cases hj; exact ⟨_,rfl,.v _ rfl⟩
     | 3,hj=>cases hj; exact ⟨_,rfl,r2⟩
     | 4,hj=>cases hj; exact ⟨_,rfl,r3⟩
     | j+5,hj=>cases hj
   · rw [Qi6] at b3
     rw [Qkm,cntT,badT,if_pos ⟨hkr,hdr⟩]
     omega
theorem Qp1 {base:Nat} {v:Value} {d:DataW H} {p:List MemPlace} (hv:Value.okWide Tryz.prog W .any base 28 v) (h:DataW.Trod enc Tryz.prog W 0 (fun _=>true) true 28 v d p):∃ q,PR (H0 W) B0 v (tmP q)∧cntT q+1000000000 * badT q≤Rows.uptoBulk d:=by
 obtain ⟨cs,rfl,hsz⟩:=okWide_struct Tryz.underlying28 hv
 obtain ⟨fuel,hf⟩:=h
 obtain ⟨q,h1,h2⟩:=QgZ _ _ _ _ (Nat.lt_succ_self _) hf
 exact ⟨q,Qsa rfl h1,h2⟩
end
end Go.Proofs.YtijfaigpilfpaaaGreatDoor
namespace Go.Proofs.YtijfaigpilfpaaaGreatDoor
open Go.ChangeShapes Go.WideShapes Go.ChangeAt Go.RowKit
theorem gTabT : Tryz.prog.globalNamed "internal/strconv.uint64pow10" = some 0 := by kernel_rfl
theorem QoT:(Tryz.prog.globals[0]?).map (·.type)=some 329:=by kernel_rfl
theorem Qpl:Tryz.prog.cellsOf 329=20:=by kernel_rfl
theorem Qpi:Tryz.prog.cellsOf 142=1:=by kernel_rfl
set_option maxRecDepth 100000 in
theorem tabT {W : World} {laid : List (String × DataW Unit)} (hf : (laid.filter fun x => x.1 == "internal/strconv.uint64pow10") = [("internal/strconv.uint64pow10", Rows.laid_internal_strconv_uint64pow10)]) (h : laidMetH Tryz.prog laid W) : Tab W := by
 have := h.filter fun x => x.1 == "internal/strconv.uint64pow10"
 rw [hf,show (Rows.laid_internal_strconv_uint64pow10:DataW Unit)=Lib.tabData .u64 Lib.pow10Tab by kernel_rfl] at this
 exact Lib.tabIs_of_head (rest:=[]) gTabT QoT Tryz.underlying329 Tryz.underlying142 Qpi Qpl this
end Go.Proofs.YtijfaigpilfpaaaGreatDoor
namespace Go.Proofs.YtijfaigpilfpaaaGreatDoor
open Go.ChangeShapes Go.WideShapes Go.ChangeAt Go.RowKit Go.Deep
set_option linter.unusedVariables false
set_option maxRecDepth 100000
mutual
theorem QhC:∀ (t:Tw),cntT t≤4000000→t.fitT
 | .mk k n b d l,h=>by
  rw [cntT] at h
  exact ⟨by omega,by omega,by have:=QhB l (by omega); omega,(QhB l (by omega)).2⟩
theorem QhB:∀ (l:List Tw),Qat l≤4000000→l.length≤Qat l∧QbW l
 | [],_=>⟨Nat.zero_le _,trivial⟩
 | t::l,h=>by
  have h0:=(Qcv t 0).1
  have h1:=(Qcv t 0).2
  rw [Qat] at h ⊢
  have h2:=QhB l (by omega)
  exact ⟨by rw [List.length_cons]; omega,QhC t (by omega),h2.2⟩
end
mutual
def blkY:Yw→Nat
 | .mk _ s t p r=>1+s.size / 8+Qkm t+blkP p+Qge r
def blkQ:ByteArray × Yw→Nat
 | (s,y)=>1+s.size / 8+blkY y
def blkP:List (ByteArray × Yw)→Nat
 | []=>0
 | x::l=>blkQ x+blkP l
def Qge:List Yw→Nat
 | []=>0
 | y::l=>blkY y+Qge l
end
mutual
theorem Qkx:∀ (y:Yw),blkY y≤4000000→y.fit∧cntY y≤blkY y∧1≤blkY y
 | .mk f s t p r,h=>by
  rw [blkY] at h ⊢
  have h1:=Qme p (by omega)
  have h2:=Qmd r (by omega)
  have h3:Qkm t=cntT t+1000000000 * badT t:=rfl
  have h4:badT t=0:=by omega
  rw [Yw.fit,cntY]
  exact ⟨⟨⟨by omega,QhC t (by omega),QhX t h4⟩,⟨by omega,by omega⟩,h1.1,h2.1⟩,by omega,by omega⟩
theorem Qrk:∀ (x:ByteArray × Yw),blkQ x≤4000000→fitQ x∧cntQ x≤blkQ x∧1≤blkQ x
 | (s,y),h=>by
  rw [blkQ] at h ⊢
  have h1:=Qkx y (by omega)
  rw [fitQ,cntQ]
  exact ⟨⟨by omega,h1.1⟩,by omega,by omega⟩
theorem Qme:∀ (l:List (ByteArray × Yw)),blkP l≤4000000→fitP l∧cntP l≤blkP l∧l.length≤blkP l
 | [],_=>by rw [fitP,cntP,blkP]; exact ⟨trivial,Nat.le_refl _,Nat.le_refl _⟩
 | x::l,h=>by
  rw [blkP] at h ⊢
  have h1:=Qrk x (by omega)
  have h2:=Qme l (by omega)
  rw [fitP,cntP,List.length_cons]
  exact ⟨⟨h1.1,h2.1⟩,by omega,by omega⟩
theorem Qmd:∀ (l:List Yw),Qge l≤4000000→fitY l∧QaI l≤Qge l∧l.length≤Qge l
 | [],_=>by rw [fitY,QaI,Qge]; exact ⟨trivial,Nat.le_refl _,Nat.le_refl _⟩
 | x::l,h=>by
  rw [Qge] at h ⊢
  have h1:=Qkx x (by omega)
  have h2:=Qmd l (by omega)
  rw [fitY,QaI,List.length_cons]
  exact ⟨⟨h1.1,h2.1⟩,by omega,by omega⟩
end
theorem Qmf:∀ l:List (ByteArray × Yw),(l.map blkQ).sum=blkP l
 | []=>by rw [blkP]; rfl
 | x::l=>by rw [List.map_cons,List.sum_cons,Qmf l,blkP]
theorem Qjg:∀ l:List Yw,(l.map blkY).sum=Qge l
 | []=>by rw [Qge]; rfl
 | x::l=>by rw [List.map_cons,List.sum_cons,Qjg l,Qge]
section
variable {H : Type} {enc : TypeId × Value → H} {W : World}
theorem QhO:Tryz.prog.cellsOf 32=9:=by kernel_rfl
theorem Qjb:Tryz.prog.cellsOf 47=10:=by kernel_rfl
theorem Qm4:Tryz.prog.cellsOf 29=1:=by kernel_rfl
theorem Qpk:Tryz.prog.cellsOf 30=1:=by kernel_rfl
theorem Qns:∀ (N fuel:Nat) (cs:List Value) (x:DataW H × List MemPlace),Rows.uptoBulk x.1<N→DataW.trod enc Tryz.prog W 0 (fun _=>true) true fuel 32 cs=some x →
  ∃ q:Yw,InE W .ty cs q∧blkY q≤Rows.uptoBulk x.1
 | 0,_,_,_,hN,_=>absurd hN (Nat.not_lt_zero _)
 | N+1,fuel,cs,x,hN,h=>by
  obtain ⟨xs,n,_,rfl,hl,hxl,hf⟩:=DataW.trod_struct Tryz.underlying32 h
  rw [QhO] at hl
  match xs,hxl,cs,hl with
  | [y0,y1,y2,y3,y4],_,[c0,c1,c2,c3,c4,c5,c6,c7,c8],_ =>
   have g0:DataW.trod enc Tryz.prog W 0 (fun _=>true) true n 4 (([c0,c1,c2,c3,c4,c5,c6,c7,c8].drop 0).take (Tryz.prog.cellsOf 4))=some y0:=hf 0 _ rfl
   have g1:DataW.trod enc Tryz.prog W 0 (fun _=>true) true n 9 (([c0,c1,c2,c3,c4,c5,c6,c7,c8].drop 1).take (Tryz.prog.cellsOf 9))=some y1:=hf 1 _ rfl
   have g2:DataW.trod enc Tryz.prog W 0 (fun _=>true) true n 28 (([c0,c1,c2,c3,c4,c5,c6,c7,c8].drop 2).take (Tryz.prog.cellsOf 28))=some y2:=hf 2 _ rfl
   have g3:DataW.trod enc Tryz.prog W 0 (fun _=>true) true n 29 (([c0,c1,c2,c3,c4,c5,c6,c7,c8].drop 7).take (Tryz.prog.cellsOf 29))=some y3:=hf 3 _ rfl
   have g4:DataW.trod enc Tryz.prog W 0 (fun _=>true) true n 30 (([c0,c1,c2,c3,c4,c5,c6,c7,c8].drop 8).take (Tryz.prog.cellsOf 30))=some y4:=hf 4 _ rfl
   rw [QgI] at g0
   rw [QdX] at g1
   rw [Qes] at g2
   rw [Qm4] at g3
   rw [Qpk] at g4
   simp only [List.drop_zero,List.drop_succ_cons,List.take_succ_cons,List.take_zero] at g0 g1 g2 g3 g4
   obtain ⟨f,hfn⟩:=Qpz g0
   obtain ⟨s,hs,b1⟩:=QkX g1
   obtain ⟨t,r2,b2⟩:=QgZ _ _ _ _ (Nat.lt_succ_self _) g2
   have hB:Rows.uptoBulk (DataW.agg ([y0,y1,y2,y3,y4].map (·.1)))=Rows.uptoBulk y0.1+(Rows.uptoBulk y1.1+(Rows.uptoBulk y2.1+(Rows.uptoBulk y3.1+(Rows.uptoBulk y4.1+0))))+1:=rfl
   have p0:=QhW y0.1
   rw [hB] at hN ⊢
   obtain ⟨u,m,hu,r3,b3⟩:=Qk7 (s:=.prm) Tryz.underlying29 Qjb blkQ (fun n' cs y hy ht=>by
    obtain ⟨z0,z1,n2,rfl,hl,h0,h1⟩:=trod_struct2 Tryz.underlying47 ht
    dsimp only at h0 h1
    rw [QdX] at h0
    rw [QhO] at h1
    rw [Qjb] at hl
    match cs,hl with
    | [e0,e1,e2,e3,e4,e5,e6,e7,e8,e9],_ =>
     simp only [List.drop_zero,List.drop_succ_cons,List.take_succ_cons,List.take_zero] at h0 h1
     have hB2:Rows.uptoBulk (DataW.agg [z0.1,z1.1])=Rows.uptoBulk z0.1+(Rows.uptoBulk z1.1+0)+1:=rfl
     have hy':=hy
     obtain ⟨s',hs',b5⟩:=QkX h0
     obtain ⟨q,r6,b6⟩:=Qns N n2 _ _ (by simp only [Rows.uptoBulk,Rows.uptoBulkAll] at hy'; omega) h1
     cases hs'
     refine ⟨(s',q),⟨rfl,fun j x hj=>?_⟩,?_⟩
     · match j,hj with
       | 0,hj=>cases hj; exact ⟨_,rfl,.v _ rfl⟩
       | j+1,hj=>exact r6.2 j x hj
     · rw [blkQ]
       simp only [Rows.uptoBulk,Rows.uptoBulkAll]
       omega) g3
   obtain ⟨u',m',hu',r4,b4⟩:=Qk7 (s:=.ty) Tryz.underlying30 QhO blkY (fun n' cs y hy ht=>Qns N n' cs y (by omega) ht) g4
   cases hfn; cases hs; cases hu; cases hu'
   refine ⟨.mk f s t m m',⟨rfl,fun j x hj=>?_⟩,?_⟩
   · match j,hj with
     | 0,hj=>cases hj; exact ⟨_,rfl,.v _ rfl⟩
     | 1,hj=>cases hj; exact ⟨_,rfl,.v _ rfl⟩
     | 2,hj=>exact r2.2 0 x hj
     | 3,hj=>exact r2.2 1 x hj
     | 4,hj=>exact r2.2 2 x hj
     | 5,hj=>exact r2.2 3 x hj
     | 6,hj=>exact r2.2 4 x hj
     | 7,hj=>cases hj; exact ⟨_,rfl,r3⟩
     | 8,hj=>cases hj; exact ⟨_,rfl,r4⟩
     | j+9,hj=>cases hj
   · rw [Qmf] at b3
     rw [Qjg] at b4
     rw [blkY]
     omega
theorem ty_atK {base:Nat} {v:Value} {d:DataW H} {p:List MemPlace} (hv:Value.okWide Tryz.prog W .any base 32 v) (h:DataW.Trod enc Tryz.prog W 0 (fun _=>true) true 32 v d p):∃ q,PR (H0 W) B0 v (tyP q)∧blkY q≤Rows.uptoBulk d:=by
 obtain ⟨cs,rfl,hsz⟩:=okWide_struct Tryz.underlying32 hv
 obtain ⟨fuel,hf⟩:=h
 obtain ⟨q,h1,h2⟩:=Qns _ _ _ _ (Nat.lt_succ_self _) hf
 exact ⟨q,Qsa rfl h1,h2⟩
end
end Go.Proofs.YtijfaigpilfpaaaGreatDoor
