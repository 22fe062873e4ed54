/- Linears and ratios that came in. -/
import Derived.Test.YtmbmbcamecfnkaaGreatDoorNw
import Derived.Test.YtmbmbcamecfnkaaGreatDoorRows
import Derived.WalkKit
import Derived.ProofKit
import Derived.OpenShut
import Derived.Deep.Slices
import Derived.Test.YtmbmbcamecfnkaaGreatDoorKx
import Derived.Test.YtmbmbcamecfnkaaGreatDoorEz
import Derived.Test.YtmbmbcamecfnkaaGreatDoorCards
import Derived.Test.YtmbmbcamecfnkaaGreatDoorTie
import Derived.LaidSub
import Derived.Deep.DeepHandedRow
import Derived.Lib.LaidTab
import Derived.Test.YtmbmbcamecfnkaaGreatDoorLt
import Derived.Carry
namespace Go.Proofs.YtmbmbcamecfnkaaGreatDoor
open Go.ChangeShapes Go.WideShapes Go.ChangeAt Go.RowKit Go.Deep
set_option linter.unusedVariables false
set_option maxRecDepth 100000
def H0 (W:World):Hp:=fun b j=>W.cell? ⟨b,j,none⟩
theorem fro0 (W:World):Fro (H0 W) W:=fun _ _ _ h=>h
def InE (W:World) (s:Sh) (cs:List Value) (q:s.T):Prop:=cs.length=s.k∧∀ (j:Nat) x,(s.cells q)[j]?=some x→∃ v,cs[j]?=some v∧Rd (H0 W) v x
theorem Sh.k_pos:∀ s:Sh,0<s.k:=by intro s; cases s <;> decide
theorem Qi2 {H:Type} (D:Nat→DataW H) (f:Nat→Nat):∀ n,(∀ i,i<n→f i≤Rows.uptoBulk (D i))→((List.range n).map f).sum≤Rows.uptoBulkAll ((List.range n).map D):=by
 have app:∀ l m:List (DataW H),Rows.uptoBulkAll (l++m)=Rows.uptoBulkAll l+Rows.uptoBulkAll m:=by
  intro l m
  induction l with
  | nil=>simp [Rows.uptoBulkAll]
  | cons x l ih=>simp only [List.cons_append,Rows.uptoBulkAll,ih]; omega
 intro n
 induction n with
 | zero=>intro _; exact Nat.le_refl _
 | succ n ih =>
  intro h
  have h1:=ih fun i hi=>h i (by omega)
  have h2:=h n (by omega)
  simp only [List.range_succ,List.map_append,List.sum_append,app,List.map_cons,List.map_nil,List.sum_cons,List.sum_nil,Rows.uptoBulkAll]
  omega
theorem QqJ {H:Type} {D:Nat→DataW H} {n i:Nat} (h:i<n):Rows.uptoBulk (D i)≤Rows.uptoBulkAll ((List.range n).map D):=by
 have h1:=Qi2 D (fun j=>if j=i then Rows.uptoBulk (D i) else 0) n (fun j hj=>by split <;> simp_all)
 refine Nat.le_trans ?_ h1
 have:∀ m,i<m→Rows.uptoBulk (D i)≤((List.range m).map (fun j=>if j=i then Rows.uptoBulk (D i) else 0)).sum:=by
  intro m
  induction m with
  | zero=>intro h; omega
  | succ m ih =>
   intro h
   simp only [List.range_succ,List.map_append,List.sum_append,List.map_cons,List.map_nil,List.sum_cons,List.sum_nil]
   by_cases hm:m=i
   · rw [if_pos hm]; omega
   · have:=ih (by omega); omega
 exact this n h
section
variable {H : Type} {enc : TypeId × Value → H} {W : World}
theorem row_in {s:Sh} {e t:TypeId} {fuel:Nat} {cs:List Value} {x:DataW H × List MemPlace} (ht:Tryz.prog.underlying t=some (.slice e)) (hk:Tryz.prog.cellsOf e=s.k) (sz:s.T→Nat)
  (hel:∀ n cs y,Rows.uptoBulk y.1<Rows.uptoBulk x.1→DataW.trod enc Tryz.prog W 0 (fun _=>true) true n e cs=some y→∃ q,InE W s cs q∧sz q≤Rows.uptoBulk y.1)
  (h:DataW.trod enc Tryz.prog W 0 (fun _=>true) true fuel t cs=some x):∃ v l,cs=[v]∧Rd (H0 W) v (.dt s l)∧(l.map sz).sum+1≤Rows.uptoBulk x.1:=by
 have view:∀ l:List s.T,(Lf.dt s l).view=some (s.k,l.length,fun i=>s.cells (l.getD i s.nil)):=fun _=>rfl
 rcases open_slice ht h with ⟨rfl,rfl⟩ | ⟨a,len,cap,m,n,D,Pl,rfl,_,hl,hm,hmm,rfl,hx⟩
 · exact ⟨_,[],rfl,.slf (fun _=>rfl) (view []) trivial (Nat.le_refl _) (by unfold maxLen; omega) (fun _=>rfl) 0 0 (fun _ _=>undef) (fun h=>by cases h) (fun i h=>by cases h) (fun i h=>by cases h) (fun i h=>by cases h),by simp [Rows.uptoBulk]⟩
 simp only [if_true] at hmm
 subst hmm
 have hb:Rows.uptoBulk (DataW.slice ((List.range len).map D) ((List.range (m - len)).map fun j=>D (len+j)))=Rows.uptoBulkAll ((List.range len).map D)+Rows.uptoBulkAll ((List.range (m - len)).map fun j=>D (len+j))+1:=rfl
 have each:∀ i,i<len→∃ q:List Value × s.T,W.cells? 0 (a.add (i * s.k)) s.k=some q.1∧InE W s q.1 q.2∧sz q.2≤Rows.uptoBulk (D i):=by
  intro i hi
  obtain ⟨cs',h1,h2⟩:=hx i (by omega)
  have h3:=QqJ (D:=D) hi
  obtain ⟨q,h4,h5⟩:=hel n cs' _ (by dsimp only; rw [hb]; omega) h2
  rw [hk] at h1
  exact ⟨(cs',q),h1,h4,h5⟩
 haveI:Inhabited s.T:=⟨s.nil⟩
 obtain ⟨q,hq⟩:=choose_lt each
 obtain ⟨l,hL⟩:∃ l,l=(List.range len).map fun i=>(q i).2:=⟨_,rfl⟩
 have hlen:l.length=len:=by rw [hL]; simp
 have hat:∀ i,i<len→l.getD i s.nil=(q i).2:=fun i hi=>by
  rw [hL,List.getD_eq_getElem?_getD,List.getElem?_map,List.getElem?_range hi]; rfl
 have hsum:(l.map sz).sum=((List.range len).map fun i=>sz (q i).2).sum:=by rw [hL,List.map_map]; rfl
 clear hL
 subst hlen
 have key:∃ b o,0<l.length→a=⟨b,o,none⟩:=by
  by_cases h0:0<l.length
  · obtain ⟨h1,-⟩:=hq 0 h0
    obtain ⟨_,h2,h3⟩:=World.cells?_some h1
    have h4:=h3 0 s.k_pos
    rw [List.getElem?_eq_getElem (by have:=s.k_pos; omega)] at h4
    obtain ⟨b,o,sp⟩:=a
    refine ⟨b,o,fun _=>?_⟩
    cases sp with
    | none=>rfl
    | some sp =>
     exfalso
     unfold Addr.add World.cell? at h4
     simp at h4
     split at h4 <;> cases h4
  · exact ⟨0,0,fun h=>absurd h h0⟩
 obtain ⟨b,o,key⟩:=key
 refine ⟨_,l,rfl,Rd.slf (f:=.dt s l) (fun _=>rfl) (view l) trivial hl hm (fun h=>by cases h) b o (fun i j=>(q i).1.getD j undef) (fun h=>by rw [key h]) (fun i hi j hj=>?_) (fun i hi=>Sh.cells_len s _) (fun i hi j x hj=>?_),?_⟩
 · obtain ⟨h1,-⟩:=hq i hi
   obtain ⟨_,h2,h3⟩:=World.cells?_some h1
   have h4:=h3 j hj
   rw [key (by omega),List.getElem?_eq_getElem (by omega)] at h4
   show W.cell? ⟨b,o+i * s.k+j,none⟩=_
   rw [List.getD_eq_getElem?_getD,List.getElem?_eq_getElem (by omega),Option.getD_some,← h4]
   rw [add_add]
   unfold Addr.add
   by_cases h0:i * s.k+j=0
   · have e1:o+i * s.k+j=o:=by omega
     rw [if_pos h0,e1]
   · rw [if_neg h0]
     simp [Nat.add_assoc]
 · obtain ⟨-,h2,-⟩:=hq i hi
   have hj:(s.cells (l.getD i s.nil))[j]?=some x:=hj
   rw [hat i hi] at hj
   obtain ⟨v,h3,h4⟩:=h2.2 j x hj
   rw [List.getD_eq_getElem?_getD,h3]
   exact h4
 · rw [hb,hsum]
   have:=Qi2 D (fun i=>sz (q i).2) l.length fun i hi=>(hq i hi).2.2
   omega
theorem Qqt:Tryz.prog.cellsOf 190=1:=by kernel_rfl
theorem Qrx {fuel:Nat} {cs:List Value} {x:DataW H × List MemPlace} (h:DataW.trod enc Tryz.prog W 0 (fun _=>true) true fuel 24 cs=some x) :
  ∃ v l,cs=[v]∧Rd (H0 W) v (.lr l l.length)∧l.length+1≤Rows.uptoBulk x.1:=by
 have lits_bulk:∀ (k:IntKind) (l:List Int),Rows.uptoBulkAll (lits (H:=H) k l)=l.length:=by
  intro k l
  induction l with
  | nil=>rfl
  | cons z l ih =>
   show 1+Rows.uptoBulkAll (lits (H:=H) k l)=l.length+1
   omega
 rcases open_ints Tryz.underlying24 Tryz.underlying190 Qqt h with ⟨rfl,rfl⟩ | ⟨a,len,cap,zs,rfl,_,hl,hm,hz,rfl,hcell,hwz⟩
 · exact ⟨_,[],rfl,.slf (fun _=>rfl) (f:=.lr [] 0) (k:=1) (n:=0) (get:=fun i=>[.v (.int .u32 (([]:List Nat).getD i 0:Nat))]) rfl ⟨Nat.le_refl _,by simp⟩ (Nat.le_refl _) (by unfold maxLen; omega) (fun _=>rfl) 0 0 (fun _ _=>undef) (fun h=>by omega) (fun i h=>by omega) (fun i h=>by omega) (fun i h=>by omega),by simp [Rows.uptoBulk]⟩
 simp only [if_true] at hz
 have hb:∀ z∈zs,0≤z∧z<4294967296:=fun z h=>by
  have h5:=hwz z h
  have e1:IntKind.u32.min=0:=rfl
  have e2:IntKind.u32.max=4294967295:=rfl
  simp [Lit.wf,e1,e2] at h5
  omega
 have hlen:((zs.take len).map Int.toNat).length=len:=by simp; omega
 have hat:∀ i,i<len→((((zs.take len).map Int.toNat).getD i 0:Nat):Int)=zs.getD i 0:=fun i hi=>by
  have hiz:i<zs.length:=by omega
  have:=hb zs[i] (List.getElem_mem _)
  simp only [List.getD_eq_getElem?_getD,List.getElem?_map,List.getElem?_take,if_pos hi,List.getElem?_eq_getElem hiz,Option.map_some,Option.getD_some]
  omega
 have key:∃ b o,0<len→a=⟨b,o,none⟩:=by
  by_cases h0:0<len
  · have h4:=hcell 0 (by omega)
    obtain ⟨b,o,sp⟩:=a
    refine ⟨b,o,fun _=>?_⟩
    cases sp with
    | none=>rfl
    | some sp =>
     exfalso
     unfold Addr.add World.cell? at h4
     simp at h4
     split at h4 <;> cases h4
  · exact ⟨0,0,fun h=>absurd h h0⟩
 obtain ⟨b,o,key⟩:=key
 obtain ⟨l,hl'⟩:∃ l,l=(zs.take len).map Int.toNat:=⟨_,rfl⟩
 rw [← hl'] at hlen hat
 subst hlen
 refine ⟨_,l,rfl,.slf (fun _=>rfl) (f:=.lr l l.length) rfl ⟨Nat.le_refl _,fun x hx=>?_⟩ hl hm (fun h=>by cases h) b o (fun i _=>.int .u32 (zs.getD i 0)) (fun h=>by rw [key h]) (fun i hi j hj=>?_) (fun i hi=>rfl) (fun i hi j x hx=>?_),?_⟩
 · rw [hl'] at hx
   obtain ⟨z,hz',rfl⟩:=List.mem_map.1 hx
   have:=hb z (List.mem_of_mem_take hz')
   omega
 · have h4:=hcell i (by omega)
   have hj0:j=0:=by omega
   subst hj0
   rw [key (by omega)] at h4
   show W.cell? ⟨b,o+i * 1+0,none⟩=_
   rw [← h4]
   unfold Addr.add
   by_cases h0:i=0
   · subst h0; simp
   · rw [if_neg h0]; simp
 · match j,hx with
   | 0,hx =>
    simp at hx; subst hx
    have:=hat i hi
    rw [List.getD_eq_getElem?_getD] at this
    rw [this]
    exact .v _ rfl
   | j+1,hx=>simp at hx
 · show l.length+1≤Rows.uptoBulkAll (lits .u32 (zs.take l.length))+Rows.uptoBulkAll (lits .u32 (zs.drop l.length))+1
   rw [lits_bulk,List.length_take]
   omega
theorem str_in {fuel:Nat} {cs:List Value} {x:DataW H × List MemPlace} (h:DataW.trod enc Tryz.prog W 0 (fun _=>true) true fuel 9 cs=some x) :
  ∃ s:ByteArray,cs=[.string s]∧s.size+1≤Rows.uptoBulk x.1:=by
 obtain ⟨s,rfl,rfl,_⟩:=DataW.trod_string Tryz.underlying9 h
 exact ⟨s,rfl,Nat.le_of_eq (by show s.size+1=s.data.toList.length+1; rw [Array.length_toList]; rfl)⟩
theorem QuC {fuel:Nat} {cs:List Value} {x:DataW H × List MemPlace} (h:DataW.trod enc Tryz.prog W 0 (fun _=>true) true fuel 4 cs=some x):∃ b,cs=[.bool b]:=by
 obtain ⟨b,hb,_⟩:=DataW.trod_bool Tryz.underlying4 h
 exact ⟨b,hb⟩
theorem Qoh:Tryz.prog.cellsOf 4=1:=by kernel_rfl
theorem Qqv:Tryz.prog.cellsOf 9=1:=by kernel_rfl
theorem Qlt:Tryz.prog.cellsOf 24=1:=by kernel_rfl
theorem QeW:Tryz.prog.cellsOf 26=2:=by kernel_rfl
theorem Qsd (d:DataW H):1≤Rows.uptoBulk d:=by
 cases d with
 | lit l=>cases l <;> simp [Rows.uptoBulk]
 | _=>simp [Rows.uptoBulk]
theorem QmI {fuel:Nat} {cs:List Value} {x:DataW H × List MemPlace} (h:DataW.trod enc Tryz.prog W 0 (fun _=>true) true fuel 26 cs=some x) :
  ∃ b v l,cs=[.bool b,v]∧Rd (H0 W) v (.lr l l.length)∧l.length+2≤Rows.uptoBulk x.1:=by
 obtain ⟨y0,y1,n,rfl,hl,h0,h1⟩:=trod_struct2 Tryz.underlying26 h
 dsimp only at h0 h1
 rw [Qoh] at h0
 rw [Qlt] at h1
 rw [QeW] at hl
 match cs,hl with
 | [c0,c1],_ =>
  simp only [List.drop_zero,List.drop_succ_cons,List.take_succ_cons,List.take_zero] at h0 h1
  obtain ⟨b,hb⟩:=QuC h0
  obtain ⟨v,l,hv,h2,h3⟩:=Qrx h1
  cases hb; cases hv
  refine ⟨b,_,l,rfl,h2,?_⟩
  have:=Qsd y0.1
  simp only [Rows.uptoBulk,Rows.uptoBulkAll]
  omega
theorem Qmr {α:Type}:∀ l:List α,(l.map fun _=>1).sum=l.length
 | []=>rfl
 | x::l=>by rw [List.map_cons,List.sum_cons,Qmr l,List.length_cons]; omega
theorem QrB:laidOutB Tryz.prog=true:=by kernel_rfl
theorem own':ownKnob Tryz.prog.godebug=none:=by kernel_rfl
theorem Qd4 {W':World} {v:Value} {d:DataW H} {p:List MemPlace} (t:TypeId) (hr:Tryz.prog.readableRec t=true) (ht:t<Tryz.prog.types.size) (h:DataW.Trod enc Tryz.prog W 0 (fun _=>true) true t v d p)
  (hlt:∀ x∈p,x.block<W.heap.size) (hb:Below W.heap.size W W'):DataW.Trod enc Tryz.prog W' 0 (fun b=>decide (b<W.heap.size)) true t v d p :=
 Below.trod QrB hr ht h hb hlt
end
end Go.Proofs.YtmbmbcamecfnkaaGreatDoor
namespace Go.Proofs.YtmbmbcamecfnkaaGreatDoor
open Go.ChangeShapes Go.WideShapes Go.ChangeAt Go.RowKit
theorem gTabT : Tryz.prog.globalNamed "internal/strconv.uint64pow10" = some 1 := by kernel_rfl
theorem Qqg:(Tryz.prog.globals[1]?).map (·.type)=some 398:=by kernel_rfl
theorem Qqu:Tryz.prog.cellsOf 398=20:=by kernel_rfl
theorem Qqs:Tryz.prog.cellsOf 132=1:=by kernel_rfl
set_option maxRecDepth 100000 in
theorem tabT {W : World} {laid : List (String × DataW Unit)} (hf : (laid.filter fun x => x.1 == "internal/strconv.uint64pow10") = [("internal/strconv.uint64pow10", Rows.laid_internal_strconv_uint64pow10)]) (h : laidMetH Tryz.prog laid W) : Tab W := by
 have := h.filter fun x => x.1 == "internal/strconv.uint64pow10"
 rw [hf,show (Rows.laid_internal_strconv_uint64pow10:DataW Unit)=Lib.tabData .u64 Lib.pow10Tab by kernel_rfl] at this
 exact Lib.tabIs_of_head (rest:=[]) gTabT Qqg Tryz.underlying398 Tryz.underlying132 Qqs Qqu this
end Go.Proofs.YtmbmbcamecfnkaaGreatDoor
namespace Go.Proofs.YtmbmbcamecfnkaaGreatDoor
open Go.ChangeShapes Go.WideShapes Go.ChangeAt Go.RowKit Go.Deep
set_option linter.unusedVariables false
set_option maxRecDepth 100000
section
variable {H : Type} {enc : TypeId × Value → H} {W : World}
theorem zs_in {fuel:Nat} {cs:List Value} {x:DataW H × List MemPlace} (h:DataW.trod enc Tryz.prog W 0 (fun _=>true) true fuel 48 cs=some x) :
  ∃ v L,cs=[v]∧Rd (H0 W) v (.zs L)∧L.length+1≤Rows.uptoBulk x.1∧∀ e∈L,e.2.2=e.2.1.length∧e.2.1.length≤Rows.uptoBulk x.1:=by
 rcases open_slice Tryz.underlying48 h with ⟨rfl,rfl⟩ | ⟨a,len,cap,m,n,D,Pl,rfl,_,hl,hm,hmm,rfl,hx⟩
 · exact ⟨_,[],rfl,.slf (fun _=>rfl) (f:=.zs []) (k:=2) (n:=0) (get:=fun i=>[.v (.bool (([]:List (Bool × List Nat × Nat)).getD i (false,[],0)).1),.lr (([]:List (Bool × List Nat × Nat)).getD i (false,[],0)).2.1 (([]:List (Bool × List Nat × Nat)).getD i (false,[],0)).2.2]) rfl trivial (Nat.le_refl _) (by unfold maxLen; omega) (fun _=>rfl) 0 0 (fun _ _=>undef) (fun h=>by cases h) (fun i h=>by cases h) (fun i h=>by cases h) (fun i h=>by cases h),by simp [Rows.uptoBulk],by simp⟩
 simp only [if_true] at hmm
 subst hmm
 have hb:Rows.uptoBulk (DataW.slice ((List.range len).map D) ((List.range (m - len)).map fun j=>D (len+j)))=Rows.uptoBulkAll ((List.range len).map D)+Rows.uptoBulkAll ((List.range (m - len)).map fun j=>D (len+j))+1:=rfl
 have each:∀ i,i<len→∃ q:Value × Bool × List Nat,W.cells? 0 (a.add (i * 2)) 2=some [.bool q.2.1,q.1]∧Rd (H0 W) q.1 (.lr q.2.2 q.2.2.length)∧q.2.2.length+2≤Rows.uptoBulk (D i):=by
  intro i hi
  obtain ⟨cs',h1,h2⟩:=hx i (by omega)
  obtain ⟨b,v,l,rfl,h4,h5⟩:=QmI h2
  rw [QeW] at h1
  exact ⟨(v,b,l),h1,h4,h5⟩
 obtain ⟨q,hq⟩:=choose_lt each
 obtain ⟨l,hL⟩:∃ l:List (Bool × List Nat × Nat),l=(List.range len).map fun i=>((q i).2.1,(q i).2.2,(q i).2.2.length):=⟨_,rfl⟩
 have hlen:l.length=len:=by rw [hL]; simp
 have hat:∀ i,i<len→l.getD i (false,[],0)=((q i).2.1,(q i).2.2,(q i).2.2.length):=fun i hi=>by
  rw [hL,List.getD_eq_getElem?_getD,List.getElem?_map,List.getElem?_range hi]; rfl
 have hin:∀ e∈l,∃ i,i<len∧e=((q i).2.1,(q i).2.2,(q i).2.2.length):=fun e he=>by
  rw [hL] at he
  obtain ⟨i,hil,rfl⟩:=List.mem_map.1 he
  exact ⟨i,List.mem_range.1 hil,rfl⟩
 clear hL
 subst hlen
 have key:∃ b o,0<l.length→a=⟨b,o,none⟩:=by
  by_cases h0:0<l.length
  · obtain ⟨h1,-⟩:=hq 0 h0
    obtain ⟨_,h2,h3⟩:=World.cells?_some h1
    have h4:=h3 0 (by omega)
    simp only [List.getElem?_cons_zero] at h4
    obtain ⟨b,o,sp⟩:=a
    refine ⟨b,o,fun _=>?_⟩
    cases sp with
    | none=>rfl
    | some sp =>
     exfalso
     unfold Addr.add World.cell? at h4
     simp at h4
     split at h4 <;> cases h4
  · exact ⟨0,0,fun h=>absurd h h0⟩
 obtain ⟨b,o,key⟩:=key
 refine ⟨_,l,rfl,Rd.slf (f:=.zs l) (fun _=>rfl) rfl trivial hl hm (fun h=>by cases h) b o (fun i j=>if j=0 then .bool (q i).2.1 else (q i).1) (fun h=>by rw [key h]) (fun i hi j hj=>?_) (fun i hi=>rfl) (fun i hi j x hj=>?_),?_,fun e he=>?_⟩
 · obtain ⟨h1,-⟩:=hq i hi
   obtain ⟨_,h2,h3⟩:=World.cells?_some h1
   have h4:=h3 j hj
   rw [key (by omega)] at h4
   show W.cell? ⟨b,o+i * 2+j,none⟩=_
   have h5:W.cell? (((⟨b,o,none⟩:Addr).add (i * 2)).add j)=some (if j=0 then .bool (q i).2.1 else (q i).1):=by
    rw [h4]
    match j,hj with
    | 0,_=>rfl
    | 1,_=>rfl
   rw [add_add] at h5
   rw [← h5]
   unfold Addr.add
   by_cases h0:i * 2+j=0
   · have e1:o+i * 2+j=o:=by omega
     rw [if_pos h0,e1]
   · rw [if_neg h0]
     simp [Nat.add_assoc]
 · obtain ⟨-,h2,-⟩:=hq i hi
   have hj:([Lf.v (.bool (l.getD i (false,[],0)).1),.lr (l.getD i (false,[],0)).2.1 (l.getD i (false,[],0)).2.2]:List Lf)[j]?=some x:=hj
   rw [hat i hi] at hj
   match j,hj with
   | 0,hj=>cases hj; exact .v _ rfl
   | 1,hj=>cases hj; exact h2
   | j+2,hj=>cases hj
 · rw [hb]
   have:=Qi2 D (fun i=>1) l.length fun i hi=>(by have:=(hq i hi).2.2; omega)
   have e:((List.range l.length).map fun _=>1).sum=l.length:=by rw [Qmr,List.length_range]
   omega
 · obtain ⟨i,hi,rfl⟩:=hin e he
   have h3:=QqJ (D:=D) hi
   have h4:=(hq i hi).2.2
   refine ⟨rfl,?_⟩
   dsimp only
   rw [hb]
   omega
theorem Qqx:Tryz.prog.cellsOf 50=4:=by kernel_rfl
theorem Qog:Tryz.prog.cellsOf 48=1:=by kernel_rfl
theorem Qls:Tryz.prog.cellsOf 44=1:=by kernel_rfl
theorem Qtj {fuel:Nat} {cs:List Value} {x:DataW H × List MemPlace} (h:DataW.trod enc Tryz.prog W 0 (fun _=>true) true fuel 44 cs=some x):∃ v l,cs=[v]∧Rd (H0 W) v (.dt .str l)∧l.length≤Rows.uptoBulk x.1∧∀ s∈l,s.size≤Rows.uptoBulk x.1:=by
 obtain ⟨v,l,h1,h2,h3⟩:=row_in (s:=.str) Tryz.underlying44 Qqv (fun s:ByteArray=>s.size+1) (fun n cs y _ ht=>by
  obtain ⟨q,hq,hb⟩:=str_in ht
  refine ⟨q,⟨by rw [hq]; rfl,fun j x hj=>?_⟩,hb⟩
  match j,hj with
  | 0,hj=>cases hj; exact ⟨_,by rw [hq]; rfl,.v _ rfl⟩
  | j+1,hj=>cases hj) h
 have e1:∀ l:List ByteArray,l.length≤(l.map fun s:ByteArray=>s.size+1).sum∧∀ s∈l,s.size≤(l.map fun s:ByteArray=>s.size+1).sum:=by
  intro l
  induction l with
  | nil=>exact ⟨Nat.le_refl _,fun s hs=>nomatch hs⟩
  | cons a l ih =>
   rw [List.map_cons,List.sum_cons,List.length_cons]
   refine ⟨by omega,fun s hs=>?_⟩
   rcases List.mem_cons.1 hs with rfl | hs
   · omega
   · have:=ih.2 s hs; omega
 exact ⟨v,l,h1,h2,Nat.le_trans (e1 l).1 (by omega),fun s hs=>Nat.le_trans ((e1 l).2 s hs) (by omega)⟩
def lnIn (x:Ln) (b:Nat):Prop:=(x.k=x.l.length∧∀ e∈x.C,e.2.2=e.2.1.length)∧x.l.length≤b∧(x.K.length≤b∧∀ s∈x.K,s.size≤b)∧x.C.length≤b∧∀ c∈x.C,c.2.1.length≤b
theorem lnIn.fit {x:Ln} {b:Nat} (h:lnIn x b) (hb:b≤100000000):FitN x:=⟨by have:=h.2.1; omega,⟨by have:=h.2.2.1.1; omega,fun s hs=>by have:=h.2.2.1.2 s hs; omega⟩,⟨by have:=h.2.2.2.1; omega,fun c hc=>by have:=h.2.2.2.2 c hc; omega⟩⟩
theorem ln_at {base:Nat} {v:Value} {d:DataW H} {p:List MemPlace} (hv:Value.okWide Tryz.prog W .any base 50 v) (h:DataW.Trod enc Tryz.prog W 0 (fun _=>true) true 50 v d p) :
  ∃ x:Ln,PR (H0 W) B0 v (.agg [.f (.dt .str x.K),.f (.zs x.C),.f (.v (.bool x.n)),.f (.lr x.l x.k)])∧lnIn x (Rows.uptoBulk d):=by
 obtain ⟨cs,rfl,hsz⟩:=okWide_struct Tryz.underlying50 hv
 obtain ⟨fuel,hf⟩:=h
 obtain ⟨xs,n,_,hd,hl,hxl,hf⟩:=DataW.trod_struct Tryz.underlying50 hf
 rw [Qqx] at hl
 simp only [Prod.mk.injEq] at hd
 obtain ⟨hd,-⟩:=hd
 obtain ⟨c0,c1,c2,c3,hcs⟩:∃ c0 c1 c2 c3,cs.toList=[c0,c1,c2,c3]:=by
  have hl:cs.toList.length=4:=hl
  match cs.toList,hl with
  | [c0,c1,c2,c3],_=>exact ⟨c0,c1,c2,c3,rfl⟩
 rw [show (Value.agg cs).cells.toList=[c0,c1,c2,c3] from hcs] at hf
 match xs,hxl with
 | [y0,y1,y2],_ =>
  have g0:DataW.trod enc Tryz.prog W 0 (fun _=>true) true n 44 (([c0,c1,c2,c3].drop 0).take (Tryz.prog.cellsOf 44))=some y0:=hf 0 _ rfl
  have g1:DataW.trod enc Tryz.prog W 0 (fun _=>true) true n 48 (([c0,c1,c2,c3].drop 1).take (Tryz.prog.cellsOf 48))=some y1:=hf 1 _ rfl
  have g2:DataW.trod enc Tryz.prog W 0 (fun _=>true) true n 26 (([c0,c1,c2,c3].drop 2).take (Tryz.prog.cellsOf 26))=some y2:=hf 2 _ rfl
  rw [Qls] at g0
  rw [Qog] at g1
  rw [QeW] at g2
  simp only [List.drop_zero,List.drop_succ_cons,List.take_succ_cons,List.take_zero] at g0 g1 g2
  obtain ⟨v0,K,e0,r0,s0,s1⟩:=Qtj g0
  obtain ⟨v1,C,e1,r1,t0,t1⟩:=zs_in g1
  obtain ⟨b,v2,l,e2,r2,u0⟩:=QmI g2
  cases e0; cases e1; cases e2
  have hB:Rows.uptoBulk d=Rows.uptoBulk y0.1+(Rows.uptoBulk y1.1+(Rows.uptoBulk y2.1+0))+1:=by rw [hd]; rfl
  refine ⟨⟨K,C,b,l,l.length⟩,?_,⟨rfl,fun e he=>(t1 e he).1⟩,by dsimp only; omega,⟨by dsimp only; omega,fun s hs=>by have:=s1 s hs; omega⟩,by dsimp only; omega,fun c hc=>by have:=(t1 c hc).2; omega⟩
  have ha:cs.toList=[c0,c1,.bool b,c3]:=hcs
  have:=(PRs.cons (H:=H0 W) (B:=B0) (.f r0) (.cons (.f r1) (.cons (.f (.v (.bool b) rfl)) (.cons (.f r2) .nil)))).agg
  have e3:cs=#[c0,c1,.bool b,c3]:=by rw [← Array.toArray_toList (xs:=cs),ha]
  rw [e3]
  exact this
def ratIn (e:QE) (b:Nat):Prop:=(e.1.2.2=e.1.2.1.length∧e.2.2.2=e.2.2.1.length)∧e.1.2.1.length≤b∧e.2.2.1.length≤b
theorem Qqw:Tryz.prog.cellsOf 52=4:=by kernel_rfl
theorem Qss {base:Nat} {v:Value} {d:DataW H} {p:List MemPlace} (hv:Value.okWide Tryz.prog W .any base 52 v) (h:DataW.Trod enc Tryz.prog W 0 (fun _=>true) true 52 v d p) :
  ∃ e:QE,PR (H0 W) B0 v (.agg [.f (.v (.bool e.1.1)),.f (.lr e.1.2.1 e.1.2.2),.f (.v (.bool e.2.1)),.f (.lr e.2.2.1 e.2.2.2)])∧ratIn e (Rows.uptoBulk d):=by
 obtain ⟨cs,rfl,hsz⟩:=okWide_struct Tryz.underlying52 hv
 obtain ⟨fuel,hf⟩:=h
 obtain ⟨xs,n,_,hd,hl,hxl,hf⟩:=DataW.trod_struct Tryz.underlying52 hf
 rw [Qqw] at hl
 simp only [Prod.mk.injEq] at hd
 obtain ⟨hd,-⟩:=hd
 obtain ⟨c0,c1,c2,c3,hcs⟩:∃ c0 c1 c2 c3,cs.toList=[c0,c1,c2,c3]:=by
  have hl:cs.toList.length=4:=hl
  match cs.toList,hl with
  | [c0,c1,c2,c3],_=>exact ⟨c0,c1,c2,c3,rfl⟩
 rw [show (Value.agg cs).cells.toList=[c0,c1,c2,c3] from hcs] at hf
 match xs,hxl with
 | [y0,y1],_ =>
  have g0:DataW.trod enc Tryz.prog W 0 (fun _=>true) true n 26 (([c0,c1,c2,c3].drop 0).take (Tryz.prog.cellsOf 26))=some y0:=hf 0 _ rfl
  have g1:DataW.trod enc Tryz.prog W 0 (fun _=>true) true n 26 (([c0,c1,c2,c3].drop 2).take (Tryz.prog.cellsOf 26))=some y1:=hf 1 _ rfl
  rw [QeW] at g0 g1
  simp only [List.drop_zero,List.drop_succ_cons,List.take_succ_cons,List.take_zero] at g0 g1
  obtain ⟨b,v0,l,e0,r0,u0⟩:=QmI g0
  obtain ⟨b',v1,l',e1,r1,u1⟩:=QmI g1
  cases e0; cases e1
  have hB:Rows.uptoBulk d=Rows.uptoBulk y0.1+(Rows.uptoBulk y1.1+0)+1:=by rw [hd]; rfl
  refine ⟨((b,l,l.length),(b',l',l'.length)),?_,⟨rfl,rfl⟩,by dsimp only; omega,by dsimp only; omega⟩
  have ha:cs.toList=[.bool b,c1,.bool b',c3]:=hcs
  have:=(PRs.cons (H:=H0 W) (B:=B0) (.f (.v (.bool b) rfl)) (.cons (.f r0) (.cons (.f (.v (.bool b') rfl)) (.cons (.f r1) .nil)))).agg
  have e3:cs=#[.bool b,c1,.bool b',c3]:=by rw [← Array.toArray_toList (xs:=cs),ha]
  rw [e3]
  exact this
end
end Go.Proofs.YtmbmbcamecfnkaaGreatDoor
