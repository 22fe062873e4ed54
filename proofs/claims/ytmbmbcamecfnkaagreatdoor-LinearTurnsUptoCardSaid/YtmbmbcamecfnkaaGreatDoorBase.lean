/- Base words: what a slice value reads as; what is owned; how readings are kept. -/
import Derived.WalkKit
import Derived.WalkSpells
import Derived.WalkLawsBesides
import Derived.Lib.Hide
import Derived.BigQuiet
import Derived.Deep.QuietTactic
import Derived.Test.YtmbmbcamecfnkaaGreatDoorZMath
namespace Go.Proofs.YtmbmbcamecfnkaaGreatDoor
open Go.RowKit
def ints (k:IntKind) (l:List Nat):List Value:=l.map fun n:Nat=>Value.int k (n:Int)
theorem Qle (k:IntKind) (l:List Nat):(ints k l).length=l.length:=by simp [ints]
theorem Qeo (k:IntKind) (l m:List Nat):ints k (l++m)=ints k l++ints k m:=by simp [ints]
theorem ints_get? (k:IntKind) (l:List Nat) (i:Nat) (h:i<l.length):(ints k l)[i]?=some (.int k (dg l i:Nat)):=by
 simp [ints,dg,List.getD,h]
theorem QrJ (k:IntKind) (l:List Nat):∀ u∈ints k l,u.oneCell'=true:=by
 intro u hu
 obtain ⟨_,_,rfl⟩:=List.mem_map.1 hu
 rfl
theorem QqQ (ad:Addr) (i:Nat):(ad.add i).block=ad.block:=by
 unfold Addr.add; split <;> simp_all
def RdI (w:World) (v:Value) (k:IntKind) (l:List Nat):Prop :=
 ∃ ao cap,v=.slice ao l.length cap∧l.length≤cap∧cap≤maxLen∧(ao=none→cap=0) ∧
  ∀ i,i<l.length→∃ ad,ao=some ad∧w.cell? (ad.add i)=some (.int k (dg l i:Nat))
theorem RdI.keep {w w':World} {v:Value} {k:IntKind} {l:List Nat} (h:RdI w v k l) (hb:Below w.heap.size w w'):RdI w' v k l:=by
 obtain ⟨ao,cap,h1,h2,h3,h0,h4⟩:=h
 refine ⟨ao,cap,h1,h2,h3,h0,fun i hi=>?_⟩
 obtain ⟨ad,h5,h6⟩:=h4 i hi
 refine ⟨ad,h5,?_⟩
 rw [hb.cell (World.block_lt_of_cell? w _ h6)]
 exact h6
def Own (w:World) (B:Nat) (e:TypeId) (k:IntKind) (v:Value) (l:List Nat):Prop:=w.ownsRow B e 1 v l.length (ints k l)
theorem Own.rd {w:World} {B:Nat} {e:TypeId} {k:IntKind} {v:Value} {l:List Nat} (h:Own w B e k v l):RdI w v k l:=by
 obtain ⟨h1,h2⟩:=h
 rcases h2 with ⟨rfl,hn⟩ | ⟨g,cap,cur,rfl,hg,hh,hc,hm,hs,ht⟩
 · exact ⟨none,0,by rw [hn],by omega,by unfold maxLen; omega,fun _=>rfl,fun i hi=>by omega⟩
 · refine ⟨some ⟨g,0,none⟩,cap,rfl,hc,hm,(fun h=>by cases h),fun i hi=>⟨_,rfl,?_⟩⟩
   have hadd:(⟨g,0,none⟩:Addr).add i=⟨g,i,none⟩:=by unfold Addr.add; split <;> simp_all
   rw [hadd,cell_of_row w g i cur e (0,0) hh]
   have:=ints_get? k l i hi
   rw [← ht,List.getElem?_take,if_pos (by omega)] at this
   simpa using this
theorem Own.keep {w w':World} {B:Nat} {e:TypeId} {k:IntKind} {v:Value} {l:List Nat} (h:Own w B e k v l) (hb:Below w.heap.size w w'):Own w' B e k v l:=by
 obtain ⟨h1,h2⟩:=h
 refine ⟨h1,?_⟩
 rcases h2 with h2 | ⟨g,cap,cur,hv,hg,hh,r⟩
 · exact .inl h2
 · exact .inr ⟨g,cap,cur,hv,hg,by rw [hb.block g (Array.getElem?_eq_some_iff.1 hh).1]; exact hh,r⟩
theorem Own.low {w:World} {B B':Nat} {e:TypeId} {k:IntKind} {v:Value} {l:List Nat} (h:Own w B e k v l) (hB:B'≤B):Own w B' e k v l:=by
 obtain ⟨h1,h2⟩:=h
 refine ⟨h1,?_⟩
 rcases h2 with h2 | ⟨g,cap,cur,hv,hg,r⟩
 · exact .inl h2
 · exact .inr ⟨g,cap,cur,hv,by omega,r⟩
theorem Own.at {w:World} {B:Nat} {e:TypeId} {k:IntKind} {v:Value} {l:List Nat} (h:Own w B e k v l) (h0:0<l.length) :
  ∃ g cap,v=.slice (some ⟨g,0,none⟩) l.length cap∧l.length≤cap∧cap≤maxLen∧B≤g∧g<w.heap.size:=by
 rcases h.2 with ⟨rfl,hn⟩ | ⟨g,cap,cur,rfl,hg,hh,hc,hm,hs,ht⟩
 · omega
 · exact ⟨g,cap,rfl,hc,hm,hg,(Array.getElem?_eq_some_iff.1 hh).1⟩
theorem Own.pop {w:World} {B:Nat} {e:TypeId} {k:IntKind} {g cap:Nat} {l:List Nat} (h:Own w B e k (.slice (some ⟨g,0,none⟩) l.length cap) l) (h0:0<l.length) :
  Own w B e k (.slice (some ⟨g,0,none⟩) (l.length - 1) cap) l.dropLast:=by
 unfold Own at *
 have hl:l≠[]:=by intro h; subst h; simp at h0
 have e1:l=l.dropLast++[l.getLast hl]:=(List.dropLast_concat_getLast hl).symm
 rw [e1,Qeo] at h
 rw [← e1] at h
 have e2:l.length=l.dropLast.length+1:=by simp; omega
 rw [List.length_dropLast]
 rw [e2] at h
 have:=ownsRow_pop (n:=l.dropLast.length) (size:=1) (by simp [Qle]) h
 simpa using this
theorem Own.set {w:World} {B:Nat} {e:TypeId} {k:IntKind} {v:Value} {l:List Nat} (h:Own w B e k v l) {a:Addr} (ha:a.block<B) (u:Value):Own (w.setCell a u) B e k v l :=
 ownsRow_setCell_below h ha u
theorem Own.cell {w:World} {B:Nat} {e:TypeId} {k:IntKind} {g n cap:Nat} {l:List Nat} (h:Own w B e k (.slice (some ⟨g,0,none⟩) n cap) l) (j:Nat) (hj:j<l.length) :
  w.cell? ⟨g,j,none⟩=some (.int k (dg l j:Nat)):=by
 obtain ⟨ao,c,h1,_,_,_,h4⟩:=h.rd
 obtain ⟨ad,h5,h6⟩:=h4 j hj
 cases h1
 cases h5
 have hadd:(⟨g,0,none⟩:Addr).add j=⟨g,j,none⟩:=by unfold Addr.add; split <;> simp_all
 rw [hadd] at h6; exact h6
theorem Own.free {w:World} {B:Nat} {e:TypeId} {k:IntKind} {g n cap:Nat} {l:List Nat} (h:Own w B e k (.slice (some ⟨g,0,none⟩) n cap) l) (j:Nat):w.frozen? ⟨g,j,none⟩=false:=by
 unfold Own at h
 have:n=l.length:=by rcases h.2 with ⟨h,_⟩ | ⟨_,_,_,h,_⟩ <;> cases h; rfl
 subst this
 exact h.frozenAt j
theorem Own.stored {w:World} {B:Nat} {e:TypeId} {k:IntKind} {g n cap:Nat} {l:List Nat} (h:Own w B e k (.slice (some ⟨g,0,none⟩) n cap) l) (j x:Nat) :
  Own (w.setCell ⟨g,j,none⟩ (.int k x)) B e k (.slice (some ⟨g,0,none⟩) n cap) (l.set j x):=by
 unfold Own at *
 have hn:n=l.length:=by rcases h.2 with ⟨h,_⟩ | ⟨_,_,_,h,_⟩ <;> cases h; rfl
 subst hn
 have:=(h.stored j (.int k x)).1
 rw [List.length_set]
 have e1:ints k (l.set j x)=(ints k l).set j (.int k x):=by simp [ints,List.map_set]
 rw [e1]; exact this
theorem Own.lts {w:World} {B:Nat} {e:TypeId} {k:IntKind} {g n cap:Nat} {l:List Nat} (h:Own w B e k (.slice (some ⟨g,0,none⟩) n cap) l):B≤g∧g<w.heap.size:=by
 rcases h.2 with ⟨h,_⟩ | ⟨g',cap',cur,h',hb,hg,_⟩
 · cases h
 · cases h'; exact ⟨hb,(Array.getElem?_eq_some_iff.1 hg).1⟩
theorem RdI.drewN {w:World} {v:Value} {k:IntKind} {l:List Nat} (h:RdI w v k l) (n:Nat):RdI (w.drewN n) v k l:=h
theorem RdI.drew {w:World} {v:Value} {k:IntKind} {l:List Nat} (h:RdI w v k l):RdI w.drew v k l:=h
theorem Own.drewN {w:World} {B:Nat} {e:TypeId} {k:IntKind} {v:Value} {l:List Nat} (h:Own w B e k v l) (n:Nat):Own (w.drewN n) B e k v l:=h
theorem Own.drew {w:World} {B:Nat} {e:TypeId} {k:IntKind} {v:Value} {l:List Nat} (h:Own w B e k v l):Own w.drew B e k v l:=h
theorem QaE {B:Nat} {a w:World} (h:Below B a w) (n:Nat):Below B a (w.drewN n):=⟨h.os,h.tape,h.output,h.size,h.block⟩
theorem qs {P:Program} {f:FuncId} {args:Array Value} {w:World} {n:Nat} {v:Value}
  (h:Calls P f args (w.drewN n) fun e w'=>e=.returned v∧w.drewN n=w'):Calls P f args (w.drewN n) fun e w''=>e=.returned v∧∃ m,w''=w.drewN m :=
 h.mono fun _ _ ⟨he,hm⟩=>⟨he,n,hm.symm⟩
theorem st {P:Program} {f:FuncId} {args:Array Value} {w:World} {v:Value}
  (h:Calls P f args w fun e w'=>e=.returned v∧w=w'):Calls P f args w fun e w'=>e=.returned v∧w'=w :=
 h.mono fun _ _ ⟨he,hm⟩=>⟨he,hm.symm⟩
theorem Qaq (w:World) (o:Obj) (b j:Nat) (h:b<w.heap.size):(w.alloc o).cell? ⟨b,j,none⟩=w.cell? ⟨b,j,none⟩ :=
 World.cell?_of_block (a:=⟨b,j,none⟩) (heap_alloc_old w o h)
theorem Qal (w:World) (c:Array Value) (e:TypeId) (b j:Nat) (h:b=w.heap.size):(w.alloc (.cells c e)).cell? ⟨b,j,none⟩=c[j]?:=by
 subst h
 rw [cell_of_row _ w.heap.size j c e (0,0) (heap_alloc_new w _)]
theorem Qbj (w:World) (o:Obj) (b j:Nat) (h:b<w.heap.size):(w.alloc o).frozen? ⟨b,j,none⟩=w.frozen? ⟨b,j,none⟩ :=
 World.frozen?_of_block (a:=⟨b,j,none⟩) (heap_alloc_old w o h)
theorem QaW (w:World) (c:Array Value) (e:TypeId) (b j:Nat) (h:b=w.heap.size):(w.alloc (.cells c e)).frozen? ⟨b,j,none⟩=false:=by
 subst h
 exact frozen_of_row _ w.heap.size j c e (heap_alloc_new w _)
theorem Qaa (w:World) (o:Obj):(w.alloc o).heap.size=w.heap.size+1:=by simp
theorem QaS (w:World) (a:Addr):w.drew.cell? a=w.cell? a:=rfl
theorem Qbp (w:World) (a:Addr):w.drew.frozen? a=w.frozen? a:=rfl
theorem Qbl (w:World) (n:Nat) (a:Addr):(w.drewN n).cell? a=w.cell? a:=rfl
theorem Qbk (w:World) (n:Nat) (a:Addr):(w.drewN n).frozen? a=w.frozen? a:=rfl
theorem Qac (w:World):w.drew.heap.size=w.heap.size:=rfl
theorem Qab (w:World) (n:Nat):(w.drewN n).heap.size=w.heap.size:=rfl
theorem Qad (w:World) (a:Addr) (u:Value):(w.setCell a u).heap.size=w.heap.size:=by simp [World.setCell]
theorem Qba (w:World) (b' j' b j:Nat) (u:Value) (h:b≠b'):(w.setCell ⟨b',j',none⟩ u).cell? ⟨b,j,none⟩=w.cell? ⟨b,j,none⟩ :=
 World.cell?_of_block (a:=⟨b,j,none⟩) (Below.heap_setCell w ⟨b',j',none⟩ u b h)
theorem Qt8 (w:World) (b' j' b j:Nat) (u:Value) (h:b≠b'):(w.setCell ⟨b',j',none⟩ u).frozen? ⟨b,j,none⟩=w.frozen? ⟨b,j,none⟩ :=
 World.frozen?_of_block (a:=⟨b,j,none⟩) (Below.heap_setCell w ⟨b',j',none⟩ u b h)
theorem QaH {w:World} {b j:Nat} {u v:Value} (h:w.cell? ⟨b,j,none⟩=some v):(w.setCell ⟨b,j,none⟩ u).cell? ⟨b,j,none⟩=some u:=by
 unfold World.cell? World.setCell at *
 simp only [Array.getElem?_modify,if_true] at *
 cases hh:w.heap[b]? with
 | none=>rw [hh] at h; cases h
 | some o =>
  rw [hh] at h
  cases o <;> simp at h
  rename_i c e f
  simp
  have:=(Array.getElem?_eq_some_iff.1 h).1
  simp [this]
theorem QaJ (w:World) (b' j' b j:Nat) (u:Value):(w.setCell ⟨b',j',none⟩ u).frozen? ⟨b,j,none⟩=w.frozen? ⟨b,j,none⟩:=by
 by_cases h:b'=b
 · subst h
   unfold World.frozen? World.setCell
   simp only [Array.getElem?_modify,if_true]
   cases w.heap[b']? with
   | none=>rfl
   | some o=>cases o <;> rfl
 · exact Qt8 w b' j' b j u (fun e=>h e.symm)
theorem Qpu (w:World) (k:IntKind) (x:Nat) (e:TypeId) (b:Nat) (h:b=w.heap.size):RdI (w.alloc (.cells #[.int k x] e)) (.slice (some ⟨b,0,none⟩) 1 1) k [x]:=by
 refine ⟨_,1,rfl,by simp,by unfold maxLen; omega,(fun h=>by cases h),fun i hi=>⟨_,rfl,?_⟩⟩
 obtain rfl:i=0:=by simp at hi; exact hi
 have hadd:(⟨b,0,none⟩:Addr).add 0=⟨b,0,none⟩:=by unfold Addr.add; split <;> simp_all
 rw [hadd,Qal _ _ _ _ _ h]
 rfl
theorem QtM (w:World) (k:IntKind) (x:Nat) (e:TypeId) (b B:Nat) (h:b=w.heap.size) (hB:B≤b):Own (w.alloc (.cells #[.int k x] e)) B e k (.slice (some ⟨b,0,none⟩) 1 1) [x]:=by
 subst h
 refine ⟨by simp [ints],.inr ⟨w.heap.size,1,#[.int k x],rfl,hB,heap_alloc_new w _,by simp,by unfold maxLen; omega,rfl,rfl⟩⟩
section
variable {P : Program} {w : World}
theorem QtF (t ty e:TypeId) (k:IntKind) (i:TypeInfo) (bytes:Nat) (ht:P.underlying t=some (.slice e)) (hi:P.info? e=some i) (hz:i.zero=some (.int k 0)) (hsize:i.size=1) (hby:i.bytes=bytes)
  {B:Nat} {v:Value} {l:List Nat} (hown:Own w B e k v l) {u:Value} {m:List Nat} (hu:RdI w u k m)
  (hl:l.length+m.length≤maxLen) (hbytes:(l.length+m.length) * bytes≤140737488355328) (hB:B≤w.heap.size) :
  ∃ v' w',(Builtin.append_ #[t,t] ty #[v,u]).run P w=.ok v' w'∧Own w' B e k v' (l++m)∧Below B w w':=by
 obtain ⟨ao,cap,rfl,h2,h3,h0,h4⟩:=hu
 cases ao with
 | none =>
  have hm:m=[]:=by
   cases m with
   | nil=>rfl
   | cons x m=>obtain ⟨ad,h,_⟩:=h4 0 (by simp); cases h
  subst hm
  obtain rfl:=h0 rfl
  refine ⟨v,w,run_append_owned_none (P:=P) w B t ty e i 1 ht hi v l.length (ints k l) hown,by simpa using hown,Below.refl _ _⟩
 | some ad =>
  obtain ⟨v',w',hr,h5,h6,_⟩:=run_append_own (P:=P) w B t ty e i (.int k 0) 1 bytes ht hi hz hsize hby rfl (by omega) v l.length (ints k l) hown ad m.length cap (ints k m) (by simp [ints])
   (by
    intro j x hj
    have hjm:j<m.length:=by
     have:=(List.getElem?_eq_some_iff.1 hj).1
     simpa [ints] using this
    rw [ints_get? k m j hjm] at hj
    obtain ⟨ad',h,h7⟩:=h4 j hjm
    cases h
    rw [h7]; exact hj)
   (QrJ k m) hl hbytes hB
  refine ⟨v',w',hr,?_,(Below.refl B w).grown h6 hB fun k hk=>(World.ownsRow.lt hown k hk).1⟩
  unfold Own
  rw [Qeo,List.length_append]; exact h5
theorem Qsn {o:Oper} {a:Act} {K:Act→World→Prop} {Q:Exit→Act→World→Prop} (s x:Operand) (t:TypeId)
  (ho:o.op=.call { callee:=.builtin .append,args:=#[s,x],argTypes:=#[t,t] })
  (e:TypeId) (k:IntKind) (i:TypeInfo) (bytes:Nat) (ht:P.underlying t=some (.slice e)) (hi:P.info? e=some i) (hz:i.zero=some (.int k 0)) (hsize:i.size=1) (hby:i.bytes=bytes)
  (B:Nat) (v:Value) (l:List Nat) (hs:a.eval s=v) (hown:Own w B e k v l) (u:Value) (m:List Nat) (hx:a.eval x=u) (hu:RdI w u k m)
  (hl:l.length+m.length≤maxLen) (hbytes:(l.length+m.length) * bytes≤140737488355328) (hB:B≤w.heap.size)
  (h:∀ v' w',Own w' B e k v' (l++m)→Below B w w'→K (a.put o.dst v') w'):o.wp P a w K Q:=by
 obtain ⟨v',w',hr,h2,h3⟩:=QtF (P:=P) t o.type e k i bytes ht hi hz hsize hby hown hu hl hbytes hB
 unfold Oper.wp execOp
 simp only [ho,resolve,invoke,builtin,Sem.run_bind,Sem.run_pure,Result.andThen_ok,List.map_toArray,List.map_cons,List.map_nil,hs,hx,hr]
 exact h v' w' h2 h3
theorem appL {ops:Array Oper} {rest:List Oper} {o:Oper} {a:Act} {Q:Exit→Act→World→Prop} (hgd:o.guard=none) (s x:Operand) (t:TypeId)
  (ho:o.op=.call { callee:=.builtin .append,args:=#[s,x],argTypes:=#[t,t] })
  (e:TypeId) (k:IntKind) (i:TypeInfo) (bytes:Nat) (ht:P.underlying t=some (.slice e)) (hi:P.info? e=some i) (hz:i.zero=some (.int k 0)) (hsize:i.size=1) (hby:i.bytes=bytes)
  (B:Nat) (v:Value) (l:List Nat) (hs:a.eval s=v) (hown:Own w B e k v l) (u:Value) (m:List Nat) (hx:a.eval x=u) (hu:RdI w u k m)
  (hl:l.length+m.length≤maxLen) (hbytes:(l.length+m.length) * bytes≤140737488355328) (hB:B≤w.heap.size)
  (h:∀ v' w',Own w' B e k v' (l++m)→Below B w w'→wpList P ops Q rest (a.put o.dst v') w'):wpList P ops Q (o::rest) a w :=
 wpList_plain hgd fun _ hK=>Qsn s x t ho e k i bytes ht hi hz hsize hby B v l hs hown u m hx hu hl hbytes hB fun v' w' h2 h3=>hK _ _ (h v' w' h2 h3)
theorem appS {ops:Array Oper} {o:Oper} {a:Act} {K:Act→World→Prop} {Q:Exit→Act→World→Prop} {E:Prop} (hgd:o.guard=none) (s x:Operand) (t:TypeId)
  (ho:o.op=.call { callee:=.builtin .append,args:=#[s,x],argTypes:=#[t,t] })
  (e:TypeId) (k:IntKind) (i:TypeInfo) (bytes:Nat) (ht:P.underlying t=some (.slice e)) (hi:P.info? e=some i) (hz:i.zero=some (.int k 0)) (hsize:i.size=1) (hby:i.bytes=bytes)
  (B:Nat) (v:Value) (l:List Nat) (hs:a.eval s=v) (hown:Own w B e k v l) (u:Value) (m:List Nat) (hx:a.eval x=u) (hu:RdI w u k m)
  (hl:l.length+m.length≤maxLen) (hbytes:(l.length+m.length) * bytes≤140737488355328) (hB:B≤w.heap.size)
  (h:∀ v' w',Own w' B e k v' (l++m)→Below B w w'→K (a.put o.dst v') w'):if Region.wanted o (yielded ops a.tmps)=true then Oper.wp P o a w K Q else E:=by
 have hw:Region.wanted o (yielded ops a.tmps)=true:=by simp [Region.wanted,hgd]
 rw [if_pos hw]
 exact Qsn s x t ho e k i bytes ht hi hz hsize hby B v l hs hown u m hx hu hl hbytes hB h
end
theorem bcell {B:Nat} {w w':World} (hb:Below B w w'):(∀ b o,b<B→w'.cell? ⟨b,o,none⟩=w.cell? ⟨b,o,none⟩)∧(∀ b o,b<B→w'.frozen? ⟨b,o,none⟩=w.frozen? ⟨b,o,none⟩) :=
 ⟨fun b o h=>hb.cell (p:=⟨b,o,none⟩) h,fun b o h=>hb.frozen (p:=⟨b,o,none⟩) h⟩
theorem Own.put {w w':World} {B:Nat} {e:TypeId} {k:IntKind} {v:Value} {l:List Nat} (h:Own w B e k v l) (hb:Below w.heap.size w w') {a:Addr} (ha:a.block<B∨w.heap.size≤a.block) (u:Value):Own (w'.setCell a u) B e k v l:=by
 obtain ⟨h1,h2⟩:=h
 refine ⟨h1,?_⟩
 rcases h2 with h2 | ⟨g,cap,cur,hv,hg,hh,r⟩
 · exact .inl h2
 · have hl:=(Array.getElem?_eq_some_iff.1 hh).1
   exact .inr ⟨g,cap,cur,hv,hg,by rw [Below.heap_setCell _ _ _ _ (by omega),hb.block g hl]; exact hh,r⟩
theorem QiN (w:World) (o:Obj) (g:Nat) (h:g<w.heap.size):(w.alloc o).heap[g]?=w.heap[g]?:=Below.heap_alloc w o g h
theorem Qep (w:World) (b j:Nat) (u:Value) (g:Nat) (h:g≠b):(w.setCell ⟨b,j,none⟩ u).heap[g]?=w.heap[g]?:=Below.heap_setCell w ⟨b,j,none⟩ u g h
theorem Qqy (w:World) (b j:Nat) (u:Value):(w.setCell ⟨b,j,none⟩ u).cell? ⟨b,j,none⟩=(w.cell? ⟨b,j,none⟩).map fun _=>u:=by
 cases h:w.cell? ⟨b,j,none⟩ with
 | some v=>rw [QaH h]; rfl
 | none =>
  unfold World.cell? World.setCell at *
  simp only [Array.getElem?_modify,if_true] at *
  cases hh:w.heap[b]? with
  | none=>rfl
  | some o =>
   rw [hh] at h
   cases o <;> simp_all
theorem Own.same {w w':World} {B:Nat} {e:TypeId} {k:IntKind} {v:Value} {l:List Nat} (h:Own w B e k v l) (hb:∀ g,B≤g→g<w.heap.size→w'.heap[g]?=w.heap[g]?):Own w' B e k v l:=by
 obtain ⟨h1,h2⟩:=h
 refine ⟨h1,?_⟩
 rcases h2 with h2 | ⟨g,cap,cur,hv,hg,hh,r⟩
 · exact .inl h2
 · exact .inr ⟨g,cap,cur,hv,hg,by rw [hb g hg (Array.getElem?_eq_some_iff.1 hh).1]; exact hh,r⟩
def cmpI (a b:Int):Int:=if a<b then -1 else if b<a then 1 else 0
theorem Qcd {a b:Int} (h:a<b):cmpI a b=-1:=by simp [cmpI,h]
theorem Qce {a b:Int} (h:b<a):cmpI a b=1:=by simp only [cmpI]; rw [if_neg (by omega),if_pos h]
theorem QeU (a:Int):cmpI a a=0:=by simp [cmpI]
theorem Qg9 {a b:Int} (h:a=b):cmpI a b=0:=by subst h; exact QeU a
def QrA:Value→Nat
 | .slice _ n _=>n
 | _=>0
theorem app1 {P:Program} {w0 w:World} {ops:Array Oper} {rest:List Oper} {o:Oper} {a:Act} {Q:Exit→Act→World→Prop} (hgd:o.guard=none) (s x:Operand) (t:TypeId)
  (ho:o.op=.call { callee:=.builtin .append,args:=#[s,x],argTypes:=#[t,t] })
  (e:TypeId) (k:IntKind) (i:TypeInfo) (bytes:Nat) (ht:P.underlying t=some (.slice e)) (hi:P.info? e=some i) (hz:i.zero=some (.int k 0)) (hsize:i.size=1) (hby:i.bytes=bytes)
  (B:Nat) (v:Value) (l:List Nat) (hs:a.eval s=v) (hown:Own w0 B e k v l) (X:Int) (n:Nat) (hX:X=n)
  (hx:a.eval x=.slice (some ⟨w0.heap.size,0,none⟩) 1 1) (hw:w=w0.alloc (.cells #[.int k X] e))
  (hl:l.length+1≤maxLen) (hbytes:(l.length+1) * bytes≤140737488355328) (hB:B≤w0.heap.size)
  (h:∀ v' w',Own w' B e k v' (l++[n])→Below B w0 w'→wpList P ops Q rest (a.put o.dst v') w'):wpList P ops Q (o::rest) a w:=by
 subst hw hX
 refine wpList_append_own _ hgd s x t ho B e i (.int k 0) 1 bytes ht hi hz hsize hby rfl (by omega) v l.length (ints k l) hs (hown.alloc _) ⟨w0.heap.size,0,none⟩ 1 1 [.int k n] hx rfl ?_ ?_ hl hbytes (by simp; omega) ?_
 · intro j u hj
   match j,hj with
   | 0,hj=>simp at hj; subst hj; simp [Addr.add]
 · intro u hu; simp at hu; subst hu; rfl
 · intro v' w' h1 h2 _
   refine h v' w' ?_ ?_
   · unfold Own; rw [Qeo,List.length_append]; exact h1
   · exact ((Below.refl B w0).alloc hB _).grown h2 (by simp; omega) fun k hk=>(World.ownsRow.lt hown k hk).1
theorem mk0 {P:Program} {w:World} {ops:Array Oper} {rest:List Oper} {o:Oper} {a:Act} {Q:Exit→Act→World→Prop}
  (hg:o.guard=none) (l c:Operand) (t:TypeId) (hop:o.op=Op.makeSlice t l c)
  (e:TypeId) (k:IntKind) (i:TypeInfo) (bytes:Nat) (ht:P.underlying t=some (.slice e)) (hi:P.info? e=some i) (hz:i.zero=some (.int k 0)) (hsize:i.size=1) (hby:i.bytes=bytes)
  (kl kc:IntKind) (L C:Int) (n:Nat) (hl:a.eval l=.int kl L) (hc:a.eval c=.int kc C) (hL:L=(n:Int)) (hC:C=(n:Int)) (b2:bytes * n≤281474976710656) (b3:n≤maxLen)
  (hK:∀ w',Own w' w.heap.size e k (.slice (some ⟨w.heap.size,0,none⟩) n n) (List.replicate n 0)→Below w.heap.size w w'→wpList P ops Q rest (a.put o.dst (.slice (some ⟨w.heap.size,0,none⟩) n n)) w') :
  wpList P ops Q (o::rest) a w:=by
 refine wpList_make_full _ hg l c t hop w.heap.size e i (.int k 0) 1 ht hi hz hsize kl kc L C n hl hc hL hC (by rw [hby]; exact b2) b3 (Nat.le_refl _) ?_
 intro w' h1 h2
 refine hK w' ?_ ((Below.refl _ _).grown h2 (Nat.le_refl _) (by simp))
 unfold Own
 have e1:ints k (List.replicate n 0)=(madeCells #[.int k 0] (n * 1)).toList:=by
  simp only [ints,madeCells,List.map_replicate,Nat.mul_one,Array.toList_map,Array.toList_range]
  apply List.ext_getElem
  · simp
  · intro j h1 h2
    simp [Nat.mod_one]
 rw [List.length_replicate,e1]
 exact h1
end Go.Proofs.YtmbmbcamecfnkaaGreatDoor
