/- What a term that has a sort comes to: a value of it. -/
import Derived.Test.YtemhncjjiomppaaGreatDoorCn
set_option linter.unusedSimpArgs false
namespace Go.Proofs.YtemhncjjiomppaaGreatDoor
open Go.RowKit
set_option linter.unusedVariables false
set_option maxRecDepth 100000
theorem Qgn {D:List Dat} {B:List Bnd} {s:Tw} {v:Vw} (h:evalT D B s=.ok v):evalL D B [s]=.ok [v]:=by
 rw [evalL,h,evalL]
theorem Qgm {D:List Dat} {B:List Bnd} {s t:Tw} {v w:Vw} (h:evalT D B s=.ok v) (h1:evalT D B t=.ok w):evalL D B [s,t]=.ok [v,w]:=by
 rw [evalL,h,Qgn h1]
theorem Qu1 {k:Int} {s:Tw} (hk:QaQ k=(1,true)):EvG (conT k [s]):=⟨fun h=>absurd h.2 (by show ¬ (1:Nat)=0; decide),by show (QaQ k).2=true; rw [hk],fun _=>by show ((1:Nat):Int)=(QaQ k).1; rw [hk]; rfl⟩
theorem QqK {k:Int} {l:List Tw} (hk:QaQ k=(-1,true)) (h1:¬ k=1):EvG (conT k l):=⟨fun h=>h1 h.1,by show (QaQ k).2=true; rw [hk],fun h=>by
 have h:0≤(QaQ k).1:=h
 rw [hk] at h; exact absurd h (by decide)⟩
theorem QsX {v:Vw} {k:Int} (h:v.kind=k):allV [v] k=true:=QbN.2 fun u hu=>by
 obtain rfl:u=v:=by simpa using hu
 exact h
theorem Qfy {v w:Vw} {k:Int} (h:v.kind=k) (h1:w.kind=k):allV [v,w] k=true:=QbN.2 fun u hu=>by
 rcases List.mem_cons.1 hu with rfl | hu
 · exact h
 · obtain rfl:u=w:=by simpa using hu
   exact h1
theorem Qkb (v w:Vw) (b:Bool):Qbt [v,w] b=(decide (v.truth=b) && decide (w.truth=b)):=by
 cases h:Qbt [v,w] b with
 | true =>
  have:=Qkc.1 h
  rw [decide_eq_true (this v (by simp)),decide_eq_true (this w (by simp))]; rfl
 | false =>
  by_cases h1:v.truth=b
  · by_cases h2:w.truth=b
    · have:Qbt [v,w] b=true:=Qkc.2 fun u hu=>by
       rcases List.mem_cons.1 hu with rfl | hu
       · exact h1
       · obtain rfl:u=w:=by simpa using hu
         exact h2
      rw [h] at this; cases this
    · rw [decide_eq_false h2]; simp
  · rw [decide_eq_false h1]; rfl
section
variable {D : List Dat} {B : List Bnd} {s t : Tw} {v w : Vw}
theorem t_not (h:evalT D B s=.ok v) (hk:v.kind=2):evalT D B (conT 10 [s])=.ok (Qao (!v.truth)) :=
 QcP (Qu1 (by decide)) (Qgn h) (by rw [QmG rfl,QsX hk]; rfl)
theorem t_and (h:evalT D B s=.ok v) (h1:evalT D B t=.ok w) (hk:v.kind=2) (hk1:w.kind=2):evalT D B (conT 11 [s,t])=.ok (Qao (v.truth && w.truth)) :=
 QcP (QqK (by decide) (by decide)) (Qgm h h1) (by rw [QmF rfl,Qfy hk hk1,Qkb]; simp)
theorem t_or (h:evalT D B s=.ok v) (h1:evalT D B t=.ok w) (hk:v.kind=2) (hk1:w.kind=2):evalT D B (conT 12 [s,t])=.ok (Qao (v.truth || w.truth)) :=
 QcP (QqK (by decide) (by decide)) (Qgm h h1) (by rw [QmE rfl,Qfy hk hk1,Qkb]; cases v.truth <;> cases w.truth <;> rfl)
end
theorem Qnp {B:List Bnd} {b:Bnd} (h:b∈B):cntV b.value≤cntB B:=by
 induction B with
 | nil=>cases h
 | cons c B ih =>
  rw [cntB]
  rcases List.mem_cons.1 h with rfl | h
  · omega
  · have:=ih h; omega
theorem Qnn {D:List Dat} {d:Dat} (h:d∈D):cntK d.cons≤cntD D:=by
 induction D with
 | nil=>cases h
 | cons c B ih =>
  rw [cntD]
  rcases List.mem_cons.1 h with rfl | h
  · omega
  · have:=ih h; omega
theorem QuY {D:List Dat} (h:cntD D≤600):fitD D:=fun d hd=>by
 have h1:=Qnn hd
 have h2:=Qfw d.cons
 omega
theorem Qni (s:ByteArray):∀ (D:List Dat) (k:Nat),conD D s=(conM D s k).map fun p=>((D.getD (p.1 - k) Sh.dat.nil).name,((D.getD (p.1 - k) Sh.dat.nil).cons).getD p.2 Sh.con.nil)
 | [],k=>rfl
 | d::D,k=>by
  unfold conD conM
  rw [List.findSome?_cons]
  cases h:d.cons.findIdx? (fun c=>decide (c.name=s)) with
  | none =>
   have hf:d.cons.find? (fun c=>decide (c.name=s))=none:=by
    rw [List.findIdx?_eq_none_iff] at h
    rw [List.find?_eq_none]
    intro x hx
    rw [h x hx]; decide
   have hc:¬ (0:Int)≤QdB d.cons s:=by
    unfold QdB anyB; rw [h]; decide
   rw [hf,if_neg hc]
   show conD D s=_
   rw [Qni s D (k+1)]
   cases hm:conM D s (k+1) with
   | none=>rfl
   | some p =>
    obtain ⟨a,b⟩:=p
    obtain ⟨h1,h2,-⟩:=QdT hm
    show some _=some _
    have e:a - k=(a - (k+1))+1:=by omega
    dsimp only
    rw [e,List.getD_cons_succ]
  | some i =>
   have hc:QdB d.cons s=i:=by unfold QdB anyB; rw [h]
   obtain ⟨hi,h1,h2⟩:=List.findIdx?_eq_some_iff_getElem.1 h
   have hf:d.cons.find? (fun c=>decide (c.name=s))=some d.cons[i]:=by
    rw [List.find?_eq_some_iff_getElem]
    exact ⟨h1,i,hi,rfl,fun j hj=>by simpa using h2 j hj⟩
   rw [hf,if_pos (by rw [hc]; omega),hc]
   show some _=some _
   dsimp only
   rw [Nat.sub_self,List.getD_cons_zero,Int.toNat_natCast,List.getD_eq_getElem?_getD,List.getElem?_eq_getElem hi]
   rfl
theorem Qor {D:List Dat} {s u v:ByteArray} (ht:¬ s=bTag) (h:funD D s=some (u,v)) :
  (Qah D s).2.2=true∧Dat.name (D.getD (Qah D s).1.1 Sh.dat.nil)=u∧(Qaz D (Qah D s).1).getD (Qah D s).2.1.toNat Sh.str.nil=v:=by
 unfold funD at h
 rw [if_neg ht] at h
 split at h
 · cases h
 rename_i h2
 split at h
 · cases h
 rename_i h3
 have hb:byN s (s.size - 2)=46:=Classical.byContradiction fun c=>h3 (.inl c)
 have hd1:¬ byN s (s.size - 1)<48:=fun c=>h3 (.inr (.inl c))
 have hd2:¬ 57<byN s (s.size - 1):=fun c=>h3 (.inr (.inr c))
 have hl:Qaq s 46 s.size=(s.size:Int) - 2:=by
  rw [Qf6 (by omega) (by unfold byN at hd1; omega),Qhn (by omega) (by
   have:s.size - 1 - 1=s.size - 2:=by omega
   rw [this]; unfold byN at hb; omega)]
  omega
 have ha:atS s (Qaq s 46 s.size+1)=byN s (s.size - 1):=by
  rw [hl]; unfold atS byN
  have:((s.size:Int) - 2+1).toNat=s.size - 1:=by omega
  rw [this]
 have hcut:cutS s (Qaq s 46 s.size)=s.extract 0 (s.size - 2):=by
  rw [hl]; unfold cutS
  have:((s.size:Int) - 2).toNat=s.size - 2:=by omega
  rw [this]
 have hfm:=Qj6 (D:=D) (s:=s) (by omega) (by omega) (by rw [ha]; omega) (by rw [ha]; omega)
 rw [ha,hcut] at hfm
 rw [Qni (s.extract 0 (s.size - 2)) D 0] at h
 cases hc:conM D (s.extract 0 (s.size - 2)) 0 with
 | none=>rw [hc] at h; cases h
 | some p =>
  rw [hc] at h hfm
  simp only [Option.map_some,Nat.sub_zero] at h
  split at h
  · rename_i hlt
    cases h
    have e:((byN s (s.size - 1):Int) - 48).toNat=byN s (s.size - 1) - 48:=by omega
    rw [hfm]
    refine ⟨?_,rfl,?_⟩
    · simp only [Option.isSome_some,Option.getD_some,Bool.true_and,decide_eq_true_eq]
      unfold Qaz; omega
    · simp only [Option.getD_some]
      rw [e]; rfl
  · cases h
theorem Qm2:¬ bInt=QaM:=by decide
theorem Qgz (D:List Dat):QaR D bInt=false:=by unfold QaR; rw [decide_eq_true rfl]; rfl
theorem QeS (D:List Dat):QaR D QaM=false:=by unfold QaR; rw [decide_eq_true (rfl:QaM=QaM)]; simp
section
variable {D : List Dat} {v : Vw} {s : ByteArray}
theorem QjL (h:ofV D bInt v=true):v.kind=1:=by
 rw [Qe0,Bool.and_eq_true] at h
 obtain ⟨-,h⟩:=h
 by_cases h1:v.kind=1
 · exact h1
 · rw [if_neg h1] at h
   by_cases h2:v.kind=2
   · rw [if_pos h2,decide_eq_true_eq] at h; exact absurd h Qm2
   · rw [if_neg h2] at h
     by_cases h3:v.kind=3
     · rw [if_pos h3,Qgz] at h; cases h
     · rw [if_neg h3] at h; cases h
theorem Qp6 (h:ofV D QaM v=true):v.kind=2:=by
 rw [Qe0,Bool.and_eq_true] at h
 obtain ⟨-,h⟩:=h
 by_cases h1:v.kind=1
 · rw [if_pos h1,Bool.and_eq_true,decide_eq_true_eq] at h; exact absurd h.1.symm Qm2
 · rw [if_neg h1] at h
   by_cases h2:v.kind=2
   · exact h2
   · rw [if_neg h2] at h
     by_cases h3:v.kind=3
     · rw [if_pos h3,QeS] at h; cases h
     · rw [if_neg h3] at h; cases h
theorem QfZ (hi:¬ s=bInt) (hb:¬ s=QaM) (h:ofV D s v=true):v.kind=3:=by
 rw [Qe0,Bool.and_eq_true] at h
 obtain ⟨-,h⟩:=h
 by_cases h1:v.kind=1
 · rw [if_pos h1,Bool.and_eq_true,decide_eq_true_eq] at h; exact absurd h.1 hi
 · rw [if_neg h1] at h
   by_cases h2:v.kind=2
   · rw [if_pos h2,decide_eq_true_eq] at h; exact absurd h hb
   · rw [if_neg h2] at h
     by_cases h3:v.kind=3
     · exact h3
     · rw [if_neg h3] at h; cases h
theorem QeJ (D:List Dat) (z:Int):ofV D bInt (numV z)=true:=by
 rw [Qe0,if_pos (show (numV z).kind=1 from rfl),decide_eq_true (rfl:bInt=bInt)]
 exact (Bool.and_eq_true _ _).mpr ⟨rfl,(Bool.and_eq_true _ _).mpr ⟨rfl,QjD z⟩⟩
theorem QbM (D:List Dat) (b:Bool):ofV D QaM (Qao b)=true:=by
 rw [Qe0]; rfl
theorem QuD (h:QaR D s=true):ofV D s nilV=true:=by
 rw [Qe0]
 show (Qbo nilV && (QaR D s && _))=true
 rw [h]; rfl
theorem QvW {α:Type} {l:List α} {f:α→Bool} {x:α} (hx:x∈l) (h:f x=true):0≤anyB l f:=by
 unfold anyB
 cases hc:l.findIdx? f with
 | none =>
  rw [List.findIdx?_eq_none_iff] at hc
  rw [hc x hx] at h; cases h
 | some i=>exact Int.natCast_nonneg i
theorem Qt2 (hb:QcR D s=true) (h:ofV D s v=true):QcM D v=true:=by
 unfold QcR at hb
 unfold QcM
 simp only [Bool.or_eq_true,decide_eq_true_eq] at hb ⊢
 rcases hb with rfl | rfl | hb
 · exact .inl h
 · exact .inr (.inl h)
 · refine .inr (.inr ?_)
   unfold QaR at hb
   simp only [Bool.and_eq_true,decide_eq_true_eq] at hb
   obtain ⟨d,hd,he⟩:=QnF hb.2.2
   have he:d.name=s:=by simpa using he
   exact QvW hd (by rw [he]; exact h)
end
def QcQ (S:List Srt) (V:List Vw):List Bnd:=(S.zip V).map fun p=>⟨p.1.name,p.2⟩
theorem QgN (S:List Srt) (V:List Vw) (h:V.length=S.length):(QcQ S V).length=S.length:=by
 unfold QcQ; simp; omega
theorem Qnz {S:List Srt} {V:List Vw} (h:V.length=S.length) {i:Nat} (hi:i<S.length):(QcQ S V).getD i Sh.bnd.nil=⟨(S.getD i Sh.srt.nil).name,V.getD i Sh.vl.nil⟩:=by
 unfold QcQ
 rw [List.getD_eq_getElem?_getD,List.getElem?_map,List.getElem?_eq_getElem (by simp; omega),List.getElem_zip,List.getD_eq_getElem?_getD,List.getElem?_eq_getElem hi,List.getD_eq_getElem?_getD,List.getElem?_eq_getElem (by omega)]
 rfl
theorem Qoe {k:Int} (h:¬ Qas k=-2):QaQ k=(Qas k,true):=by
 unfold Qas at h ⊢
 split
 · rename_i h1; rcases h1 with rfl | rfl | rfl | rfl <;> decide
 · rename_i h1; rw [if_neg h1] at h
   split
   · rename_i h2; rcases h2 with rfl | rfl | rfl <;> decide
   · rename_i h2; rw [if_neg h2] at h
     split
     · rename_i h3; rcases h3 with rfl | rfl | rfl <;> decide
     · rename_i h3; rw [if_neg h3] at h
       split
       · rename_i h4; rcases h4 with rfl | rfl | rfl <;> decide
       · rename_i h4; rw [if_neg h4] at h; exact absurd rfl h
theorem Qls {k:Int} (h:¬ Qas k=-2):k=1∨k=2∨k=3∨k=4∨k=5∨k=6∨k=7∨k=8∨k=9∨k=10∨k=11∨k=12∨k=13:=by
 unfold Qas at h
 split at h
 · omega
 · split at h
   · omega
   · split at h
     · omega
     · split at h
       · omega
       · exact absurd rfl h
def OfL (D:List Dat):List ByteArray→List Vw→Prop
 | [],[]=>True
 | s::m,v::l=>ofV D s v=true∧OfL D m l
 | _,_=>False
theorem OfL.len {D:List Dat}:∀ {m:List ByteArray} {l:List Vw},OfL D m l→l.length=m.length
 | [],[],_=>rfl
 | _::_,_::_,h=>by simp [h.2.len]
theorem OfL.all {D:List Dat} {s:ByteArray}:∀ {m:List ByteArray} {l:List Vw},OfL D m l→QbO m s=true→∀ v∈l,ofV D s v=true
 | [],[],_,_,v,hv=>by cases hv
 | x::m,u::l,h,ha,v,hv=>by
  unfold QbO at ha
  rw [List.all_cons,Bool.and_eq_true,decide_eq_true_eq] at ha
  rcases List.mem_cons.1 hv with rfl | hv
  · rw [← ha.1]; exact h.1
  · exact h.2.all (show QbO m s=true from ha.2) v hv
theorem OfL.at {D:List Dat}:∀ {m:List ByteArray} {l:List Vw} {i:Nat},OfL D m l→i<m.length→ofV D (m.getD i ⟨#[]⟩) (l.getD i Sh.vl.nil)=true
 | x::m,u::l,0,h,_=>h.1
 | x::m,u::l,i+1,h,hi=>by
  rw [List.getD_cons_succ,List.getD_cons_succ]
  exact h.2.at (by simpa using hi)
theorem QmL {D:List Dat}:∀ {m:List ByteArray} {l:List Vw} {i:Nat},ofVL D m l=true→i<m.length→i<l.length→ofV D (m.getD i ⟨#[]⟩) (l.getD i Sh.vl.nil)=true
 | x::m,u::l,0,h,_,_=>by rw [ofVL,Bool.and_eq_true] at h; exact h.1
 | x::m,u::l,i+1,h,hi,hl=>by
  rw [ofVL,Bool.and_eq_true] at h
  rw [List.getD_cons_succ,List.getD_cons_succ]
  exact QmL h.2 (by simpa using hi) (by simpa using hl)
section
variable {D : List Dat} {S : List Srt} {V : List Vw}
theorem Qje (hl:V.length=S.length) (hV:∀ i,i<S.length→ofV D (Srt.sort (S.getD i Sh.srt.nil)) (V.getD i Sh.vl.nil)=true) (nm s:ByteArray) :
  ∀ i,i≤S.length→varS D (S.take i) nm=.ok s→∃ v,varE D nm ((QcQ S V).take i)=.ok v∧ofV D s v=true
 | 0,_,h=>by cases h
 | i+1,hi,h=>by
  have hb:i<(QcQ S V).length:=by rw [QgN S V hl]; omega
  rw [QdY D Sh.srt.nil (by omega)] at h
  rw [QdZ D nm Sh.bnd.nil hb,Qnz hl (by omega)]
  by_cases hn:(S.getD i Sh.srt.nil).name=nm
  · rw [if_pos hn] at h ⊢
    split at h
    · rename_i hbase
      cases h
      rw [if_pos (Qt2 hbase (hV i (by omega)))]
      exact ⟨_,rfl,hV i (by omega)⟩
    · cases h
  · rw [if_neg hn] at h ⊢
    exact Qje hl hV nm s i (by omega) h
theorem QkF {t:Tw} {l:List Vw} {w:Vw} {u s:ByteArray} (hl:l=[w]) (hw:ofV D u w=true) (h:funS D t.name u=.ok s):(appV D t l).2=true∧ofV D s (appV D t l).1=true:=by
 unfold funS at h
 cases hf:funD D t.name with
 | none=>rw [hf] at h; cases h
 | some p =>
  obtain ⟨a,b⟩:=p
  rw [hf] at h
  dsimp only at h
  split at h
  · rename_i hc
    cases h
    simp only [Bool.and_eq_true,Bool.or_eq_true,decide_eq_true_eq] at hc
    obtain ⟨hd,ha,hbase⟩:=hc
    have hui:¬ u=bInt:=fun e=>by rw [e,Qgz] at hd; cases hd
    have hub:¬ u=QaM:=fun e=>by rw [e,QeS] at hd; cases hd
    have hk:=QfZ hui hub hw
    have h3:allV l 3=true:=by rw [hl]; exact QbN.2 fun x hx=>by simp at hx; rw [hx]; exact hk
    have e0:l.getD 0 Sh.vl.nil=w:=by rw [hl]; rfl
    have hw':=hw
    rw [Qe0,Bool.and_eq_true,if_neg (by omega),if_neg (by omega),if_pos hk,Bool.and_eq_true] at hw'
    obtain ⟨-,-,hw'⟩:=hw'
    have hcon:¬ w.name=⟨#[]⟩→∃ p,conM D w.name 0=some p∧(D.getD p.1 Sh.dat.nil).name=u∧(Qaz D p).length=w.fields.length∧ofVL D (Qaz D p) w.fields=true:=by
     intro hn
     rw [if_neg hn] at hw'
     split at hw'
     · cases hw'
     · rename_i p hp
       simp only [Bool.and_eq_true,decide_eq_true_eq] at hw'
       exact ⟨p,hp,hw'.1,hw'.2.1,hw'.2.2⟩
    by_cases ht:t.name=bTag
    · have hfi:s=bInt:=by
       unfold funD at hf
       rw [if_pos ht] at hf
       cases hf; rfl
      subst hfi
      by_cases hn:w.name=⟨#[]⟩
      · rw [QkG h3 ht (by rw [e0]; exact hn)]
        exact ⟨rfl,QeJ D _⟩
      · obtain ⟨p,hp,-⟩:=hcon hn
        rw [QnC h3 ht (by rw [e0]; exact hn),e0,hp]
        exact ⟨rfl,QeJ D _⟩
    · obtain ⟨g1,g2,g3⟩:=Qor ht hf
      have hua:a=u:=ha.resolve_left ht
      have hzero:ofV D s (if (QaO ((Qaz D (Qah D t.name).1).getD (Qah D t.name).2.1.toNat Sh.str.nil)).kind=0 then nilV else QaO ((Qaz D (Qah D t.name).1).getD (Qah D t.name).2.1.toNat Sh.str.nil))=true:=by
       rw [g3]
       unfold QcR at hbase
       simp only [Bool.or_eq_true,decide_eq_true_eq] at hbase
       rcases hbase with rfl | rfl | hbase
       · exact QeJ D 0
       · exact QbM D false
       · have h1:¬ s=bInt:=fun e=>by rw [e,Qgz] at hbase; cases hbase
         have h2:¬ s=QaM:=fun e=>by rw [e,QeS] at hbase; cases hbase
         unfold QaO
         rw [if_neg h2,if_neg h1]
         exact QuD hbase
      by_cases hn:w.name=⟨#[]⟩
      · rw [Qcn h3 ht g1 (.inl (by rw [e0]; exact hn))]
        exact ⟨rfl,hzero⟩
      · obtain ⟨p,hp,hpn,hlen,hof⟩:=hcon hn
        have hpe:(conM D (Vw.name (l.getD 0 Sh.vl.nil)) 0).getD (0,0)=p:=by rw [e0,hp]; rfl
        have h4:Dat.name (D.getD ((conM D (Vw.name (l.getD 0 Sh.vl.nil)) 0).getD (0,0)).1 Sh.dat.nil)=Dat.name (D.getD (Qah D t.name).1.1 Sh.dat.nil):=by rw [hpe,g2,hua]; exact hpn
        by_cases h5:(conM D (Vw.name (l.getD 0 Sh.vl.nil)) 0).getD (0,0)=(Qah D t.name).1
        · rw [QnD h3 ht g1 (by rw [e0]; exact hn) h4 h5]
          refine ⟨rfl,?_⟩
          rw [hpe] at h5
          obtain ⟨-,-,f3,f4⟩:=Qgj g1
          rw [h5] at hlen hof
          have:=QmL (i:=(Qah D t.name).2.1.toNat) hof (by omega) (by omega)
          rw [e0]
          have e1:(Qaz D (Qah D t.name).1).getD (Qah D t.name).2.1.toNat ⟨#[]⟩=s:=g3
          rw [e1] at this
          exact this
        · rw [Qcn h3 ht g1 (.inr ⟨h4,h5⟩)]
          exact ⟨rfl,hzero⟩
  · cases h
theorem QdH {c:Prop} [Decidable c] {a s:ByteArray} {e:Int} (h:(if c then Except.ok a else Except.error e)=Except.ok s):c∧a=s:=by
 split at h
 · rename_i hc; cases h; exact ⟨hc,rfl⟩
 · cases h
theorem Qr2 {t:Tw} {m:List ByteArray} {l:List Vw} {s:ByteArray} (hk:¬ Qas t.kind=-2) (h1:¬ t.kind=1) (hn:Qas t.kind<0∨Qas t.kind=m.length) (hr:¬ ((t.kind=2∨t.kind=6)∧Qau t.neg t.digits=false)) (hof:OfL D m l) (h:Qcd D t.kind t.name m=.ok s) :
  (opW D t l).2=true∧ofV D s (opW D t l).1=true:=by
 have hlen:=hof.len
 have hints:QbO m bInt=true→allV l 1=true:=fun ha=>QbN.2 fun v hv=>QjL (hof.all ha v hv)
 have hbools:QbO m QaM=true→allV l 2=true:=fun ha=>QbN.2 fun v hv=>Qp6 (hof.all ha v hv)
 have hright:(t.kind=2∨t.kind=6)→Qau t.neg t.digits=true:=fun hc=>by
  cases hq:Qau t.neg t.digits with
  | true=>rfl
  | false=>exact absurd ⟨hc,hq⟩ hr
 unfold Qcd at h
 rcases Qls hk with e | e | e | e | e | e | e | e | e | e | e | e | e
 · exact absurd e h1
 · rw [e] at h; cases h
   rw [QuA e]; exact ⟨hright (.inl e),QeJ D _⟩
 · rw [e] at h
   simp at h
   have h:=QdH h
   rw [opW_3 e,← h.2]; exact ⟨rfl,QbM D _⟩
 · rw [e] at h
   simp at h
   have h:=QdH h
   rw [opW_4 e,← h.2]; exact ⟨rfl,QbM D _⟩
 · rw [e] at h
   simp at h
   have h:=QdH h
   rw [Quz e,← h.2]; exact ⟨hints h.1,QeJ D _⟩
 · rw [e] at h
   simp at h
   have h:=QdH h
   rw [Quy e,← h.2]
   exact ⟨by rw [hints h.1,hright (.inr e)]; rfl,QeJ D _⟩
 · rw [e] at h
   have h:funS D t.name (m.getD 0 ⟨#[]⟩)=.ok s:=by simpa using h
   have hm:m.length=1:=by
    rw [e] at hn
    have:Qas 7=1:=by decide
    omega
   match m,l,hlen,hof,hm with
   | [u],[w],_,hof,_ =>
    rw [Qr5 e]
    exact QkF rfl hof.1 h
 · rw [e] at h
   have hm:m.length=2:=by
    rw [e] at hn
    have:Qas 8=2:=by decide
    omega
   match m,l,hlen,hof,hm with
   | [a,b],[v,w],_,hof,_ =>
    simp at h
    obtain ⟨⟨ha,hb⟩,hs⟩:=QdH h
    subst ha
    rw [Qp4 e,← hs]
    refine ⟨?_,QbM D _⟩
    by_cases hi:a=bInt
    · subst hi
      rw [show allV [v,w] 1=true from QbN.2 fun x hx=>by
       simp at hx
       rcases hx with rfl | rfl
       · exact QjL hof.1
       · exact QjL hof.2.1]
      rfl
    · rw [show allV [v,w] 3=true from QbN.2 fun x hx=>by
       simp at hx
       rcases hx with rfl | rfl
       · exact QfZ hi hb hof.1
       · exact QfZ hi hb hof.2.1]
      simp
 · rw [e] at h
   simp at h
   have h:=QdH h
   rw [Qux e,← h.2]; exact ⟨hints h.1,QbM D _⟩
 · rw [e] at h
   simp at h
   have h:=QdH h
   rw [QmG e,← h.2]; exact ⟨hbools h.1,QbM D _⟩
 · rw [e] at h
   simp at h
   have h:=QdH h
   rw [QmF e,← h.2]; exact ⟨hbools h.1,QbM D _⟩
 · rw [e] at h
   simp at h
   have h:=QdH h
   rw [QmE e,← h.2]; exact ⟨hbools h.1,QbM D _⟩
 · rw [e] at h
   simp at h
   have h:=QdH h
   rw [Qp5 e,← h.2]; exact ⟨hbools h.1,QbM D _⟩
theorem Qmd:∀ {l:List Tw} {m:List ByteArray},Qa1 D S l=.ok m→m.length=l.length
 | [],m,h=>by rw [Qa1] at h; cases h; rfl
 | t::l,m,h=>by
  rw [Qa1] at h
  split at h
  · split at h
    · rename_i hm
      cases h
      simp [Qmd hm]
    · cases h
  · cases h
mutual
theorem QiG (hl:V.length=S.length) (hV:∀ i,i<S.length→ofV D (Srt.sort (S.getD i Sh.srt.nil)) (V.getD i Sh.vl.nil)=true):∀ {t:Tw} {s:ByteArray},Qap D S t=.ok s→∃ v,evalT D (QcQ S V) t=.ok v∧ofV D s v=true
 | .mk k nm neg dg kids,s,h=>by
  rw [Qap] at h
  split at h
  · cases h
  rename_i hk
  split at h
  · cases h
  rename_i hn
  have hn:Qas k<0∨Qas k=kids.length:=Classical.byContradiction hn
  split at h
  · cases h
  rename_i hr
  have hm:=Qoe hk
  split at h
  · rename_i h1
    have h0:kids.length=0:=by
     rw [h1] at hn
     have:Qas 1=0:=by decide
     omega
    rw [Qm7 (t:=.mk k nm neg dg kids) h1 h0]
    have:=Qje hl hV nm s S.length (Nat.le_refl _) (by rw [List.take_length]; exact h)
    rw [show S.length=(QcQ S V).length from (QgN S V hl).symm,List.take_length] at this
    exact this
  · rename_i h1
    split at h
    · rename_i m hm'
      obtain ⟨l,hev,hof⟩:=Qj9 hl hV hm'
      have hG:EvG (.mk k nm neg dg kids):=⟨fun c=>h1 c.1,by show (QaQ k).2=true; rw [hm],fun h0=>by
       have h0:0≤(QaQ k).1:=h0
       show (kids.length:Int)=(QaQ k).1
       rw [hm] at h0 ⊢
       exact (hn.resolve_left (by dsimp only at h0; omega)).symm⟩
      obtain ⟨o1,o2⟩:=Qr2 (t:=.mk k nm neg dg kids) hk h1 (by rw [Qmd hm']; exact hn) hr hof h
      exact ⟨_,QcP hG hev (Prod.ext rfl o1),o2⟩
    · cases h
theorem Qj9 (hl:V.length=S.length) (hV:∀ i,i<S.length→ofV D (Srt.sort (S.getD i Sh.srt.nil)) (V.getD i Sh.vl.nil)=true):∀ {l:List Tw} {m:List ByteArray},Qa1 D S l=.ok m→∃ vs,evalL D (QcQ S V) l=.ok vs∧OfL D m vs
 | [],m,h=>by rw [Qa1] at h; cases h; exact ⟨[],by rw [evalL],trivial⟩
 | t::l,m,h=>by
  rw [Qa1] at h
  split at h
  · rename_i s hs
    split at h
    · rename_i m' hm
      cases h
      obtain ⟨v,h1,h2⟩:=QiG hl hV hs
      obtain ⟨vs,h3,h4⟩:=Qj9 hl hV hm
      exact ⟨v::vs,by rw [evalL,h1,h3],h2,h4⟩
    · cases h
  · cases h
end
end
mutual
theorem Qeo:∀ (t:Tw),cntT t≤400000→t.fitT
 | .mk k n b d l,h=>by
  unfold cntT at h
  have h1:=Qkl l
  exact ⟨by omega,by omega,by omega,Qkm l (by omega)⟩
theorem Qkm:∀ (l:List Tw),QaF l≤400000→Qcg l
 | [],_=>trivial
 | v::l,h=>by
  unfold QaF at h
  exact ⟨Qeo v (by omega),Qkm l (by omega)⟩
end
theorem Qjp {D:List Dat} {S:List Srt} {t:Tw} {z:Except Int ByteArray} (hz:z=Qap D S t) (h:errE z=0):∃ s,Qap D S t=.ok s∧z=.ok s:=by
 obtain ⟨s,hs⟩:=Qt1 hz h
 exact ⟨s,by rw [← hz,hs],hs⟩
end Go.Proofs.YtemhncjjiomppaaGreatDoor
