/- The layer kind: refinements; well formed types. -/
import Derived.Test.YtijfaigpilfpaaaGreatDoorHg
import Derived.Test.YtijfaigpilfpaaaGreatDoorUd
import Derived.Test.YtijfaigpilfpaaaGreatDoorHb
import Derived.Test.YtijfaigpilfpaaaGreatDoorHd
set_option linter.unusedSimpArgs false
namespace Go.Proofs.YtijfaigpilfpaaaGreatDoor
open Go.RowKit
set_option linter.unusedVariables false
set_option maxRecDepth 100000
theorem QeI {P:Program} (w:World) (t tn ty e:TypeId) (i:TypeInfo) (z:Value) (k kn:IntKind) (ht:P.underlying t=some (.slice e)) (htn:P.underlying tn=some (.int kn)) (hi:P.info? e=some i) (hz:i.zero=some z)
  (n:Nat) (h0:0<n) (hs:0<i.size) (h63:(n:Int)≤9223372036854775807) (h48:n * i.bytes≤281474976710656) :
  (Builtin.append_ #[t,tn] ty #[.slice none 0 0,.int k n]).run P w =
   .ok (.slice (some ⟨w.heap.size,0,none⟩) n (grownCap w n 0 e)) (w.drew.alloc (.cells (Builtin.zeroCells z.cells n++Builtin.zeroCells z.cells (grownCap w n 0 e - n)) e)):=by
 have hn:n≠0:=by omega
 have hw:IntKind.i64.wrap (n:Int)=n:=by rw [IntKind.wrap_i64]; omega
 have h63':¬ (9223372036854775807<(n:Int)):=by omega
 have h48':¬ (281474976710656<Builtin.nextslicecap n 0 * i.bytes):=by rw [nextslicecap_zero h0]; omega
 have h48i:¬ (281474976710656<(n:Int) * (i.bytes:Int)):=by
  rw [← Int.natCast_mul]
  omega
 have hneg:¬ ((n:Int)<0):=by omega
 have hs':¬ i.size=0:=by omega
 have hne:¬ n * i.size=0:=Nat.mul_ne_zero hn hs'
 simp [Builtin.append_,run_underlying ht,run_underlying htn,sizeOf,typeInfo,zeroValue,asInt,asIntOf,hi,hz,hn,hw,hneg,hne,h63',h48',h48i,Question.forced,run_firstCells_none,newRow,grownCap]
theorem appZ {P:Program} {w:World} {ops:Array Oper} {rest:List Oper} {o:Oper} {a:Act} {Q:Exit→Act→World→Prop} (hgd:o.guard=none) (s x:Operand) (t tn:TypeId)
  (ho:o.op=.call { callee:=.builtin .append,args:=#[s,x],argTypes:=#[t,tn] }) (v':Value) (w':World) (vs vx:Value) (hs:a.eval s=vs) (hx:a.eval x=vx) (hr:(Builtin.append_ #[t,tn] o.type #[vs,vx]).run P w=.ok v' w')
  (h:wpList P ops Q rest (a.put o.dst v') w'):wpList P ops Q (o::rest) a w :=
 wpList_plain hgd fun _ hK=>by
  unfold Oper.wp execOp
  simp only [ho,resolve,invoke,builtin,Sem.run_bind,Sem.run_pure,Result.andThen_ok,List.map_toArray,List.map_cons,List.map_nil,hs,hx,hr]
  exact hK _ _ h
theorem Qdi (z:Array Value) (n k:Nat) (h:z.size=k):(Builtin.zeroCells z n).size=n * k:=by
 rw [size_zeroCells,h]
theorem Tryz.infoSrt:(Tryz.prog.info? 54).map (fun i=>(i.zero,i.size,i.bytes))=some (some (.agg #[.string ⟨#[]⟩,.string ⟨#[]⟩]),2,32):=by kernel_rfl
theorem QqJ (n:Nat) (w:World) (hn:n≤1000000000) :
  Calls Tryz.prog 255 #[.slice none 0 0,.int .i64 n] w fun e w'=>(e=.returned (.slice none 0 0)∧w'=w)∨∃ cap cur,e=.returned (.slice (some ⟨w.heap.size,0,none⟩) 0 cap)∧w'=w.drew.alloc (.cells cur 54)∧cur.size=cap * 2∧cap≤maxLen:=by
 by_cases h0:n=0
 · subst h0
   go_enter Tryz.func255,Tryz.ntmps255
   go_wp2
   go_ret
   exact .inl ⟨rfl,rfl⟩
 · obtain ⟨i0,hi,hz0,hz1,hz2⟩:∃ i0,Tryz.prog.info? 54=some i0∧i0.zero=some (.agg #[.string ⟨#[]⟩,.string ⟨#[]⟩])∧i0.size=2∧i0.bytes=32:=by
    have h:=Tryz.infoSrt
    cases hi:Tryz.prog.info? 54 with
    | none=>rw [hi] at h; cases h
    | some i0 =>
     rw [hi] at h
     simp only [Option.map_some,Option.some.injEq,Prod.mk.injEq] at h
     exact ⟨i0,rfl,h.1,h.2.1,h.2.2⟩
   have hr:=fun ty=>QeI (P:=Tryz.prog) w 55 3 ty 54 i0 _ .i64 .i64 Tryz.underlying55 Tryz.underlying3 hi hz0 n (by omega) (by omega) (by omega) (by rw [hz2]; omega)
   have HR:=Lib.hid hr
   have hc:=grownCap_ge w n 0 54
   have hm:=grownCap_le_maxLen w n 0 54 (by unfold maxLen; omega)
   have hp:¬ (n:Int)<0:=by omega
   have hp2:(0:Int)<n:=by omega
   clear hr
   go_enter Tryz.func255,Tryz.ntmps255
   go_wp2_with (at_builtin; refine appZ rfl _ _ _ _ rfl _ _ _ _ rfl rfl (HR.out _) ?_)
   go_ret
   exact .inr ⟨_,rfl,_,rfl,by rw [Array.size_append,Qdi _ _ 2 rfl,Qdi _ _ 2 rfl]; omega,hm⟩
def QsP:Spec2
 | [.f (.v (.slice none 0 0)),.f (.v (.int .i64 n))],[]=>some (.need (0≤n∧n≤1000000000) (.ret (.tl 0 (.dt .srt [])) [.tail 54 2]))
 | _,_=>none
theorem cGrow {E:Env}:Contract2 Tryz.prog E 255 QsP:=by
 intro xs ob o hs hok K w g vs hlo hO hbd hE hv
 unfold QsP at hs
 split at hs
 · rename_i n
   cases hs
   obtain ⟨hn0,hn1⟩:=hok.1
   have hB:∀ i,g.B i=none:=by
    intro i
    cases h:g.B i with
    | none=>rfl
    | some u=>exact absurd (hO.dom i u h) (Nat.not_lt_zero _)
   obtain ⟨k,rfl⟩:∃ k:Nat,n=(k:Int):=⟨n.toNat,by omega⟩
   obtain ⟨v0,v1,rfl⟩:∃ v0 v1,vs=[v0,v1]:=by
    match vs,hv.1 with
    | [v0,v1],_=>exact ⟨v0,v1,rfl⟩
   have q0:=(hv.2 0 _ _ rfl rfl).val
   have q1:=(hv.2 1 _ _ rfl rfl).val
   subst q0
   subst q1
   intro cs
   obtain ⟨e,w',fr,h,hrest⟩:=QqJ k w (by omega) cs
   refine ⟨e,w',fr,?_,hrest⟩
   have hfx:∀ (i:Nat) p,FixB g.B i p→False:=fun i p h=>by have:=h.1; rw [hB] at this; cases this
   rcases h with ⟨rfl,rfl⟩ | ⟨cap,cur,rfl,rfl,hcs,hcm⟩
   · obtain ⟨h1,h2⟩:=(hO.push [.tail 54 2]).fresh (i:=0) (u:=.slice none 0 0) (hB 0) rfl (fun b hb=>by cases hb) (fun b hb=>by cases hb) (fun o u b hu hb hc=>by cases hc) (fun B=>.inl rfl)
     refine ⟨⟨g.H,fun j=>if j=0 then some (.slice none 0 0) else g.B j⟩,.slice none 0 0,ExtK.refl hO.fro hlo,h1,?_,fun i p h=>(hfx i p h).elim,.tl (Qeg (x:=.dt .srt []) rfl (fun _=>rfl) trivial) rfl,rfl⟩
     intro i hi
     obtain rfl:i=0:=by have:i<1:=hi; omega
     exact ⟨_,rfl⟩
   · have hbel:Below w.heap.size w (w.drew.alloc (.cells cur 54)):=(Below.refl _ _).drew.alloc (Nat.le_refl _) _
     have hno:∀ j,g.H w.heap.size j=none:=by
      intro j
      cases hh:g.H w.heap.size j with
      | none=>rfl
      | some v=>have:=hO.fro.lt hh; omega
     obtain ⟨h1,h2,h3⟩:=(hO.push [.tail 54 2]).newRowW (i:=0) (n:=0) (cap:=cap) hlo (hB 0) rfl hbel (by rw [size_alloc]; rfl) (fun B=>.inr ⟨_,0,cap,cur,rfl,Nat.zero_le _,heap_alloc_new w.drew _,Nat.zero_le _,hcm,hcs,fun j _=>hno j⟩)
     refine ⟨⟨g.H,fun j=>if j=0 then some (.slice (some ⟨w.heap.size,0,none⟩) 0 cap) else g.B j⟩,_,(ExtK.refl hO.fro hlo).trans h2,h1,?_,fun i p h=>(hfx i p h).elim,.tl (.sl (k:=2) (n:=0) rfl trivial (by show 0≤cap; omega) hcm (fun hc=>by cases hc) w.heap.size 0 (fun _ _=>undef) (fun hc=>rfl) (fun q hq=>absurd hq (Nat.not_lt_zero q)) (fun q hq=>absurd hq (Nat.not_lt_zero q)) (fun q hq=>absurd hq (Nat.not_lt_zero q))) rfl,rfl⟩
     intro i hi
     obtain rfl:i=0:=by have:i<1:=hi; omega
     exact ⟨_,rfl⟩
 · cases hs
/-! Two rows,one behind the other. -/
def two (A B:List Srt):Nat→List Srt
 | 0=>A
 | _=>B
def twoN (A B:List Srt):Nat→Nat
 | 0=>0
 | 1=>A.length
 | _=>A.length+B.length
def twoL (A B:List Srt):Nat→List Srt
 | 0=>[]
 | 1=>A
 | _=>A++B
def QjJ:Spec
 | [.f (.row 1 [[a],[b]])]=>match dtOf .srt a,dtOf .srt b with
  | some A,some B=>some (some (A.length≤100000000∧B.length≤100000000),.one (.f (.dt .srt (A++B))))
  | _,_=>none
 | _=>none
set_option maxHeartbeats 4000000 in
theorem QtS {E:Env} (hU:Up E):Contract Tryz.prog E 207 QjJ:=by
 refine Qac [] [(255,QsP)] Tryz.ntmps207 Tryz.func207 (by kernel_rfl) (by kernel_rfl) hU trivial ⟨cGrow,trivial⟩ ?_
 intro xs p r hs hp
 unfold QjJ at hs
 split at hs
 · rename_i a b
   split at hs
   · rename_i A B hA hB
     cases hs
     obtain ⟨la,lb⟩:=hp _ rfl
     refine ⟨[.f (.gen 1 2 fun i=>[.dt .srt (two A B i)])],[
      (3,.s ⟨Nat,fun i=>⟨[(0,.f (.gen 1 2 fun i=>[.dt .srt (two A B i)])),(2,.f (.v (.slice none 0 0))),(3,iV (twoN A B i)),(9,.f (.gen 1 2 fun i=>[.dt .srt (two A B i)])),(10,iV 2),(11,iV i)],[]⟩,fun i=>i≤2,fun i=>2 - i⟩),
      (11,.s ⟨Nat,fun i=>⟨[(6,.tl 0 (.dt .srt (twoL A B i))),(25,.f (.gen 1 2 fun i=>[.dt .srt (two A B i)])),(26,iV 2),(27,iV i)],[.tail 54 2]⟩,fun i=>i≤2,fun i=>2 - i⟩)],.cons ?h0 .nil,rfl,fun _ hsh=>?_⟩
     case h0 =>
      refine ⟨fun H v hv=>?_⟩
      cases hv with
      | f hv =>
      refine .f (Rd.seen (k:=1) (n:=2) (get:=fun i=>([[a],[b]]:List (List Lf)).getD i []) rfl (fun _=>rfl) rfl (fun _=>rfl) (fun _=>trivial) (fun i hi=>?_) hv)
      match i,hi with
      | 0,_=>exact .cons (Qa5 hA) .nil
      | 1,_=>exact .cons (Qa5 hB) .nil
     have h0:=la
     refine Qab (p:=∃ (x1:Nat),(True∧rfB (PV.f (Lf.gen 1 2 fun (i:Nat)=>[Lf.dt Sh.srt (two A B i)]))∧rfB (nlP)∧SubB (iV 0) (iV (↑(twoN A B x1):Int))∧rfB (PV.f (Lf.gen 1 2 fun (i:Nat)=>[Lf.dt Sh.srt (two A B i)]))∧SubB (iV (↑2:Int)) (iV 2)∧SubB (iV 0) (iV (↑x1:Int))∧True)∧x1≤2∧True∧∀ (z2:Nat),z2≤2→True→ifB (decide ((↑z2:Int)<(2:Int))) (((0:Int)≤(↑z2:Int)∧(↑z2:Int)<(↑2:Int))∧ifB (decide (IntKind.i64.wrap ((↑(twoN A B z2):Int)+(↑(two A B (↑z2:Int).toNat).length:Int))<(0:Int))) False (∃ (x3:Nat),(True∧rfB (PV.f (Lf.gen 1 2 fun (i:Nat)=>[Lf.dt Sh.srt (two A B i)]))∧rfB (nlP)∧SubB (iV (IntKind.i64.wrap ((↑(twoN A B z2):Int)+(↑(two A B (↑z2:Int).toNat).length:Int)))) (iV (↑(twoN A B x3):Int))∧rfB (PV.f (Lf.gen 1 2 fun (i:Nat)=>[Lf.dt Sh.srt (two A B i)]))∧rfB (iV 2)∧SubB (iV (IntKind.i64.wrap ((↑z2:Int)+(1:Int)))) (iV (↑x3:Int))∧True)∧x3≤2∧True∧(2 - x3).succ.le (2 - z2))) (((0:Int)≤(↑(twoN A B z2):Int)∧(↑(twoN A B z2):Int)≤(1000000000:Int))∧∃ (x3:Nat),(True∧SubB (PV.tl 0 (Lf.dt Sh.srt [])) (PV.tl 0 (Lf.dt Sh.srt (twoL A B x3)))∧rfB (PV.f (Lf.gen 1 2 fun (i:Nat)=>[Lf.dt Sh.srt (two A B i)]))∧SubB (iV (↑2:Int)) (iV 2)∧SubB (iV 0) (iV (↑x3:Int))∧True)∧x3≤2∧True∧∀ (z4:Nat),z4≤2→True→ifB (decide ((↑z4:Int)<(2:Int))) (((0:Int)≤(↑z4:Int)∧(↑z4:Int)<(↑2:Int))∧((twoL A B z4).length+(two A B (↑z4:Int).toNat).length≤9223372036854775807∧((twoL A B z4).length+(two A B (↑z4:Int).toNat).length) * 32≤140737488355328)∧∃ (x5:Nat),(True∧SubB (PV.tl 0 (Lf.dt Sh.srt (twoL A B z4++two A B (↑z4:Int).toNat))) (PV.tl 0 (Lf.dt Sh.srt (twoL A B x5)))∧rfB (PV.f (Lf.gen 1 2 fun (i:Nat)=>[Lf.dt Sh.srt (two A B i)]))∧rfB (iV 2)∧SubB (iV (IntKind.i64.wrap ((↑z4:Int)+(1:Int)))) (iV (↑x5:Int))∧True)∧x5≤2∧True∧(2 - x5).succ.le (2 - z4)) (true=true∧Sub (dP Sh.srt (twoL A B z4)) (dP Sh.srt (A++B))))) ?kr ?_
     case kr=>kernel_rfl
     refine ⟨?x0,⟨⟨trivial,⟨.refl _,⟨.refl _,⟨?m0,⟨.refl _,⟨?m1,⟨?m2,trivial⟩⟩⟩⟩⟩⟩⟩,⟨?s0,⟨trivial,fun z2=>fun hq0=>fun _=>Qaa.2 ⟨fun hb1=>⟨?s1,Qaa.2 ⟨fun hb2=>?m3,fun hb2=>⟨?x1,⟨⟨trivial,⟨.refl _,⟨.refl _,⟨?m4,⟨.refl _,⟨.refl _,⟨?m5,trivial⟩⟩⟩⟩⟩⟩⟩,⟨?s2,⟨trivial,?m6⟩⟩⟩⟩⟩⟩,fun hb1=>⟨?s3,⟨?x2,⟨⟨trivial,⟨?m7,⟨.refl _,⟨?m8,⟨?m9,trivial⟩⟩⟩⟩⟩,⟨?s4,⟨trivial,fun z4=>fun hq3=>fun _=>Qaa.2 ⟨fun hb4=>⟨?s5,⟨?s6,⟨?x3,⟨⟨trivial,⟨?m10,⟨.refl _,⟨.refl _,⟨?m11,trivial⟩⟩⟩⟩⟩,⟨?s7,⟨trivial,?m12⟩⟩⟩⟩⟩⟩,fun hb4=>⟨rfl,?m13⟩⟩⟩⟩⟩⟩⟩⟩⟩⟩⟩⟩
     case x0=>exact 0
     case x1=>exact z2+1
     case x2=>exact 0
     case x3=>exact z4+1
     all_goals try simp only [decide_eq_true_eq,decide_eq_false_iff_not,Int.toNat_natCast] at *
     case m0=>exact .refl _
     case m1=>exact .refl _
     case m2=>exact .refl _
     case s0=>omega
     case s1=>omega
     case m3 =>
      have hz:z2=0∨z2=1:=by omega
      rcases hz with rfl | rfl
      · have:IntKind.i64.wrap ((0:Int)+(A.length:Int))<0:=by assumption
        rw [IntKind.wrap_i64] at this; omega
      · have:IntKind.i64.wrap ((A.length:Int)+(B.length:Int))<0:=by assumption
        rw [IntKind.wrap_i64] at this; omega
     case m4 =>
      have hz:z2=0∨z2=1:=by omega
      rcases hz with rfl | rfl
      · refine Qad ?_
        show IntKind.i64.wrap ((0:Int)+(A.length:Int))=(A.length:Int)
        rw [IntKind.wrap_i64]; omega
      · refine Qad ?_
        show IntKind.i64.wrap ((A.length:Int)+(B.length:Int))=((A.length+B.length:Nat):Int)
        rw [IntKind.wrap_i64]; omega
     case m5=>exact Qad (by rw [wJ _ (by omega) (by omega)]; rfl)
     case s2=>omega
     case m6=>exact (by omega:2 - (z2+1)<2 - z2)
     case s3 =>
      have hz:z2=2:=by omega
      subst hz
      exact ⟨by omega,by show ((A.length+B.length:Nat):Int)≤1000000000; omega⟩
     case m7=>exact .refl _
     case m8=>exact .refl _
     case m9=>exact .refl _
     case s4=>omega
     case s5=>omega
     case s6 =>
      have hz:z4=0∨z4=1:=by omega
      rcases hz with rfl | rfl
      · show (([]:List Srt).length+A.length≤_∧(([]:List Srt).length+A.length) * 32≤_)
        rw [List.length_nil]; omega
      · show (A.length+B.length≤_∧(A.length+B.length) * 32≤_)
        omega
     case m10 =>
      have hz:z4=0∨z4=1:=by omega
      rcases hz with rfl | rfl
      · exact .refl _
      · exact .refl _
     case m11=>exact Qad (by rw [wJ _ (by omega) (by omega)]; rfl)
     case s7=>omega
     case m12=>exact (by omega:2 - (z4+1)<2 - z4)
     case m13 =>
      have hz:z4=2:=by omega
      subst hz
      exact .refl _
   · cases hs
 · cases hs
end Go.Proofs.YtijfaigpilfpaaaGreatDoor
namespace Go.Proofs.YtijfaigpilfpaaaGreatDoor
open Go.RowKit
set_option linter.unusedVariables false
set_option maxRecDepth 100000
structure Wk where
 y:Yw
 D:List Dat
 K:List Kap
 S:List Srt
def kwC (w:Wk):List Lf:=.v (.bool w.y.fn)::.v (.string w.y.sort)::(tmC w.y.ref++[.dt .prm w.y.params,.dt .ty w.y.result,.dt .dat w.D,.dt .kap w.K,.dt .srt w.S])
def kwP (w:Wk):PV:=.agg (Qae (kwC w))
def toWk:List Lf→Option Wk
 | [f,s,k,n,b,d,x,p,r,a,c,e]=>match toTy [f,s,k,n,b,d,x,p,r],dtOf .dat a,dtOf .kap c,dtOf .srt e with
  | some y,some D,some K,some S=>some ⟨y,D,K,S⟩
  | _,_,_,_=>none
 | _=>none
def kwOf:PV→Option Wk
 | .agg l=>match leafs l with
  | some m=>toWk m
  | none=>none
 | _=>none
theorem SubL.add:∀ {l m:List Lf},SubL l m→∀ {p q:List Lf},SubL p q→SubL (l++p) (m++q)
 | _,_,.nil,_,_,h=>h
 | _,_,.cons h hs,_,_,h'=>.cons h (hs.add h')
theorem Qp0 {L:List Lf} {w:Wk} (h:toWk L=some w):SubL L (kwC w):=by
 unfold toWk at h
 split at h
 · split at h
   · rename_i f s k n b d x p r a c e y D K S h1 h2 h3 h4
     cases h
     exact (QeO h1).add (.cons (Qa5 h2) (.cons (Qa5 h3) (.cons (Qa5 h4) .nil)))
   · cases h
 · cases h
theorem QiL {x:PV} {w:Wk} (h:kwOf x=some w):SubB x (kwP w):=by
 unfold kwOf at h
 split at h
 · rename_i l
   split at h
   · rename_i m hm
     have hs:=Qp0 h
     obtain ⟨h1,h2⟩:=QbG hm
     refine ⟨fun H B v hv=>?_⟩
     obtain ⟨vs,rfl,h3⟩:=PRs.of_agg hv
     refine PRs.agg ⟨by rw [h3.1,← h1,Qdx,hs.len],fun i u y hu hy=>?_⟩
     rw [QeN] at hy
     cases hc:(kwC w)[i]? with
     | none=>rw [hc] at hy; cases hy
     | some z =>
      rw [hc] at hy
      cases hy
      obtain ⟨x,h4,h5⟩:=hs.at hc
      exact .f (h5 _ _ (h3.2 i u _ hu (h2 i x h4)).rd)
   · cases h
 · cases h
theorem Qd9:∀ {l seen:List ByteArray},Qca seen l=true↔∃ i,i<l.length∧l.getD i Sh.str.nil∈seen++l.take i
 | [], seen => by rw [Qca]; constructor; · intro h; cases h
                  · rintro ⟨i,h,_⟩; cases h
 | s::l,seen=>by
  rw [Qca,Bool.or_eq_true,Qd9]
  constructor
  · rintro (h | ⟨i,h1,h2⟩)
    · obtain ⟨x,hx,e⟩:=List.any_eq_true.1 h
      cases of_decide_eq_true e
      exact ⟨0,by simp,by simpa using hx⟩
    · exact ⟨i+1,by simpa using h1,by simpa [List.append_assoc] using h2⟩
  · rintro ⟨i,h1,h2⟩
    match i with
    | 0=>exact .inl (List.any_eq_true.2 ⟨s,by simpa using h2,decide_eq_true rfl⟩)
    | i+1=>exact .inr ⟨i,by simpa using h1,by simpa [List.append_assoc] using h2⟩
theorem Qoq {l:List (ByteArray × Yw)} {i:Nat}:(l.map (·.1)).getD i Sh.str.nil=(l.getD i Sh.prm.nil).1:=by
 rw [List.getD_eq_getElem?_getD,List.getD_eq_getElem?_getD,List.getElem?_map]
 cases l[i]? <;> rfl
theorem Qs0 {l:List (ByteArray × Yw)} {i:Nat} (h:i<l.length):setF ((l.map (·.1)).take (i+1))=put1 (setF ((l.map (·.1)).take i)) (l.getD i Sh.prm.nil).1 true:=by
 rw [Qnw (by rw [List.length_map]; exact h),Qg5,Qoq]
def QjH:Spec2
 | [.agg [.f (.v (.string n)),.f (.dt .con l)],.bp 0 0],[.cells [.f (.v (.bool fn)),.f (.v (.string s)),.f (.v (.int .u8 kd)),.f (.v (.string nm)),.f (.v (.bool ng)),.f (.lr dg dn),.f (.dt .tm ks),.f (.dt .prm pr),.f (.dt .ty rs),.f (.dt .dat DD),.f (.dt .kap KK),.f (.dt .srt SS)]]=>some (.ret (bV (decide (n=s))) [.cells [bV fn,sV s,.f (.v (.int .u8 kd)),sV nm,bV ng,.f (.lr dg dn),.f (.dt .tm ks),.f (.dt .prm pr),.f (.dt .ty rs),.f (.dt .dat DD),.f (.dt .kap KK),.f (.dt .srt SS)]])
 | _,_=>none
theorem QtN {E:Env} (hU:Up E):Contract2 Tryz.prog E 251 QjH:=by
 refine contract2 [] [] Tryz.ntmps251 Tryz.func251 (by kernel_rfl) (by kernel_rfl) hU trivial trivial ?_
 intro xs ob o hs hok
 unfold QjH at hs
 split at hs
 · rename_i n l fn s kd nm ng dg dn ks pr rs DD KK SS
   cases hs
   refine ⟨[.agg [.f (.v (.string n)),.f (.dt .con l)],.bp 0 0],[],.cons (.refl _) (.cons (.refl _) .nil),rfl,fun _ hsh=>?_⟩
   refine Qab (p:=EndU 1 (Out.ret (bV (decide (n=s))) [PO.cells [bV fn,sV s,uV kd,sV nm,bV ng,PV.f (Lf.lr dg dn),dP Sh.tm ks,dP Sh.prm pr,dP Sh.ty rs,dP Sh.dat DD,dP Sh.kap KK,dP Sh.srt SS]]).fin true (bV (n.toList==s.toList)) [PO.cells [bV fn,sV s,uV kd,sV nm,bV ng,PV.f (Lf.lr dg dn),dP Sh.tm ks,dP Sh.prm pr,dP Sh.ty rs,dP Sh.dat DD,dP Sh.kap KK,dP Sh.srt SS],PO.cells [sV n,dP Sh.con l]]) ?kr ?_
   case kr=>kernel_rfl
   refine ?m0
   case m0=>exact endU rfl (Qah (bs_l n s)) rfl rfl (r:=[.cells [sV n,.f (.dt .con l)]]) rfl
 · cases hs
def QjF:Spec2
 | [.f (.dt .dat D),.fn f [] [.bp 0 0]],[.cells [.f (.v (.bool fn)),.f (.v (.string s)),.f (.v (.int .u8 kd)),.f (.v (.string nm)),.f (.v (.bool ng)),.f (.lr dg dn),.f (.dt .tm ks),.f (.dt .prm pr),.f (.dt .ty rs),.f (.dt .dat DD),.f (.dt .kap KK),.f (.dt .srt SS)]]=>match Nat.beq f 251 with
  | true=>some (.ret (iV (anyD D s)) [.cells [bV fn,sV s,.f (.v (.int .u8 kd)),sV nm,bV ng,.f (.lr dg dn),.f (.dt .tm ks),.f (.dt .prm pr),.f (.dt .ty rs),.f (.dt .dat DD),.f (.dt .kap KK),.f (.dt .srt SS)]])
  | false=>none
 | _,_=>none
theorem QtL {E:Env} (hU:Up E):Contract2 Tryz.prog E 293 QjF:=by
 refine contract2 [] [(251,QjH)] Tryz.ntmps293 Tryz.func293 (by kernel_rfl) (by kernel_rfl) hU trivial ⟨QtN hU,trivial⟩ ?_
 intro xs ob o hs hok
 unfold QjF at hs
 split at hs
 · rename_i D f fn s kd nm ng dg dn ks pr rs DD KK SS
   split at hs
   · rename_i hf
     cases hs
     have hf:=Nat.eq_of_beq_eq_true hf
     subst hf
     refine ⟨[.f (.dt .dat D),.fn 251 [] [.bp 0 0]],[(2,.s ⟨Nat,fun i=>⟨[(0,.f (.dt .dat D)),(1,.fn 251 [] [.bp 0 0]),(7,iV D.length),(8,iV i)],[.cells [bV fn,sV s,.f (.v (.int .u8 kd)),sV nm,bV ng,.f (.lr dg dn),.f (.dt .tm ks),.f (.dt .prm pr),.f (.dt .ty rs),.f (.dt .dat DD),.f (.dt .kap KK),.f (.dt .srt SS)]]⟩,fun i=>i≤D.length∧∀ k,k<i→decide (Dat.name (D.getD k Sh.dat.nil)=s)=false,fun i=>D.length - i⟩)],.cons (.refl _) (.cons (.refl _) .nil),rfl,fun _ hsh=>?_⟩
     have hl:=Qap hsh.1
     refine Qab (p:=let A0:=(rfB (bV fn)∧rfB (sV s)∧rfB (uV kd)∧rfB (sV nm)∧rfB (bV ng)∧rfB (PV.f (Lf.lr dg dn))∧rfB (dP Sh.tm ks)∧rfB (dP Sh.prm pr)∧rfB (dP Sh.ty rs)∧rfB (dP Sh.dat DD)∧rfB (dP Sh.kap KK)∧rfB (dP Sh.srt SS)∧True)∧True; let A1:=Out.ret (iV (anyD D s)) [PO.cells [bV fn,sV s,uV kd,sV nm,bV ng,PV.f (Lf.lr dg dn),dP Sh.tm ks,dP Sh.prm pr,dP Sh.ty rs,dP Sh.dat DD,dP Sh.kap KK,dP Sh.srt SS]]; ∃ (x1:Nat),(A0∧rfB (dP Sh.dat D)∧rfB (PV.fn 251 [] [PV.bp 0 0])∧rfB (iV (↑D.length:Int))∧SubB (iV 0) (iV (↑x1:Int))∧True)∧(x1≤D.length∧∀ (k:Nat),k<x1→decide ((D.getD k Sh.dat.nil).name=s)=false)∧True∧∀ (z2:Nat),(z2≤D.length∧∀ (k:Nat),k<z2→decide ((D.getD k Sh.dat.nil).name=s)=false)→True→ifB (decide ((↑z2:Int)<(↑D.length:Int))) (((0:Int)≤(↑z2:Int)∧(↑z2:Int)<(↑D.length:Int))∧ifB (decide ((D.getD (↑z2:Int).toNat Sh.dat.nil).name=s)) (EndU 1 A1.fin true (iV (↑z2:Int)) [PO.cells [bV fn,sV s,uV kd,sV nm,bV ng,PV.f (Lf.lr dg dn),dP Sh.tm ks,dP Sh.prm pr,dP Sh.ty rs,dP Sh.dat DD,dP Sh.kap KK,dP Sh.srt SS]]) (∃ (x3:Nat),(A0∧rfB (dP Sh.dat D)∧rfB (PV.fn 251 [] [PV.bp 0 0])∧rfB (iV (↑D.length:Int))∧SubB (iV (IntKind.i64.wrap ((↑z2:Int)+(1:Int)))) (iV (↑x3:Int))∧True)∧(x3≤D.length∧∀ (k:Nat),k<x3→decide ((D.getD k Sh.dat.nil).name=s)=false)∧True∧(D.length - x3).succ.le (D.length - z2))) (EndU 1 A1.fin true (iV (-1:Int)) [PO.cells [bV fn,sV s,uV kd,sV nm,bV ng,PV.f (Lf.lr dg dn),dP Sh.tm ks,dP Sh.prm pr,dP Sh.ty rs,dP Sh.dat DD,dP Sh.kap KK,dP Sh.srt SS]])) ?kr ?_
     case kr=>kernel_rfl
     conv=>zeta
     refine ⟨?x0,⟨⟨⟨⟨.refl _,⟨.refl _,⟨.refl _,⟨.refl _,⟨.refl _,⟨.refl _,⟨.refl _,⟨.refl _,⟨.refl _,⟨.refl _,⟨.refl _,⟨.refl _,trivial⟩⟩⟩⟩⟩⟩⟩⟩⟩⟩⟩⟩,trivial⟩,⟨.refl _,⟨.refl _,⟨.refl _,⟨?m0,trivial⟩⟩⟩⟩⟩,⟨?s0,⟨trivial,fun z2=>fun hq0=>fun _=>Qaa.2 ⟨fun hb1=>⟨?s1,Qaa.2 ⟨fun hb2=>?m1,fun hb2=>⟨?x1,⟨⟨⟨⟨.refl _,⟨.refl _,⟨.refl _,⟨.refl _,⟨.refl _,⟨.refl _,⟨.refl _,⟨.refl _,⟨.refl _,⟨.refl _,⟨.refl _,⟨.refl _,trivial⟩⟩⟩⟩⟩⟩⟩⟩⟩⟩⟩⟩,trivial⟩,⟨.refl _,⟨.refl _,⟨.refl _,⟨?m2,trivial⟩⟩⟩⟩⟩,⟨?s2,⟨trivial,?m3⟩⟩⟩⟩⟩⟩,fun hb1=>?m4⟩⟩⟩⟩⟩
     case x0=>exact 0
     case x1=>exact z2+1
     all_goals try simp only [decide_eq_true_eq,decide_eq_false_iff_not] at *
     case m0=>exact .refl _
     case s0=>exact ⟨Nat.zero_le _,fun k hk=>by omega⟩
     case s1=>omega
     case m1=>exact endU rfl (Qad (Qe8 Sh.dat.nil (by omega) (by simpa using hb2) (fun k hk=>by simpa using hq0.2 k hk)).symm) rfl rfl (r:=[]) rfl
     case m2=>exact Qad (by rw [wJ _ (by omega) (by omega)]; omega)
     case s2 =>
      refine ⟨by omega,fun k hk=>?_⟩
      by_cases hkz:k=z2
      · subst hkz; exact hb2
      · exact hq0.2 k (by omega)
     case m3 => have : D.length - (z2 + 1) < D.length - z2 := by omega
                exact this
     case m4=>exact endU rfl (Qad (Qd5 Sh.dat.nil fun k hk=>by simpa using hq0.2 k (by omega)).symm) rfl rfl (r:=[]) rfl
   · cases hs
 · cases hs
def QjG:Spec2
 | [.f (.dt .dat D),.fn f [] [.bp 0 0]],[.cells [.f (.v (.bool fn)),.f (.v (.string s)),.f (.v (.int .u8 kd)),.f (.v (.string nm)),.f (.v (.bool ng)),.f (.lr dg dn),.f (.dt .tm ks),.f (.dt .prm pr),.f (.dt .ty rs),.f (.dt .dat DD),.f (.dt .kap KK),.f (.dt .srt SS)]]=>match Nat.beq f 251 with
  | true=>some (.ret (bV (decide (0≤anyD D s))) [.cells [bV fn,sV s,.f (.v (.int .u8 kd)),sV nm,bV ng,.f (.lr dg dn),.f (.dt .tm ks),.f (.dt .prm pr),.f (.dt .ty rs),.f (.dt .dat DD),.f (.dt .kap KK),.f (.dt .srt SS)]])
  | false=>none
 | _,_=>none
theorem QtM {E:Env} (hU:Up E):Contract2 Tryz.prog E 250 QjG:=by
 refine contract2 [] [(293,QjF)] Tryz.ntmps250 Tryz.func250 (by kernel_rfl) (by kernel_rfl) hU trivial ⟨QtL hU,trivial⟩ ?_
 intro xs ob o hs hok
 unfold QjG at hs
 split at hs
 · rename_i D f fn s kd nm ng dg dn ks pr rs DD KK SS
   split at hs
   · rename_i hf
     cases hs
     have hf:=Nat.eq_of_beq_eq_true hf
     subst hf
     refine ⟨[.f (.dt .dat D),.fn 251 [] [.bp 0 0]],[],.cons (.refl _) (.cons (.refl _) .nil),rfl,fun _ hsh=>?_⟩
     refine Qab (p:=EndU 1 (Out.ret (bV (decide ((0:Int)≤anyD D s))) [PO.cells [bV fn,sV s,uV kd,sV nm,bV ng,PV.f (Lf.lr dg dn),dP Sh.tm ks,dP Sh.prm pr,dP Sh.ty rs,dP Sh.dat DD,dP Sh.kap KK,dP Sh.srt SS]]).fin true (bV (decide (anyD D s ≥ (0:Int)))) [PO.cells [bV fn,sV s,uV kd,sV nm,bV ng,PV.f (Lf.lr dg dn),dP Sh.tm ks,dP Sh.prm pr,dP Sh.ty rs,dP Sh.dat DD,dP Sh.kap KK,dP Sh.srt SS]]) ?kr ?_
     case kr=>kernel_rfl
     refine ?m0
     case m0=>exact endU rfl (.refl _) rfl rfl (r:=[]) rfl
   · cases hs
 · cases hs
def QnT:Spec
 | [x]=>match kwOf x with
  | some w=>some (none,.nm Bool (QbR w.D w.y.sort) bV)
  | none=>none
 | _=>none
theorem cSortK {E:Env} (hU:Up E):Contract Tryz.prog E 205 QnT:=by
 refine Qac [] [(250,QjG)] Tryz.ntmps205 Tryz.func205 (by kernel_rfl) (by kernel_rfl) hU trivial ⟨QtM hU,trivial⟩ ?_
 intro xs p r hs hp
 unfold QnT at hs
 split at hs
 · rename_i x
   split at hs
   · rename_i w hw
     cases hs
     refine ⟨[kwP w],[],.cons (QiL hw).sub .nil,rfl,fun _ hsh=>?_⟩
     have h0:=hw
     refine Qab (p:=ifB (w.y.sort.toList==(ByteArray.mk #[(105:UInt8),(110:UInt8),(116:UInt8)]).toList) (true=true∧Sub (bV true) (bV (QbR w.D w.y.sort))) (ifB (w.y.sort.toList==(ByteArray.mk #[(98:UInt8),(111:UInt8),(111:UInt8),(108:UInt8)]).toList) (true=true∧Sub (bV true) (bV (QbR w.D w.y.sort))) (true=true∧Sub (bV (decide ((0:Int)≤anyD w.D w.y.sort))) (bV (QbR w.D w.y.sort))))) ?kr ?_
     case kr=>kernel_rfl
     refine Qaa.2 ⟨fun hb0=>⟨rfl,?m0⟩,fun hb0=>Qaa.2 ⟨fun hb1=>⟨rfl,?m1⟩,fun hb1=>⟨rfl,?m2⟩⟩⟩
     all_goals simp only [bs_l] at *
     all_goals refine (Qah ?_).sub
     all_goals unfold QbR
     case m0=>rw [show decide (w.y.sort=bInt)=true from hb0]; rfl
     case m1=>rw [show decide (w.y.sort=bInt)=false from hb0,show decide (w.y.sort=Qd4)=true from hb1]; rfl
     case m2=>rw [show decide (w.y.sort=bInt)=false from hb0,show decide (w.y.sort=Qd4)=false from hb1]; rfl
   · cases hs
 · cases hs
def QnP:Spec
 | [x]=>match kwOf x with
  | some w=>some (some (w.y.params.length≤100000000),.nm Bool (Qca [] (w.y.params.map (·.1))) bV)
  | none=>none
 | _=>none
theorem cTwice {E:Env} (hU:Up E):Contract Tryz.prog E 154 QnP:=by
 refine Qac [] [] Tryz.ntmps154 Tryz.func154 (by kernel_rfl) (by kernel_rfl) hU trivial trivial ?_
 intro xs p r hs hp
 unfold QnP at hs
 split at hs
 · rename_i x
   split at hs
   · rename_i w hw
     cases hs
     have hl:=hp _ rfl
     refine ⟨[kwP w],[(3,.s ⟨Nat,fun i=>⟨[(1,.bp 0 0),(3,.wr 1),(10,.f (.dt .prm w.y.params)),(11,iV w.y.params.length),(12,iV i)],[.cells (Qae (kwC w)),.map .str (hasF (setF ((w.y.params.map (·.1)).take i))) (getF (setF ((w.y.params.map (·.1)).take i))) [] []]⟩,fun i=>i≤w.y.params.length∧∀ j,j<i→¬ (w.y.params.map (·.1)).getD j Sh.str.nil∈(w.y.params.map (·.1)).take j,fun i=>w.y.params.length - i⟩)],.cons (QiL hw).sub .nil,rfl,fun _ hsh=>?_⟩
     have h0:=hl
     refine Qab (p:=let A1:=List.map (fun (x:ByteArray × Yw)=>x.fst) w.y.params; let A2:=rfB (bV w.y.fn)∧rfB (sV w.y.sort)∧rfB (uV w.y.ref.kind)∧rfB (sV w.y.ref.name)∧rfB (bV w.y.ref.neg)∧rfB (PV.f (Lf.lr w.y.ref.digits w.y.ref.digits.length))∧rfB (dP Sh.tm w.y.ref.kids)∧rfB (dP Sh.prm w.y.params)∧rfB (dP Sh.ty w.y.result)∧rfB (dP Sh.dat w.D)∧rfB (dP Sh.kap w.K)∧rfB (dP Sh.srt w.S)∧True; let A3:=(↑w.y.params.length:Int); let A0:=fun (z2:Nat)=>(∃ (x3:Nat),((A2∧MapW Kt.str (fun (s:Kt.str.T)=>(setF (List.take z2 A1) s).isSome) (fun (s:Kt.str.T)=>[Lf.v (Value.bool ((setF (List.take z2 A1) s).getD false))]) [(w.y.params.getD (↑z2:Int).toNat Sh.prm.nil).fst] [bV true] Kt.str (fun (s:Kt.str.T)=>(setF (List.take x3 A1) s).isSome) (fun (s:Kt.str.T)=>[Lf.v (Value.bool ((setF (List.take x3 A1) s).getD false))]) [] []∧True)∧rfB (PV.bp 0 0)∧rfB (PV.wr 1)∧rfB (dP Sh.prm w.y.params)∧rfB (iV A3)∧SubB (iV (IntKind.i64.wrap ((↑z2:Int)+(1:Int)))) (iV (↑x3:Int))∧True)∧(x3≤w.y.params.length∧∀ (j:Nat),j<x3→¬A1.getD j Sh.str.nil∈List.take j A1)∧True∧(w.y.params.length - x3).succ.le (w.y.params.length - z2)); ∃ (x1:Nat),((A2∧MapW Kt.str (fun (x:Kt.str.T)=>false) (fun (x:Kt.str.T)=>[]) [] [] Kt.str (fun (s:Kt.str.T)=>(setF (List.take x1 A1) s).isSome) (fun (s:Kt.str.T)=>[Lf.v (Value.bool ((setF (List.take x1 A1) s).getD false))]) [] []∧True)∧rfB (PV.bp 0 0)∧rfB (PV.wr 1)∧rfB (dP Sh.prm w.y.params)∧rfB (iV A3)∧SubB (iV 0) (iV (↑x1:Int))∧True)∧(x1≤w.y.params.length∧∀ (j:Nat),j<x1→¬A1.getD j Sh.str.nil∈List.take j A1)∧True∧∀ (z2:Nat),(z2≤w.y.params.length∧∀ (j:Nat),j<z2→¬A1.getD j Sh.str.nil∈List.take j A1)→True→ifB (decide ((↑z2:Int)<A3)) (((0:Int)≤(↑z2:Int)∧(↑z2:Int)<A3)∧ifB (hasF (setF (List.take z2 A1)) (w.y.params.getD (↑z2:Int).toNat Sh.prm.nil).fst) (ifB ((setF (List.take z2 A1) (w.y.params.getD (↑z2:Int).toNat Sh.prm.nil).fst).getD false) (true=true∧Sub (bV true) (bV (Qca [] A1))) (A0 z2)) (A0 z2)) (true=true∧Sub (bV false) (bV (Qca [] A1)))) ?kr ?_
     case kr=>kernel_rfl
     conv=>zeta
     refine ⟨?x0,⟨⟨⟨⟨.refl _,⟨.refl _,⟨.refl _,⟨.refl _,⟨.refl _,⟨.refl _,⟨.refl _,⟨.refl _,⟨.refl _,⟨.refl _,⟨.refl _,⟨.refl _,trivial⟩⟩⟩⟩⟩⟩⟩⟩⟩⟩⟩⟩,⟨?m0,trivial⟩⟩,⟨.refl _,⟨.refl _,⟨.refl _,⟨?m1,⟨?m2,trivial⟩⟩⟩⟩⟩⟩,⟨?s0,⟨trivial,fun z2=>fun hq0=>fun _=>Qaa.2 ⟨fun hb1=>⟨?s1,Qaa.2 ⟨fun hb2=>Qaa.2 ⟨fun hb3=>⟨rfl,?m3⟩,fun hb3=>⟨?x1,⟨⟨⟨⟨.refl _,⟨.refl _,⟨.refl _,⟨.refl _,⟨.refl _,⟨.refl _,⟨.refl _,⟨.refl _,⟨.refl _,⟨.refl _,⟨.refl _,⟨.refl _,trivial⟩⟩⟩⟩⟩⟩⟩⟩⟩⟩⟩⟩,⟨?m4,trivial⟩⟩,⟨.refl _,⟨.refl _,⟨.refl _,⟨.refl _,⟨?m5,trivial⟩⟩⟩⟩⟩⟩,⟨?s2,⟨trivial,?m6⟩⟩⟩⟩⟩,fun hb2=>⟨?x2,⟨⟨⟨⟨.refl _,⟨.refl _,⟨.refl _,⟨.refl _,⟨.refl _,⟨.refl _,⟨.refl _,⟨.refl _,⟨.refl _,⟨.refl _,⟨.refl _,⟨.refl _,trivial⟩⟩⟩⟩⟩⟩⟩⟩⟩⟩⟩⟩,⟨?m7,trivial⟩⟩,⟨.refl _,⟨.refl _,⟨.refl _,⟨.refl _,⟨?m8,trivial⟩⟩⟩⟩⟩⟩,⟨?s3,⟨trivial,?m9⟩⟩⟩⟩⟩⟩,fun hb1=>⟨rfl,?m10⟩⟩⟩⟩⟩⟩
     case x0=>exact 0
     case x1=>exact z2+1
     case x2=>exact z2+1
     all_goals try simp only [decide_eq_true_eq,decide_eq_false_iff_not,Int.toNat_natCast,Int.ofNat_lt] at *
     case m0=>exact QiI (by rw [List.take_zero]; exact Qk0)
     case m1=>exact .refl _
     case m2=>exact .refl _
     case s0=>exact ⟨Nat.zero_le _,fun j hj=>by omega⟩
     case s1=>omega
     case m3=>exact (Qah (Qd9.2 ⟨z2,by rw [List.length_map]; exact hb1,by rw [Qoq,List.nil_append]; exact Qb3.1 hb2⟩).symm).sub
     case m4=>rw [Qed (Qb3.1 hb2)] at hb3; cases hb3
     case m5=>rw [Qed (Qb3.1 hb2)] at hb3; cases hb3
     case s2=>rw [Qed (Qb3.1 hb2)] at hb3; cases hb3
     case m6=>rw [Qed (Qb3.1 hb2)] at hb3; cases hb3
     case m7=>exact Qhp (Qs0 hb1)
     case m8=>exact Qad (by rw [wJ _ (by omega) (by omega)]; rfl)
     case s3 =>
      refine ⟨hb1,fun j hj=>?_⟩
      by_cases hjz:j=z2
      · subst hjz
        rw [Qoq]
        intro h
        rw [Qb3.2 h] at hb2
        cases hb2
      · exact hq0.2 j (by omega)
     case m9=>exact (by omega:w.y.params.length - (z2+1)<w.y.params.length - z2)
     case m10 =>
      refine (Qah (Bool.eq_false_iff.2 fun h=>?_).symm).sub
      obtain ⟨i,h1,h2⟩:=Qd9.1 h
      rw [List.length_map] at h1
      exact hq0.2 i (by omega) h2
   · cases hs
 · cases hs
def Qg7:Spec
 | [x,t,.f a]=>match kwOf x,tyOf t,dtOf .srt a with
  | some w,some y,some A=>some (some (w.S.length≤100000000∧A.length≤100000000),.one (kwP ⟨y,w.D,w.K,w.S++A⟩))
  | _,_,_=>none
 | _=>none
theorem Qpr {E:Env} (hU:Up E):Contract Tryz.prog E 155 Qg7:=by
 refine Qac [(207,QjJ)] [] Tryz.ntmps155 Tryz.func155 (by kernel_rfl) (by kernel_rfl) hU ⟨QtS hU,trivial⟩ trivial ?_
 intro xs p r hs hp
 unfold Qg7 at hs
 split at hs
 · rename_i x t a
   split at hs
   · rename_i w y A hw ht ha
     cases hs
     obtain ⟨l1,l2⟩:=hp _ rfl
     refine ⟨[kwP w,tyP y,.f (.dt .srt A)],[],.cons (QiL hw).sub (.cons (Qbp ht).sub (.cons (SubB.sub ⟨fun H B v hv=>?h0⟩) .nil)),rfl,fun _ hsh=>?_⟩
     case h0 =>
      cases hv with
      | f hv=>exact .f (Qa5 ha _ _ hv)
     have h0:=l1
     refine Qab (p:=(w.S.length≤100000000∧A.length≤100000000)∧true=true∧rfS (PV.agg ([bV y.fn,sV y.sort]++(Qae (tmC y.ref)++([dP Sh.prm y.params,dP Sh.ty y.result,dP Sh.dat w.D,dP Sh.kap w.K,dP Sh.srt (w.S++A)]))))) ?kr ?_
     case kr=>kernel_rfl
     refine ⟨?s0,⟨rfl,?m0⟩⟩
     case s0=>exact ⟨l1,l2⟩
     case m0=>exact .refl _
   · cases hs
 · cases hs
end Go.Proofs.YtijfaigpilfpaaaGreatDoor
namespace Go.Proofs.YtijfaigpilfpaaaGreatDoor
open Go.RowKit
set_option linter.unusedVariables false
set_option maxRecDepth 100000
theorem QiA (t:Tw):Qa7 t=(!decide (t.kind=14) && QcL t.kids):=by cases t; rw [Qa7]; rfl
theorem QkU {l:List Tw} {i:Nat} (h:i<l.length):(l.getD i Sh.tm.nil).size≤szL l:=by
 have:=QnA h
 omega
noncomputable def notP (l:List Tw):Int:=anyB l fun t=>!Qa7 t
noncomputable def sPlainN (n:Nat):Spec
 | [x]=>match tmOf x with
  | some t=>some (some (5 * t.size<n),.nm Bool (Qa7 t) bV)
  | none=>none
 | _=>none
noncomputable def sPlain1N (n:Nat):Spec
 | [x]=>match tmOf x with
  | some t=>some (some (5 * t.size+1<n),.nm Bool (!Qa7 t) bV)
  | none=>none
 | _=>none
noncomputable def sPlainIN (n:Nat):Spec
 | [.f (.dt .tm l),.f (.v (.func (.func f) ⟨[]⟩ ⟨[]⟩))]=>match Nat.beq f 301 with
  | true=>some (some (5 * szL l+2<n),.nm Int (notP l) iV)
  | false=>none
 | _=>none
noncomputable def sPlainCN (n:Nat):Spec
 | [.f (.dt .tm l),.f (.v (.func (.func f) ⟨[]⟩ ⟨[]⟩))]=>match Nat.beq f 301 with
  | true=>some (some (5 * szL l+3<n),.nm Bool (!QcL l) bV)
  | false=>none
 | _=>none
theorem Qrn {α:Type} (l:List α) (f:α→Bool):decide (0≤anyB l f)=l.any f:=by
 unfold anyB
 rw [← List.findIdx?_isSome]
 cases l.findIdx? f with
 | none=>rfl
 | some i=>exact decide_eq_true (Int.natCast_nonneg i)
theorem Qqn:∀ {l:List Tw},decide (0≤notP l)=!QcL l:=by
 intro l
 rw [notP,Qrn]
 induction l with
 | nil=>rfl
 | cons t l ih=>rw [List.any_cons,ih,QcL,Bool.not_and]
set_option maxHeartbeats 4000000 in
theorem Qf3 {E:Env} (hU:Up E):∀ n,Contract Tryz.prog E 265 (sPlainN n)∧Contract Tryz.prog E 301 (sPlain1N n)∧Contract Tryz.prog E 225 (sPlainIN n)∧Contract Tryz.prog E 180 (sPlainCN n)
 | 0=>by
  refine ⟨?_,?_,?_,?_⟩
  · intro xs p r hs hp
    unfold sPlainN at hs
    split at hs
    · split at hs
      · cases hs
        exact absurd (hp _ rfl) (Nat.not_lt_zero _)
      · cases hs
    · cases hs
  · intro xs p r hs hp
    unfold sPlain1N at hs
    split at hs
    · split at hs
      · cases hs
        exact absurd (hp _ rfl) (Nat.not_lt_zero _)
      · cases hs
    · cases hs
  · intro xs p r hs hp
    unfold sPlainIN at hs
    split at hs
    · split at hs
      · cases hs
        exact absurd (hp _ rfl) (Nat.not_lt_zero _)
      · cases hs
    · cases hs
  · intro xs p r hs hp
    unfold sPlainCN at hs
    split at hs
    · split at hs
      · cases hs
        exact absurd (hp _ rfl) (Nat.not_lt_zero _)
      · cases hs
    · cases hs
 | n+1=>by
  refine ⟨?_,?_,?_,?_⟩
  · refine Qac [(180,sPlainCN n)] [] Tryz.ntmps265 Tryz.func265 (by kernel_rfl) (by kernel_rfl) hU ⟨(Qf3 hU n).2.2.2,trivial⟩ trivial ?_
    intro xs p r hs hp
    unfold sPlainN at hs
    split at hs
    · rename_i x
      split at hs
      · rename_i t ht
        cases hs
        have hn:=hp _ rfl
        refine ⟨[tmP t],[],.cons (QaG ht).sub .nil,rfl,fun _ hsh=>?_⟩
        have h0:=t.size_eq
        refine Qab (p:=ifB (t.kind != (14:Int)) (5 * szL t.kids+3<n∧∀ (z1:Bool),z1=!QcL t.kids→true=true∧Sub (bV (!z1)) (bV (Qa7 t))) (true=true∧Sub (bV false) (bV (Qa7 t)))) ?kr ?_
        case kr=>kernel_rfl
        refine Qaa.2 ⟨fun hb0=>⟨?s0,fun z1=>fun hz1=>⟨rfl,?m0⟩⟩,fun hb0=>⟨rfl,?m1⟩⟩
        all_goals try simp only [Tw.eta,bne_iff_ne,ne_eq,bne_eq_false_iff_eq] at *
        case s0=>omega
        case m0=>refine (Qah ?_).sub; rw [QiA,hz1,decide_eq_false hb0,Bool.not_not]; rfl
        case m1=>refine (Qah ?_).sub; rw [QiA,decide_eq_true hb0]; rfl
      · cases hs
    · cases hs
  · refine Qac [(265,sPlainN n)] [] Tryz.ntmps301 Tryz.func301 (by kernel_rfl) (by kernel_rfl) hU ⟨(Qf3 hU n).1,trivial⟩ trivial ?_
    intro xs p r hs hp
    unfold sPlain1N at hs
    split at hs
    · rename_i x
      split at hs
      · rename_i t ht
        cases hs
        have hn:=hp _ rfl
        refine ⟨[tmP t],[],.cons (QaG ht).sub .nil,rfl,fun _ hsh=>?_⟩
        have h0:=hn
        refine Qab (p:=5 * (etaT t).size<n∧∀ (z1:Bool),z1=Qa7 (etaT t)→true=true∧Sub (bV (!z1)) (bV (!Qa7 t))) ?kr ?_
        case kr=>kernel_rfl
        refine ⟨?s0,fun z1=>fun hz1=>⟨rfl,?m0⟩⟩
        all_goals try simp only [etaT] at *
        all_goals try simp only [Tw.eta] at *
        case s0=>omega
        case m0=>rw [hz1]; exact .refl _
      · cases hs
    · cases hs
  · refine Qac [(301,sPlain1N n)] [] Tryz.ntmps225 Tryz.func225 (by kernel_rfl) (by kernel_rfl) hU ⟨(Qf3 hU n).2.1,trivial⟩ trivial ?_
    intro xs p r hs hp
    unfold sPlainIN at hs
    split at hs
    · rename_i l f
      split at hs
      · rename_i hfn
        cases hs
        have hfn:=Nat.eq_of_beq_eq_true hfn
        subst hfn
        have hn:=hp _ rfl
        refine ⟨[.f (.dt .tm l),.f (.v (.func (.func 301) ⟨[]⟩ ⟨[]⟩))],[(2,.s ⟨Nat,fun i=>⟨[(0,.f (.dt .tm l)),(1,.f (.v (.func (.func 301) ⟨[]⟩ ⟨[]⟩))),(7,iV l.length),(8,iV i)],[]⟩,fun i=>i≤l.length∧∀ j,j<i→(!Qa7 (l.getD j Sh.tm.nil))=false,fun i=>l.length - i⟩)],.cons (.refl _) (.cons (.refl _) .nil),rfl,fun _ hsh=>?_⟩
        have hl:=Qap hsh.1
        refine Qab (p:=∃ (x1:Nat),(True∧rfB (dP Sh.tm l)∧rfB (PV.f (Lf.v (Value.func (Fn.func 301) (Array.mk []) (Array.mk []))))∧rfB (iV (↑l.length:Int))∧SubB (iV 0) (iV (↑x1:Int))∧True)∧(x1≤l.length∧∀ (j:Nat),j<x1→(!Qa7 (l.getD j Sh.tm.nil))=false)∧True∧∀ (z2:Nat),(z2≤l.length∧∀ (j:Nat),j<z2→(!Qa7 (l.getD j Sh.tm.nil))=false)→True→ifB (decide ((↑z2:Int)<(↑l.length:Int))) (((0:Int)≤(↑z2:Int)∧(↑z2:Int)<(↑l.length:Int))∧5 * (etaT (l.getD (↑z2:Int).toNat Sh.tm.nil)).size+1<n∧∀ (z3:Bool),z3=!Qa7 (etaT (l.getD (↑z2:Int).toNat Sh.tm.nil))→ifB z3 (true=true∧Sub (iV (↑z2:Int)) (iV (notP l))) (∃ (x4:Nat),(True∧rfB (dP Sh.tm l)∧rfB (PV.f (Lf.v (Value.func (Fn.func 301) (Array.mk []) (Array.mk []))))∧rfB (iV (↑l.length:Int))∧SubB (iV (IntKind.i64.wrap ((↑z2:Int)+(1:Int)))) (iV (↑x4:Int))∧True)∧(x4≤l.length∧∀ (j:Nat),j<x4→(!Qa7 (l.getD j Sh.tm.nil))=false)∧True∧(l.length - x4).succ.le (l.length - z2))) (true=true∧Sub (iV (-1:Int)) (iV (notP l)))) ?kr ?_
        case kr=>kernel_rfl
        refine ⟨?x0,⟨⟨trivial,⟨.refl _,⟨.refl _,⟨.refl _,⟨?m0,trivial⟩⟩⟩⟩⟩,⟨?s0,⟨trivial,fun z2=>fun hq0=>fun _=>Qaa.2 ⟨fun hb1=>⟨?s1,⟨?s2,fun z3=>fun hz3=>Qaa.2 ⟨fun hb2=>⟨rfl,?m1⟩,fun hb2=>⟨?x1,⟨⟨trivial,⟨.refl _,⟨.refl _,⟨.refl _,⟨?m2,trivial⟩⟩⟩⟩⟩,⟨?s3,⟨trivial,?m3⟩⟩⟩⟩⟩⟩⟩,fun hb1=>⟨rfl,?m4⟩⟩⟩⟩⟩⟩
        all_goals try simp only [etaT] at *
        case x0=>exact 0
        case x1=>exact z2+1
        all_goals try simp only [Tw.eta,decide_eq_true_eq,decide_eq_false_iff_not,Int.toNat_natCast,Int.ofNat_lt] at *
        case m0=>exact .refl _
        case s0=>exact ⟨Nat.zero_le _,fun k hk=>by omega⟩
        case s1=>omega
        case s2=>have:=QkU hb1; omega
        case m1=>exact (Qad (Qe8 Sh.tm.nil (by omega) (by rw [← hz3]; exact hb2) (fun k hk=>hq0.2 k hk)).symm).sub
        case m2=>exact Qad (by rw [wJ _ (by omega) (by omega)]; omega)
        case s3 =>
         refine ⟨by omega,fun k hk=>?_⟩
         by_cases hkz:k=z2
         · subst hkz; rw [← hz3]; exact hb2
         · exact hq0.2 k (by omega)
        case m3=>exact (by omega:l.length - (z2+1)<l.length - z2)
        case m4=>exact (Qad (Qd5 Sh.tm.nil fun k hk=>hq0.2 k (by omega)).symm).sub
      · cases hs
    · cases hs
  · refine Qac [(225,sPlainIN n)] [] Tryz.ntmps180 Tryz.func180 (by kernel_rfl) (by kernel_rfl) hU ⟨(Qf3 hU n).2.2.1,trivial⟩ trivial ?_
    intro xs p r hs hp
    unfold sPlainCN at hs
    split at hs
    · rename_i l f
      split at hs
      · rename_i hfn
        cases hs
        have hfn:=Nat.eq_of_beq_eq_true hfn
        subst hfn
        have hn:=hp _ rfl
        refine ⟨[.f (.dt .tm l),.f (.v (.func (.func 301) ⟨[]⟩ ⟨[]⟩))],[],.cons (.refl _) (.cons (.refl _) .nil),rfl,fun _ hsh=>?_⟩
        have h0:=hn
        refine Qab (p:=5 * szL l+2<n∧∀ (z1:Int),z1=notP l→true=true∧Sub (bV (decide (z1 ≥ (0:Int)))) (bV (!QcL l))) ?kr ?_
        case kr=>kernel_rfl
        refine ⟨?s0,fun z1=>fun hz1=>⟨rfl,?m0⟩⟩
        case s0=>omega
        case m0=>refine (Qah ?_).sub; rw [hz1]; exact Qqn
      · cases hs
    · cases hs
noncomputable def sPlain:Spec
 | [x]=>match tmOf x with
  | some t=>some (none,.nm Bool (Qa7 t) bV)
  | none=>none
 | _=>none
theorem cPlain {E:Env} (hU:Up E):Contract Tryz.prog E 265 sPlain:=by
 intro xs p r hs hp
 unfold sPlain at hs
 split at hs
 · rename_i x
   split at hs
   · rename_i t ht
     cases hs
     exact (Qf3 hU (5 * t.size+1)).1 [x] _ _ (by simp only [sPlainN,ht]; rfl) (fun q hq=>by cases hq; exact Nat.lt_succ_self _)
   · cases hs
 · cases hs
def QsM:Spec2
 | [.agg [.f (.v (.string n)),.f (.dt .srt l),.f (.v (.int .u8 k)),.f (.v (.string m)),.f (.v (.bool b)),.f (.lr d dl),.f (.dt .tm q)],.bp 0 0],[.cells [.f (.v (.int .u8 kd)),.f (.v (.string s)),.f (.v (.bool ng)),.f (.lr dg dn),.f (.dt .tm ks)]]=>some (.ret (bV (decide (n=s))) [.cells [.f (.v (.int .u8 kd)),sV s,bV ng,.f (.lr dg dn),.f (.dt .tm ks)]])
 | _,_=>none
theorem cKap1 {E:Env} (hU:Up E):Contract2 Tryz.prog E 264 QsM:=by
 refine contract2 [] [] Tryz.ntmps264 Tryz.func264 (by kernel_rfl) (by kernel_rfl) hU trivial trivial ?_
 intro xs ob o hs hok
 unfold QsM at hs
 split at hs
 · rename_i n l k m b d dl q kd s ng dg dn ks
   cases hs
   refine ⟨[.agg [.f (.v (.string n)),.f (.dt .srt l),.f (.v (.int .u8 k)),.f (.v (.string m)),.f (.v (.bool b)),.f (.lr d dl),.f (.dt .tm q)],.bp 0 0],[],.cons (.refl _) (.cons (.refl _) .nil),rfl,fun _ hsh=>?_⟩
   refine Qab (p:=EndU 1 (Out.ret (bV (decide (n=s))) [PO.cells [uV kd,sV s,bV ng,PV.f (Lf.lr dg dn),dP Sh.tm ks]]).fin true (bV (n.toList==s.toList)) [PO.cells [uV kd,sV s,bV ng,PV.f (Lf.lr dg dn),dP Sh.tm ks],PO.cells [sV n,dP Sh.srt l,uV k,sV m,bV b,PV.f (Lf.lr d dl),dP Sh.tm q]]) ?kr ?_
   case kr=>kernel_rfl
   refine ?m0
   case m0=>exact endU rfl (Qah (bs_l n s)) rfl rfl (r:=[.cells [sV n,.f (.dt .srt l),.f (.v (.int .u8 k)),sV m,bV b,.f (.lr d dl),.f (.dt .tm q)]]) rfl
 · cases hs
def Qci (K:List Kap) (s:ByteArray):Int:=anyB K fun x=>decide (Kap.name x=s)
def QsK:Spec2
 | [.f (.dt .kap K),.fn f [] [.bp 0 0]],[.cells [.f (.v (.int .u8 kd)),.f (.v (.string s)),.f (.v (.bool ng)),.f (.lr dg dn),.f (.dt .tm ks)]]=>match Nat.beq f 264 with
  | true=>some (.ret (iV (Qci K s)) [.cells [.f (.v (.int .u8 kd)),sV s,bV ng,.f (.lr dg dn),.f (.dt .tm ks)]])
  | false=>none
 | _,_=>none
theorem cKapI {E:Env} (hU:Up E):Contract2 Tryz.prog E 263 QsK:=by
 refine contract2 [] [(264,QsM)] Tryz.ntmps263 Tryz.func263 (by kernel_rfl) (by kernel_rfl) hU trivial ⟨cKap1 hU,trivial⟩ ?_
 intro xs ob o hs hok
 unfold QsK at hs
 split at hs
 · rename_i K f kd s ng dg dn ks
   split at hs
   · rename_i hf
     cases hs
     have hf:=Nat.eq_of_beq_eq_true hf
     subst hf
     refine ⟨[.f (.dt .kap K),.fn 264 [] [.bp 0 0]],[(2,.s ⟨Nat,fun i=>⟨[(0,.f (.dt .kap K)),(1,.fn 264 [] [.bp 0 0]),(7,iV K.length),(8,iV i)],[.cells [.f (.v (.int .u8 kd)),sV s,bV ng,.f (.lr dg dn),.f (.dt .tm ks)]]⟩,fun i=>i≤K.length∧∀ k,k<i→decide (Kap.name (K.getD k Sh.kap.nil)=s)=false,fun i=>K.length - i⟩)],.cons (.refl _) (.cons (.refl _) .nil),rfl,fun _ hsh=>?_⟩
     have hl:=Qap hsh.1
     refine Qab (p:=∃ (x1:Nat),(((rfB (uV kd)∧rfB (sV s)∧rfB (bV ng)∧rfB (PV.f (Lf.lr dg dn))∧rfB (dP Sh.tm ks)∧True)∧True)∧rfB (dP Sh.kap K)∧rfB (PV.fn 264 [] [PV.bp 0 0])∧rfB (iV (↑K.length:Int))∧SubB (iV 0) (iV (↑x1:Int))∧True)∧(x1≤K.length∧∀ (k:Nat),k<x1→decide ((K.getD k Sh.kap.nil).name=s)=false)∧True∧∀ (z2:Nat),(z2≤K.length∧∀ (k:Nat),k<z2→decide ((K.getD k Sh.kap.nil).name=s)=false)→True→ifB (decide ((↑z2:Int)<(↑K.length:Int))) (((0:Int)≤(↑z2:Int)∧(↑z2:Int)<(↑K.length:Int))∧ifB (decide ((K.getD (↑z2:Int).toNat Sh.kap.nil).name=s)) (EndU 1 (Out.ret (iV (Qci K s)) [PO.cells [uV kd,sV s,bV ng,PV.f (Lf.lr dg dn),dP Sh.tm ks]]).fin true (iV (↑z2:Int)) [PO.cells [uV kd,sV s,bV ng,PV.f (Lf.lr dg dn),dP Sh.tm ks]]) (∃ (x3:Nat),(((rfB (uV kd)∧rfB (sV s)∧rfB (bV ng)∧rfB (PV.f (Lf.lr dg dn))∧rfB (dP Sh.tm ks)∧True)∧True)∧rfB (dP Sh.kap K)∧rfB (PV.fn 264 [] [PV.bp 0 0])∧rfB (iV (↑K.length:Int))∧SubB (iV (IntKind.i64.wrap ((↑z2:Int)+(1:Int)))) (iV (↑x3:Int))∧True)∧(x3≤K.length∧∀ (k:Nat),k<x3→decide ((K.getD k Sh.kap.nil).name=s)=false)∧True∧(K.length - x3).succ.le (K.length - z2))) (EndU 1 (Out.ret (iV (Qci K s)) [PO.cells [uV kd,sV s,bV ng,PV.f (Lf.lr dg dn),dP Sh.tm ks]]).fin true (iV (-1:Int)) [PO.cells [uV kd,sV s,bV ng,PV.f (Lf.lr dg dn),dP Sh.tm ks]])) ?kr ?_
     case kr=>kernel_rfl
     refine ⟨?x0,⟨⟨⟨⟨.refl _,⟨.refl _,⟨.refl _,⟨.refl _,⟨.refl _,trivial⟩⟩⟩⟩⟩,trivial⟩,⟨.refl _,⟨.refl _,⟨.refl _,⟨?m0,trivial⟩⟩⟩⟩⟩,⟨?s0,⟨trivial,fun z2=>fun hq0=>fun _=>Qaa.2 ⟨fun hb1=>⟨?s1,Qaa.2 ⟨fun hb2=>?m1,fun hb2=>⟨?x1,⟨⟨⟨⟨.refl _,⟨.refl _,⟨.refl _,⟨.refl _,⟨.refl _,trivial⟩⟩⟩⟩⟩,trivial⟩,⟨.refl _,⟨.refl _,⟨.refl _,⟨?m2,trivial⟩⟩⟩⟩⟩,⟨?s2,⟨trivial,?m3⟩⟩⟩⟩⟩⟩,fun hb1=>?m4⟩⟩⟩⟩⟩
     case x0=>exact 0
     case x1=>exact z2+1
     all_goals try simp only [decide_eq_true_eq,decide_eq_false_iff_not] at *
     case m0=>exact .refl _
     case s0=>exact ⟨Nat.zero_le _,fun k hk=>by omega⟩
     case s1=>omega
     case m1=>exact endU rfl (Qad (Qe8 Sh.kap.nil (by omega) (by simpa using hb2) (fun k hk=>by simpa using hq0.2 k hk)).symm) rfl rfl (r:=[]) rfl
     case m2=>exact Qad (by rw [wJ _ (by omega) (by omega)]; omega)
     case s2 =>
      refine ⟨by omega,fun k hk=>?_⟩
      by_cases hkz:k=z2
      · subst hkz; exact hb2
      · exact hq0.2 k (by omega)
     case m3 => have : K.length - (z2 + 1) < K.length - z2 := by omega
                exact this
     case m4=>exact endU rfl (Qad (Qd5 Sh.kap.nil fun k hk=>by simpa using hq0.2 k (by omega)).symm) rfl rfl (r:=[]) rfl
   · cases hs
 · cases hs
end Go.Proofs.YtijfaigpilfpaaaGreatDoor
namespace Go.Proofs.YtijfaigpilfpaaaGreatDoor
open Go.RowKit
set_option linter.unusedVariables false
set_option maxRecDepth 100000
def fitK (K:List Kap):Prop:=∀ k∈K,k.params.length≤100000000∧k.body.fitT
def kapA (K:List Kap) (s:ByteArray):Kap:=K.getD (Qci K s).toNat Sh.kap.nil
theorem kapD (K:List Kap) (s:ByteArray):K.getD (Qci K s).toNat Sh.kap.nil=kapA K s:=rfl
theorem QdJ {K:List Kap} {s:ByteArray} (h:0≤Qci K s):K.find? (fun x=>decide (x.name=s))=some (kapA K s)∧(Qci K s).toNat<K.length∧kapA K s∈K:=by
 unfold Qci anyB at h
 cases hf:K.findIdx? fun x=>decide (Kap.name x=s) with
 | none=>rw [hf] at h; cases h
 | some i =>
  obtain ⟨hi,h1,h2⟩:=List.findIdx?_eq_some_iff_getElem.1 hf
  have e:Qci K s=i:=by unfold Qci anyB; rw [hf]
  have e2:kapA K s=K[i]:=by
   unfold kapA
   rw [e,Int.toNat_natCast,List.getD_eq_getElem?_getD,List.getElem?_eq_getElem hi]; rfl
  refine ⟨?_,by rw [e]; exact hi,by rw [e2]; exact List.getElem_mem hi⟩
  rw [e2]
  exact List.find?_eq_some_iff_getElem.2 ⟨h1,i,hi,rfl,fun j hj=>by simpa using h2 j hj⟩
theorem QoN {K:List Kap} {s:ByteArray} (h:¬ 0≤Qci K s):K.find? (fun x=>decide (x.name=s))=none:=by
 unfold Qci anyB at h
 cases hf:K.findIdx? fun x=>decide (Kap.name x=s) with
 | none=>exact List.find?_eq_none.2 fun x hx=>List.findIdx?_eq_none_iff.1 hf x hx ▸ Bool.false_ne_true
 | some i=>rw [hf] at h; exact absurd (Int.natCast_nonneg i) h
theorem Qp2 {l:List Srt} {i:Nat} (h:i<l.length):l.take (i+1)=l.take i++[l.getD i Sh.srt.nil]:=by
 rw [List.take_add_one,List.getElem?_eq_getElem h,List.getD_eq_getElem?_getD,List.getElem?_eq_getElem h]; rfl
theorem QoM {K:List Kap} {n:ByteArray} {l:List Tw} (h:¬ 0≤Qci K n):kapE K n l=.error 21:=by
 unfold kapE
 rw [QoN h]
theorem QoK {K:List Kap} {n:ByteArray} {l:List Tw} (h:0≤Qci K n) (h1:¬ (kapA K n).params.length=l.length):kapE K n l=.error 24:=by
 unfold kapE
 rw [(QdJ h).1]
 exact if_pos h1
theorem QoL {K:List Kap} {n:ByteArray} {l:List Tw} (h:0≤Qci K n) (h1:(kapA K n).params.length=l.length) (h2:Qa7 (kapA K n).body=false):kapE K n l=.error 23:=by
 unfold kapE
 rw [(QdJ h).1]
 dsimp only
 rw [if_neg (fun hc=>hc h1),if_pos h2]
theorem Qtf {K:List Kap} {n:ByteArray} {l:List Tw} (h:0≤Qci K n) (h1:(kapA K n).params.length=l.length) (h2:Qa7 (kapA K n).body=true):kapE K n l=QaC ((kapA K n).params.map Srt.name) l (kapA K n).body:=by
 unfold kapE
 rw [(QdJ h).1]
 dsimp only
 rw [if_neg (fun hc=>hc h1),if_neg (by rw [h2]; decide)]
theorem QiV:∀ {l:List Tw},QbW l→∀ t∈l,t.fitT
 | u::l,h,t,ht=>by
  rcases List.mem_cons.1 ht with rfl | ht
  · exact h.1
  · exact QiV h.2 t ht
def Qrp:List PV:=[.f (.v (.int .u8 0)),.f (.v (.string ⟨#[]⟩)),.f (.v (.bool false)),.f (.v (.slice none 0 0)),.f (.v (.slice none 0 0))]
def QsL:Spec2
 | [.bp 0 0,x],[.cells [.f (.dt .kap K)]]=>match tmOf x with
  | some t=>some (.need (t.fitT∧fitK K) (outE Sh.tm.nil tmP (kapE K t.name t.kids) [.cells [.f (.dt .kap K)]]))
  | none=>none
 | _,_=>none
set_option maxHeartbeats 8000000 in
theorem cKapE {E:Env} (hU:Up E):Contract2 Tryz.prog E 222 QsL:=by
 refine contract2 [(265,sPlain)] [(263,QsK),(175,Qhc),(156,Qhb),(159,sOfU)] Tryz.ntmps222 Tryz.func222 (by kernel_rfl) (by kernel_rfl) hU ⟨cPlain hU,trivial⟩ ⟨cKapI hU,Qku hU,Qpt hU,cOfU hU,trivial⟩ ?_
 intro xs ob o hs hok
 unfold QsL at hs
 split at hs
 · rename_i x K
   split at hs
   · rename_i t ht
     cases hs
     obtain ⟨⟨hft,hK⟩,-⟩:=hok
     have f2:=(Tw.fitT_eq t).1 hft
     refine ⟨[.bp 0 0,tmP t],[(8,.s ⟨Nat,fun i=>⟨[(0,.bp 0 0),(3,.bp 1 0),(4,.bp 2 0),(6,.bp 3 0),(7,.tl 4 (.dt .str ((Kap.params (kapA K t.name)).take i |>.map Srt.name))),(39,.f (.dt .srt (Kap.params (kapA K t.name)))),(40,iV (Kap.params (kapA K t.name)).length),(41,iV i)],[.cells [.f (.dt .kap K)],.cells (Qae (tmC t)),.cells Qrp,.cells (Qae (Sh.cells .kap (kapA K t.name))),.tail 9 1]⟩,fun i=>i≤(Kap.params (kapA K t.name)).length,fun i=>(Kap.params (kapA K t.name)).length - i⟩)],.cons (.refl _) (.cons (QaG ht) .nil),rfl,fun _ hsh=>?_⟩
     have h0:=hft
     refine Qab (p:=let A0:=K.getD (Qci K t.name).toNat Sh.kap.nil; let A1:=kapA K t.name; let A2:=fun (z3:Nat)=>(List.map Srt.name (List.take z3 A1.params)); let A3:=Out.need (t.fitT∧fitK K) (outE Sh.tm.nil tmP (kapE K t.name t.kids) [PO.cells [dP Sh.kap K]]); let A4:=rfB (uV t.kind)∧rfB (sV t.name)∧rfB (bV t.neg)∧rfB (PV.f (Lf.lr t.digits t.digits.length))∧rfB (dP Sh.tm t.kids)∧True; let A5:=Lf.lr A1.body.digits A1.body.digits.length; let A6:=Qae (tmC (A1.body)); let A7:=rfB (uV 0)∧rfB (sV (ByteArray.mk #[]))∧rfB (bV false)∧rfB (nlP)∧rfB (nlP)∧True; let A8:=Lf.lr A0.body.digits A0.body.digits.length; let A9:=(↑A1.params.length:Int); ifB (decide (Qci K t.name ≥ (0:Int))) (((0:Int)≤Qci K t.name∧Qci K t.name<(↑K.length:Int))∧ifB ((↑A0.params.length:Int)==(↑t.kids.length:Int)) (∀ (z1:Bool),z1=Qa7 (etaT (A0.body))→ifB z1 (∃ (x2:Nat),(((rfB (dP Sh.kap K)∧True)∧A4∧A7∧(SubB (sV (A0.name)) (sV (A1.name))∧SubB (dP Sh.srt A0.params) (dP Sh.srt A1.params)∧SubB (uV (A0.body.kind)) (uV (A1.body.kind))∧SubB (sV (A0.body.name)) (sV (A1.body.name))∧SubB (bV (A0.body.neg)) (bV (A1.body.neg))∧SubB (PV.f A8) (PV.f A5)∧SubB (dP Sh.tm A0.body.kids) (dP Sh.tm A1.body.kids)∧True)∧True)∧rfB (PV.bp 0 0)∧rfB (PV.bp 1 0)∧rfB (PV.bp 2 0)∧rfB (PV.bp 3 0)∧Qbg (PV.tl 4 (Lf.dt Sh.str (List.map Srt.name (List.take x2 A1.params))))∧SubB (dP Sh.srt A0.params) (dP Sh.srt A1.params)∧SubB (iV (↑A0.params.length:Int)) (iV A9)∧SubB (iV 0) (iV (↑x2:Int))∧True)∧x2≤A1.params.length∧True∧∀ (z3:Nat),z3≤A1.params.length→True→ifB (decide ((↑z3:Int)<A9)) (((0:Int)≤(↑z3:Int)∧(↑z3:Int)<A9)∧((A2 z3).length+1≤9223372036854775807∧((A2 z3).length+1) * 16≤140737488355328)∧∃ (x4:Nat),(((rfB (dP Sh.kap K)∧True)∧A4∧A7∧(rfB (sV (A1.name))∧rfB (dP Sh.srt A1.params)∧rfB (uV (A1.body.kind))∧rfB (sV (A1.body.name))∧rfB (bV (A1.body.neg))∧rfB (PV.f A5)∧rfB (dP Sh.tm A1.body.kids)∧True)∧True)∧rfB (PV.bp 0 0)∧rfB (PV.bp 1 0)∧rfB (PV.bp 2 0)∧rfB (PV.bp 3 0)∧SubB (PV.tl 4 (Lf.dt Sh.str (List.map Srt.name (List.take z3 A1.params)++[(A1.params.getD (↑z3:Int).toNat Sh.srt.nil).name]))) (PV.tl 4 (Lf.dt Sh.str (List.map Srt.name (List.take x4 A1.params))))∧rfB (dP Sh.srt A1.params)∧rfB (iV A9)∧SubB (iV (IntKind.i64.wrap ((↑z3:Int)+(1:Int)))) (iV (↑x4:Int))∧True)∧x4≤A1.params.length∧True∧(A1.params.length - x4).succ.le (A1.params.length - z3)) (SameL [PV.bp 1 4,dP Sh.tm t.kids,PV.bp 3 2,PV.agg A6] [PV.bp 1 4,dP Sh.tm t.kids,PV.bp 3 2,PV.agg A6]∧SameL [PV.bp 1 4,dP Sh.tm t.kids,PV.bp 3 2,PV.agg A6] [PV.bp 1 4,dP Sh.tm t.kids,PV.bp 3 2,PV.agg A6]∧SameL [PV.bp 1 4,PV.any,PV.bp 3 2,PV.agg A6] [PV.bp 1 4,PV.any,PV.bp 3 2,PV.agg A6]∧(((etaT (A1.body)).fitT∧∀ (u:Sh.tm.T),u∈t.kids→Tw.fitT u)∧((A2 z3).length≤100000000∧t.kids.length≤100000000)∧min (↑(A2 z3).length:Int) (↑t.kids.length:Int)=(↑(min (A2 z3).length t.kids.length):Int)∧(0:Int)≤(0:Int)∧(0:Int)≤(20000:Int))∧ifB (decide ((0:Int)+(↑(Qam (A2 z3) t.kids (etaT (A1.body))).size:Int)≤(20000:Int))) (SameL [PV.bp 1 4,PV.any,PV.bp 3 2,PV.any] [PV.bp 1 4,PV.any,PV.bp 3 2,PV.any]∧SameL [PV.any,PV.any,PV.any,PV.any] [PV.any,PV.any,PV.any,PV.any]∧EndU 1 A3.fin true (PV.agg (Qae (tmC (Qam (A2 z3) t.kids (etaT (A1.body)))))) [PO.cells [dP Sh.kap K],PO.cells (Qae (tmC t)),PO.cells (Qae (tmC (Qam (A2 z3) t.kids (etaT (A1.body))))),PO.cells [sV (A1.name),dP Sh.srt A1.params,uV (A1.body.kind),sV (A1.body.name),bV (A1.body.neg),PV.f A5,dP Sh.tm A1.body.kids],PO.tail 9 1,PO.cells [dP Sh.str (A2 z3)],PO.cells [dP Sh.tm t.kids],PO.cells [iV (min (↑(A2 z3).length:Int) (↑t.kids.length:Int))],PO.cells [iV ((0:Int)+(↑(Qam (A2 z3) t.kids (etaT (A1.body))).size:Int)),PV.fn 208 [] [PV.bp 7 0,PV.bp 5 0,PV.bp 6 0]]]) (EndU 1 A3.fin false (PV.ifc 36 (iV 34)) [PO.cells [dP Sh.kap K],PO.cells (Qae (tmC t)),PO.cells zTP,PO.cells [sV (A1.name),dP Sh.srt A1.params,uV (A1.body.kind),sV (A1.body.name),bV (A1.body.neg),PV.f A5,dP Sh.tm A1.body.kids],PO.tail 9 1,PO.cells [dP Sh.str (A2 z3)],PO.cells [dP Sh.tm t.kids],PO.cells [iV (min (↑(A2 z3).length:Int) (↑t.kids.length:Int))],PO.cells [iV 20001,PV.fn 208 [] [PV.bp 7 0,PV.bp 5 0,PV.bp 6 0]]]))) (EndU 1 A3.fin false (PV.ifc 36 (iV 23)) [PO.cells [dP Sh.kap K],PO.cells (Qae (tmC t)),PO.cells zTP,PO.cells [sV (A0.name),dP Sh.srt A0.params,uV (A0.body.kind),sV (A0.body.name),bV (A0.body.neg),PV.f A8,dP Sh.tm A0.body.kids]])) (EndU 1 A3.fin false (PV.ifc 36 (iV 24)) [PO.cells [dP Sh.kap K],PO.cells (Qae (tmC t)),PO.cells zTP,PO.cells [sV (A0.name),dP Sh.srt A0.params,uV (A0.body.kind),sV (A0.body.name),bV (A0.body.neg),PV.f A8,dP Sh.tm A0.body.kids]])) (EndU 1 A3.fin false (PV.ifc 36 (iV 21)) [PO.cells [dP Sh.kap K],PO.cells (Qae (tmC t)),PO.cells zTP])) ?kr ?_
     case kr=>kernel_rfl
     conv=>zeta
     refine Qaa.2 ⟨fun hb0=>⟨?s0,Qaa.2 ⟨fun hb1=>fun z1=>fun hz1=>Qaa.2 ⟨fun hb2=>⟨?x0,⟨?s1,⟨?s2,⟨trivial,fun z3=>fun hq3=>fun _=>Qaa.2 ⟨fun hb4=>⟨?s3,⟨?s4,⟨?x1,⟨⟨⟨⟨.refl _,trivial⟩,⟨⟨.refl _,⟨.refl _,⟨.refl _,⟨.refl _,⟨.refl _,trivial⟩⟩⟩⟩⟩,⟨⟨.refl _,⟨.refl _,⟨.refl _,⟨.refl _,⟨.refl _,trivial⟩⟩⟩⟩⟩,⟨⟨.refl _,⟨.refl _,⟨.refl _,⟨.refl _,⟨.refl _,⟨.refl _,⟨.refl _,trivial⟩⟩⟩⟩⟩⟩⟩,trivial⟩⟩⟩⟩,⟨.refl _,⟨.refl _,⟨.refl _,⟨.refl _,⟨?m0,⟨.refl _,⟨.refl _,⟨?m1,trivial⟩⟩⟩⟩⟩⟩⟩⟩⟩,⟨?s5,⟨trivial,?m2⟩⟩⟩⟩⟩⟩,fun hb4=>⟨⟨rfl⟩,⟨⟨rfl⟩,⟨⟨rfl⟩,⟨?s6,Qaa.2 ⟨fun hb5=>⟨⟨rfl⟩,⟨⟨rfl⟩,?m3⟩⟩,fun hb5=>?m4⟩⟩⟩⟩⟩⟩⟩⟩⟩⟩,fun hb2=>?m5⟩,fun hb1=>?m6⟩⟩,fun hb0=>?m7⟩
     all_goals try simp only [etaT] at *
     case x0=>exact 0
     case x1=>exact z3+1
     all_goals simp only [Tw.eta,decide_eq_true_eq,decide_eq_false_iff_not,Int.toNat_natCast,Int.ofNat_lt,beq_iff_eq,beq_eq_false_iff_ne,ne_eq,kapD,Int.natCast_inj,ge_iff_le] at *
     case m7=>exact Qcu (by rw [QoM hb0]; rfl) (by rw [QoM hb0]; rfl) rfl rfl
     case m6=>exact Qcu (by rw [QoK hb0 hb1]; rfl) (by rw [QoK hb0 hb1]; rfl) rfl rfl
     all_goals have hm:=QdJ hb0
     case s0=>exact ⟨hb0,by have:=hm.2.1; omega⟩
     case m5 =>
      rw [hb2] at hz1
      exact Qcu (by rw [QoL hb0 hb1 hz1.symm]; rfl) (by rw [QoL hb0 hb1 hz1.symm]; rfl) rfl rfl
     all_goals have hk:=hK _ hm.2.2
     case s1=>repeat' first | exact SubB.refl _ | exact trivial | exact rfl | refine And.intro ?_ ?_
     case s2=>exact Nat.zero_le _
     case s3=>omega
     case s4=>rw [List.length_map,List.length_take]; omega
     case m0=>exact Qa4 (by rw [Qp2 hb4,List.map_append]; rfl)
     case m1=>exact Qad (by rw [wJ _ (by omega) (by omega)]; rfl)
     case s5=>omega
     case m2=>exact (by omega:(kapA K t.name).params.length - (z3+1)<(kapA K t.name).params.length - z3)
     all_goals rw [hb2] at hz1
     all_goals (obtain rfl:z3=(kapA K t.name).params.length:=by omega)
     all_goals simp only [List.take_length] at *
     case s6=>exact ⟨⟨hk.2,QiV f2.2.2.2⟩,⟨by rw [List.length_map]; omega,by omega⟩,by omega,by omega,by omega⟩
     all_goals have hg:=Qtf hb0 hb1 hz1.symm
     case m3 =>
      rw [QaC,if_pos (by omega)] at hg
      exact QfO (by rw [hg]; rfl) (by rw [hg]; rfl) rfl rfl rfl
     case m4 =>
      rw [QaC,if_neg (by omega)] at hg
      exact Qcu (by rw [hg]; rfl) (by rw [hg]; rfl) rfl rfl
   · cases hs
 · cases hs
end Go.Proofs.YtijfaigpilfpaaaGreatDoor
namespace Go.Proofs.YtijfaigpilfpaaaGreatDoor
open Go.RowKit
set_option linter.unusedVariables false
set_option maxRecDepth 100000
theorem QlN:∀ {l:List Tw},(∀ t∈l,t.fitT)→QbW l
 | [],h=>trivial
 | t::l,h=>⟨h t List.mem_cons_self,QlN fun x hx=>h x (List.mem_cons_of_mem _ hx)⟩
theorem QlO:∀ {l:List Tw},QbW l→∀ t∈l,t.fitT
 | u::l,h,t,ht=>by
  rcases List.mem_cons.1 ht with rfl | ht
  · exact h.1
  · exact QlO h.2 t ht
theorem Qo1 (K:List Kap) (t:Tw):expT K t=match expL K t.kids with
  | .error e=>.error e
  | .ok m=>if t.kind=14 then kapE K t.name m else .ok (.mk t.kind t.name t.neg t.digits m):=by cases t; rw [expT]; rfl
noncomputable def expS (K:List Kap) (l:List Tw) (i:Nat):List Tw:=(l.take i).map fun x=>valE Sh.tm.nil (expT K x)
theorem QqU (K:List Kap) (l:List Tw):expS K l 0=[]:=by rw [expS,List.take_zero]; rfl
theorem Qo2 {K:List Kap} {l:List Tw} {i:Nat} (h:i<l.length):expS K l (i+1)=expS K l i++[valE Sh.tm.nil (expT K (l.getD i Sh.tm.nil))]:=by
 rw [expS,List.take_add_one,List.getElem?_eq_getElem h,List.map_append,List.getD_eq_getElem?_getD,List.getElem?_eq_getElem h]; rfl
theorem QlR {K:List Kap} {l:List Tw} {i:Nat}:(expS K l i).length≤l.length:=by
 rw [expS,List.length_map,List.length_take]; omega
theorem Qo3 {K:List Kap}:∀ {l:List Tw},(∀ i,i<l.length→okE (expT K (l.getD i Sh.tm.nil))=true)→expL K l=.ok (expS K l l.length)
 | [],_=>rfl
 | t::l,h=>by
  have h0:okE (expT K t)=true:=h 0 (by simp)
  have h1:=Qo3 (K:=K) (l:=l) fun i hi=>h (i+1) (by simpa using hi)
  rw [expL,Qck (d:=Sh.tm.nil) h0]
  dsimp only
  rw [h1]
  rfl
theorem QlS {K:List Kap}:∀ {l:List Tw} {i:Nat},i<l.length→(∀ j,j<i→okE (expT K (l.getD j Sh.tm.nil))=true)→okE (expT K (l.getD i Sh.tm.nil))=false→expL K l=.error (errE (expT K (l.getD i Sh.tm.nil)))
 | t::l,0,_,_,h=>by
  rw [expL]
  show (match expT K t with | .error e=>_ | .ok u=>_)=_
  rw [Qen (e:=expT K t) h]; rfl
 | t::l,i+1,hi,hk,h=>by
  have h0:okE (expT K t)=true:=hk 0 (by omega)
  have h1:=QlS (K:=K) (l:=l) (i:=i) (by simpa using hi) (fun j hj=>hk (j+1) (by omega)) h
  rw [expL,Qck (d:=Sh.tm.nil) h0]
  dsimp only
  rw [h1]
  rfl
theorem QoZ {K:List Kap} {t:Tw} {i:Nat} (hi:i<t.kids.length) (hk:∀ j,j<i→okE (expT K (t.kids.getD j Sh.tm.nil))=true) (h:okE (expT K (t.kids.getD i Sh.tm.nil))=false):expT K t=.error (errE (expT K (t.kids.getD i Sh.tm.nil))):=by
 rw [Qo1,QlS hi hk h]
theorem Qke {K:List Kap} {t:Tw} (hk:∀ j,j<t.kids.length→okE (expT K (t.kids.getD j Sh.tm.nil))=true):expT K t=if t.kind=14 then kapE K t.name (expS K t.kids t.kids.length) else .ok (.mk t.kind t.name t.neg t.digits (expS K t.kids t.kids.length)):=by
 rw [Qo1,Qo3 hk]
theorem QqE {K:List Kap} {n:ByteArray} {l:List Tw} {u:Tw} (h:kapE K n l=.ok u) (hl:∀ x∈l,x.fitT) (hK:fitK K):u.fitT∧u.size≤20000:=by
 unfold kapE at h
 split at h
 · cases h
 · rename_i x hx
   have hm:=hK x (List.mem_of_find?_eq_some hx)
   split at h
   · cases h
   · split at h
     · cases h
     · unfold QaC at h
       split at h
       · rename_i hs
         cases h
         exact ⟨Qii hl _ hm.2,hs⟩
       · cases h
mutual
theorem QhD {K:List Kap} (hK:fitK K):∀ {t u:Tw},expT K t=.ok u→t.fitT→u.fitT∧u.size≤20000 * t.size
 | .mk k n b d l,u,h,hf=>by
  rw [expT] at h
  split at h
  · cases h
  · rename_i m hm
    obtain ⟨h1,h2,h3⟩:=QlQ hK hm hf.2.2.2
    have hsz:(Tw.mk k n b d l).size=szL l+1:=rfl
    split at h
    · obtain ⟨h4,h5⟩:=QqE h (QlO h1) hK
      exact ⟨h4,by omega⟩
    · cases h
      refine ⟨⟨hf.1,hf.2.1,by rw [h3]; exact hf.2.2.1,h1⟩,?_⟩
      show szL m+1≤_
      omega
theorem QlQ {K:List Kap} (hK:fitK K):∀ {l m:List Tw},expL K l=.ok m→QbW l→QbW m∧szL m≤20000 * szL l∧m.length=l.length
 | [],m,h,_=>by rw [expL] at h; cases h; exact ⟨trivial,by simp [szL],rfl⟩
 | t::l,m,h,hf=>by
  rw [expL] at h
  split at h
  · cases h
  · rename_i u hu
    split at h
    · cases h
    · rename_i m' hm
      cases h
      obtain ⟨h1,h2⟩:=QhD hK hu hf.1
      obtain ⟨h3,h4,h5⟩:=QlQ hK hm hf.2
      refine ⟨⟨h1,h3⟩,?_,by rw [List.length_cons,List.length_cons,h5]⟩
      rw [szL,szL]
      omega
end
theorem QqV {K:List Kap} (hK:fitK K) {l:List Tw} {i:Nat} (hk:∀ j,j<i→okE (expT K (l.getD j Sh.tm.nil))=true) (hi:i≤l.length) (hf:QbW l):QbW (expS K l i):=by
 refine QlN fun x hx=>?_
 rw [expS] at hx
 obtain ⟨y,hy,rfl⟩:=List.mem_map.1 hx
 obtain ⟨j,hj,rfl⟩:=List.getElem_of_mem hy
 rw [List.length_take] at hj
 have h1:=hk j (by omega)
 have e:l.getD j Sh.tm.nil=l[j]'(by omega):=by rw [List.getD_eq_getElem?_getD,List.getElem?_eq_getElem (by omega)]; rfl
 rw [List.getElem_take,← e]
 exact (QhD hK (Qck h1) (QaR Sh.tm.nil hf (by omega))).1
noncomputable def sExpN (N:Nat):Spec2
 | [.bp 0 0,x],[.cells [.f (.dt .kap K)]]=>match tmOf x with
  | some t=>some (.need (t.size<N∧t.fitT∧fitK K) (outE Sh.tm.nil tmP (expT K t) [.cells [.f (.dt .kap K)]]))
  | none=>none
 | _,_=>none
set_option maxHeartbeats 8000000 in
theorem cExpN {E:Env} (hU:Up E):∀ N,Contract2 Tryz.prog E 174 (sExpN N)
 | 0=>by
  intro xs ob o hs hok
  unfold sExpN at hs
  split at hs
  · split at hs
    · cases hs
      exact absurd hok.1.1 (Nat.not_lt_zero _)
    · cases hs
  · cases hs
 | N+1=>by
  refine contract2 [(212,Qiv)] [(222,QsL),(174,sExpN N)] Tryz.ntmps174 Tryz.func174 (by kernel_rfl) (by kernel_rfl) hU ⟨Qpx hU,trivial⟩ ⟨cKapE hU,cExpN hU N,trivial⟩ ?_
  intro xs ob o hs hok
  unfold sExpN at hs
  split at hs
  · rename_i x K
    split at hs
    · rename_i t ht
      cases hs
      obtain ⟨⟨hN,hft,hK⟩,-⟩:=hok
      have f2:=(Tw.fitT_eq t).1 hft
      refine ⟨[.bp 0 0,tmP t],[(3,.s ⟨Nat,fun i=>⟨[(0,.bp 0 0),(3,.bp 1 0),(4,.bp 2 0),(5,.bp 3 0),(11,.f (.dt .tm t.kids)),(12,iV t.kids.length),(13,iV i)],[.cells [.f (.dt .kap K)],.cells (Qae (tmC t)),.cells Qrp,.cells [.f (.v (.int .u8 t.kind)),.f (.v (.string t.name)),.f (.v (.bool t.neg)),.f (.lr t.digits t.digits.length),.tl 4 (.dt .tm (expS K t.kids i))],.tail 28 5]⟩,fun i=>i≤t.kids.length∧∀ j,j<i→okE (expT K (t.kids.getD j Sh.tm.nil))=true,fun i=>t.kids.length - i⟩)],.cons (.refl _) (.cons (QaG ht) .nil),rfl,fun _ hsh=>?_⟩
      have h0:=hft
      refine Qab (p:=let A3:=fun (z2:Nat)=>(etaT (t.kids.getD (↑z2:Int).toNat Sh.tm.nil)); let A4:=Out.need (t.size<N+1∧t.fitT∧fitK K) (outE Sh.tm.nil tmP (expT K t) [PO.cells [dP Sh.kap K]]); let A5:=Lf.lr t.digits t.digits.length; let A6:=fun (z2:Nat)=>(expS K t.kids z2); let A7:=rfB (uV t.kind)∧rfB (sV t.name)∧rfB (bV t.neg)∧rfB (PV.f A5)∧rfB (dP Sh.tm t.kids)∧True; let A8:=rfB (uV 0)∧rfB (sV (ByteArray.mk #[]))∧rfB (bV false)∧rfB (nlP)∧rfB (nlP)∧True; let A1:=fun (z3:Except Int Sh.tm.T) (z2:Nat)=>(EndU 1 A4.fin false (PV.ifc 36 (iV (errE z3))) [PO.cells [dP Sh.kap K],PO.cells (Qae (tmC t)),PO.cells zTP,PO.cells [uV t.kind,sV t.name,bV t.neg,PV.f A5,PV.tl 4 (Lf.dt Sh.tm (A6 z2))],PO.tail 28 5,PO.cells (Qae (tmC (t.kids.getD (↑z2:Int).toNat Sh.tm.nil)))]); let A2:=fun (z2:Nat) (z3:Except Int Sh.tm.T) (x4:Nat)=>(((rfB (dP Sh.kap K)∧True)∧A7∧A8∧(rfB (uV t.kind)∧rfB (sV t.name)∧rfB (bV t.neg)∧rfB (PV.f A5)∧SubB (PV.tl 4 (Lf.dt Sh.tm (expS K t.kids z2++[etaT (valE Sh.tm.nil z3)]))) (PV.tl 4 (Lf.dt Sh.tm (expS K t.kids x4)))∧True)∧True)∧rfB (PV.bp 0 0)∧rfB (PV.bp 1 0)∧rfB (PV.bp 2 0)∧rfB (PV.bp 3 0)∧rfB (dP Sh.tm t.kids)∧rfB (iV (↑t.kids.length:Int))∧SubB (iV (IntKind.i64.wrap ((↑z2:Int)+(1:Int)))) (iV (↑x4:Int))∧True); let A0:=fun (z2:Nat) (z3:Except Int Sh.tm.T)=>(SameL [PV.any,PV.any,PV.bp 3 4] [PV.any,PV.any,PV.bp 3 4]∧SameL [PV.any,PV.any,PV.bp 3 4] [PV.any,PV.any,PV.bp 3 4]∧((A6 z2).length+1≤9223372036854775807∧((A6 z2).length+1) * 80≤140737488355328)∧SameL [PV.any,PV.any,PV.bp 3 4] [PV.any,PV.any,PV.bp 3 4]∧SameL [PV.any,PV.any,PV.any] [PV.any,PV.any,PV.any]∧∃ (x4:Nat),(A2 z2 z3 x4)∧(x4≤t.kids.length∧∀ (j:Nat),j<x4→okE (expT K (t.kids.getD j Sh.tm.nil))=true)∧True∧(t.kids.length - x4).succ.le (t.kids.length - z2)); (etaT t).fitT∧∃ (x1:Nat),(((rfB (dP Sh.kap K)∧True)∧A7∧A8∧(SubB (uV ((etaT t).kind)) (uV t.kind)∧SubB (sV ((etaT t).name)) (sV t.name)∧SubB (bV ((etaT t).neg)) (bV t.neg)∧SubB (PV.f (Lf.lr (etaT t).digits (etaT t).digits.length)) (PV.f A5)∧Qbg (PV.tl 4 (Lf.dt Sh.tm (expS K t.kids x1)))∧True)∧True)∧rfB (PV.bp 0 0)∧rfB (PV.bp 1 0)∧rfB (PV.bp 2 0)∧rfB (PV.bp 3 0)∧rfB (dP Sh.tm t.kids)∧rfB (iV (↑t.kids.length:Int))∧SubB (iV 0) (iV (↑x1:Int))∧True)∧(x1≤t.kids.length∧∀ (j:Nat),j<x1→okE (expT K (t.kids.getD j Sh.tm.nil))=true)∧True∧∀ (z2:Nat),(z2≤t.kids.length∧∀ (j:Nat),j<z2→okE (expT K (t.kids.getD j Sh.tm.nil))=true)→True→ifB (decide ((↑z2:Int)<(↑t.kids.length:Int))) (((0:Int)≤(↑z2:Int)∧(↑z2:Int)<(↑t.kids.length:Int))∧SameL [PV.bp 3 4,PV.bp 0 0,PV.bp 3 4] [PV.bp 3 4,PV.bp 0 0,PV.bp 3 4]∧(SameL [PV.any,PV.bp 0 0,PV.bp 3 4] [PV.any,PV.bp 0 0,PV.bp 3 4]∧SameL [PV.any,PV.bp 0 0,PV.bp 3 4] [PV.any,PV.bp 0 0,PV.bp 3 4]∧((A3 z2).size<N∧(A3 z2).fitT∧fitK K)∧∀ (z3:Except Int Sh.tm.T),z3=expT K (A3 z2)→ifB (okE z3) (A0 z2 z3) (A1 z3 z2))∧SameL [PV.bp 3 4,PV.bp 0 0,PV.bp 3 4] [PV.bp 3 4,PV.bp 0 0,PV.bp 3 4]∧(SameL [PV.any,PV.bp 0 0,PV.bp 3 4] [PV.any,PV.bp 0 0,PV.bp 3 4]∧((A3 z2).size<N∧(A3 z2).fitT∧fitK K)∧∀ (z3:Except Int Sh.tm.T),z3=expT K (A3 z2)→ifB (okE z3) (A0 z2 z3) (A1 z3 z2))∧((A3 z2).size<N∧(A3 z2).fitT∧fitK K)∧∀ (z3:Except Int Sh.tm.T),z3=expT K (A3 z2)→ifB (okE z3) (SameL [PV.bp 3 4,PV.any,PV.bp 3 4] [PV.bp 3 4,PV.any,PV.bp 3 4]∧(A0 z2 z3)∧SameL [PV.bp 3 4,PV.any,PV.bp 3 4] [PV.bp 3 4,PV.any,PV.bp 3 4]∧SameL [PV.any,PV.any,PV.bp 3 4] [PV.any,PV.any,PV.bp 3 4]∧((A6 z2).length+1≤9223372036854775807∧((A6 z2).length+1) * 80≤140737488355328)∧SameL [PV.any,PV.any,PV.bp 3 4] [PV.any,PV.any,PV.bp 3 4]∧SameL [PV.any,PV.any,PV.any] [PV.any,PV.any,PV.any]∧∃ (x4:Nat),(A2 z2 z3 x4)∧(x4≤t.kids.length∧∀ (j:Nat),j<x4→okE (expT K (t.kids.getD j Sh.tm.nil))=true)∧True∧(t.kids.length - x4).succ.le (t.kids.length - z2)) (A1 z3 z2)) (ifB (t.kind==(14:Int)) (((Tw.mk t.kind t.name t.neg t.digits (A6 z2)).fitT∧fitK K)∧∀ (z3:Except Int Sh.tm.T),z3=kapE K (Tw.mk t.kind t.name t.neg t.digits (A6 z2)).name (Tw.mk t.kind t.name t.neg t.digits (A6 z2)).kids→ifB (okE z3) (EndU 1 A4.fin true (PV.agg (Qae (tmC (valE Sh.tm.nil z3)))) [PO.cells [dP Sh.kap K],PO.cells (Qae (tmC t)),PO.cells (Qae (tmC (valE Sh.tm.nil z3))),PO.cells [uV t.kind,sV t.name,bV t.neg,PV.f A5,PV.tl 4 (Lf.dt Sh.tm (A6 z2))],PO.tail 28 5]) (EndU 1 A4.fin false (PV.ifc 36 (iV (errE z3))) [PO.cells [dP Sh.kap K],PO.cells (Qae (tmC t)),PO.cells zTP,PO.cells [uV t.kind,sV t.name,bV t.neg,PV.f A5,PV.tl 4 (Lf.dt Sh.tm (A6 z2))],PO.tail 28 5])) (EndU 1 A4.fin true (PV.agg [uV t.kind,sV t.name,bV t.neg,PV.f A5,dP Sh.tm (A6 z2)]) [PO.cells [dP Sh.kap K],PO.cells (Qae (tmC t)),PO.cells [uV t.kind,sV t.name,bV t.neg,PV.f A5,PV.tl 4 (Lf.dt Sh.tm (A6 z2))],PO.cells [uV t.kind,sV t.name,bV t.neg,PV.f A5,PV.tl 4 (Lf.dt Sh.tm (A6 z2))],PO.tail 28 5]))) ?kr ?_
      case kr=>kernel_rfl
      conv=>zeta
      refine ⟨?s0,⟨?x0,⟨?s1,⟨?s2,⟨trivial,fun z2=>fun hq0=>fun _=>Qaa.2 ⟨fun hb1=>⟨?s3,⟨⟨rfl⟩,⟨⟨⟨rfl⟩,⟨⟨rfl⟩,⟨?s4,fun z3=>fun hz3=>Qaa.2 ⟨fun hb2=>⟨⟨rfl⟩,⟨⟨rfl⟩,⟨?s5,⟨⟨rfl⟩,⟨⟨rfl⟩,⟨?x1,⟨⟨⟨⟨.refl _,trivial⟩,⟨⟨.refl _,⟨.refl _,⟨.refl _,⟨.refl _,⟨.refl _,trivial⟩⟩⟩⟩⟩,⟨⟨.refl _,⟨.refl _,⟨.refl _,⟨.refl _,⟨.refl _,trivial⟩⟩⟩⟩⟩,⟨⟨.refl _,⟨.refl _,⟨.refl _,⟨.refl _,⟨?m0,trivial⟩⟩⟩⟩⟩,trivial⟩⟩⟩⟩,⟨.refl _,⟨.refl _,⟨.refl _,⟨.refl _,⟨.refl _,⟨.refl _,⟨?m1,trivial⟩⟩⟩⟩⟩⟩⟩⟩,⟨?s6,⟨trivial,?m2⟩⟩⟩⟩⟩⟩⟩⟩⟩,fun hb2=>?m3⟩⟩⟩⟩,⟨⟨rfl⟩,⟨⟨⟨rfl⟩,⟨?s7,fun z3=>fun hz3=>Qaa.2 ⟨fun hb3=>⟨⟨rfl⟩,⟨⟨rfl⟩,⟨?s8,⟨⟨rfl⟩,⟨⟨rfl⟩,⟨?x2,⟨⟨⟨⟨.refl _,trivial⟩,⟨⟨.refl _,⟨.refl _,⟨.refl _,⟨.refl _,⟨.refl _,trivial⟩⟩⟩⟩⟩,⟨⟨.refl _,⟨.refl _,⟨.refl _,⟨.refl _,⟨.refl _,trivial⟩⟩⟩⟩⟩,⟨⟨.refl _,⟨.refl _,⟨.refl _,⟨.refl _,⟨?m4,trivial⟩⟩⟩⟩⟩,trivial⟩⟩⟩⟩,⟨.refl _,⟨.refl _,⟨.refl _,⟨.refl _,⟨.refl _,⟨.refl _,⟨?m5,trivial⟩⟩⟩⟩⟩⟩⟩⟩,⟨?s9,⟨trivial,?m6⟩⟩⟩⟩⟩⟩⟩⟩⟩,fun hb3=>?m7⟩⟩⟩,⟨?s10,fun z3=>fun hz3=>Qaa.2 ⟨fun hb4=>⟨⟨rfl⟩,⟨⟨⟨rfl⟩,⟨⟨rfl⟩,⟨?s11,⟨⟨rfl⟩,⟨⟨rfl⟩,⟨?x3,⟨⟨⟨⟨.refl _,trivial⟩,⟨⟨.refl _,⟨.refl _,⟨.refl _,⟨.refl _,⟨.refl _,trivial⟩⟩⟩⟩⟩,⟨⟨.refl _,⟨.refl _,⟨.refl _,⟨.refl _,⟨.refl _,trivial⟩⟩⟩⟩⟩,⟨⟨.refl _,⟨.refl _,⟨.refl _,⟨.refl _,⟨?m8,trivial⟩⟩⟩⟩⟩,trivial⟩⟩⟩⟩,⟨.refl _,⟨.refl _,⟨.refl _,⟨.refl _,⟨.refl _,⟨.refl _,⟨?m9,trivial⟩⟩⟩⟩⟩⟩⟩⟩,⟨?s12,⟨trivial,?m10⟩⟩⟩⟩⟩⟩⟩⟩⟩,⟨⟨rfl⟩,⟨⟨rfl⟩,⟨?s13,⟨⟨rfl⟩,⟨⟨rfl⟩,⟨?x4,⟨⟨⟨⟨.refl _,trivial⟩,⟨⟨.refl _,⟨.refl _,⟨.refl _,⟨.refl _,⟨.refl _,trivial⟩⟩⟩⟩⟩,⟨⟨.refl _,⟨.refl _,⟨.refl _,⟨.refl _,⟨.refl _,trivial⟩⟩⟩⟩⟩,⟨⟨.refl _,⟨.refl _,⟨.refl _,⟨.refl _,⟨?m11,trivial⟩⟩⟩⟩⟩,trivial⟩⟩⟩⟩,⟨.refl _,⟨.refl _,⟨.refl _,⟨.refl _,⟨.refl _,⟨.refl _,⟨?m12,trivial⟩⟩⟩⟩⟩⟩⟩⟩,⟨?s14,⟨trivial,?m13⟩⟩⟩⟩⟩⟩⟩⟩⟩⟩⟩,fun hb4=>?m14⟩⟩⟩⟩⟩⟩⟩,fun hb1=>Qaa.2 ⟨fun hb5=>⟨?s15,fun z3=>fun hz3=>Qaa.2 ⟨fun hb6=>?m15,fun hb6=>?m16⟩⟩,fun hb5=>?m17⟩⟩⟩⟩⟩⟩⟩
      all_goals try simp only [etaT] at *
      case x0=>exact 0
      case x1=>exact z2+1
      case x2=>exact z2+1
      case x3=>exact z2+1
      case x4=>exact z2+1
      all_goals try simp only [Tw.eta,decide_eq_true_eq,decide_eq_false_iff_not,Int.toNat_natCast,Int.ofNat_lt,beq_iff_eq,beq_eq_false_iff_ne,ne_eq] at *
      all_goals have hsz:t.size=szL t.kids+1:=t.size_eq
      case s0=>exact hft
      case s1=>rw [QqU]; repeat' first | exact SubB.refl _ | exact trivial | exact rfl | refine And.intro ?_ ?_
      case s2=>exact ⟨Nat.zero_le _,fun j hj=>absurd hj (Nat.not_lt_zero j)⟩
      case s15=>exact ⟨⟨f2.1,f2.2.1,Nat.le_trans QlR f2.2.2.1,QqV hK hq0.2 hq0.1 f2.2.2.2⟩,hK⟩
      case m15 =>
       obtain rfl:z2=t.kids.length:=by omega
       have hx:=Qke hq0.2
       rw [if_pos hb5] at hx
       have hz:z3=expT K t:=hz3.trans hx.symm
       rw [hz] at hb6 ⊢
       exact QfO hb6 rfl rfl rfl rfl
      case m16 =>
       obtain rfl:z2=t.kids.length:=by omega
       have hx:=Qke hq0.2
       rw [if_pos hb5] at hx
       have hz:z3=expT K t:=hz3.trans hx.symm
       rw [hz] at hb6 ⊢
       exact Qcu hb6 rfl rfl rfl
      case m17 =>
       obtain rfl:z2=t.kids.length:=by omega
       have hx:=Qke hq0.2
       rw [if_neg hb5] at hx
       exact QfO (by rw [hx]; rfl) (by rw [hx]; rfl) rfl rfl rfl
      all_goals have hz:z2<t.kids.length:=by omega
      all_goals have hsa:=QkU hz
      all_goals have hel:=QlR (K:=K) (l:=t.kids) (i:=z2)
      all_goals have hkl:=f2.2.2.1
      all_goals first
       | omega
       | exact ⟨by omega,QaR _ f2.2.2.2 hz,hK⟩
       | exact Qad (by rw [wJ _ (by omega) (by omega)]; rfl)
       | exact (by omega:t.kids.length - (z2+1)<t.kids.length - z2)
       | exact Qa4 (by rw [Qo2 hz,hz3])
       | exact ⟨by omega,fun j hj=>(by
         by_cases hjz:j=z2
         · rw [hjz,← hz3]; assumption
         · exact hq0.2 j (by omega))⟩
       | (subst hz3; exact Qcu (by rw [QoZ hz hq0.2 (by assumption)]; rfl) (by rw [QoZ hz hq0.2 (by assumption)]; rfl) rfl rfl)
    · cases hs
  · cases hs
end Go.Proofs.YtijfaigpilfpaaaGreatDoor
namespace Go.Proofs.YtijfaigpilfpaaaGreatDoor
open Go.RowKit
set_option linter.unusedVariables false
set_option maxRecDepth 100000
noncomputable def sExpO:Spec2
 | [.bp 0 0,x],[.cells [.f (.dt .kap K)]]=>match tmOf x with
  | some t=>some (.need (t.fitT∧fitK K) (outE Sh.tm.nil tmP (expT K t) [.cells [.f (.dt .kap K)]]))
  | none=>none
 | _,_=>none
theorem cExpO {E:Env} (hU:Up E):Contract2 Tryz.prog E 174 sExpO:=by
 intro xs ob o hs hok
 unfold sExpO at hs
 split at hs
 · rename_i x K
   split at hs
   · rename_i t ht
     cases hs
     refine cExpN hU (t.size+1) [.bp 0 0,x] [.cells [.f (.dt .kap K)]] (.need (t.size<t.size+1∧t.fitT∧fitK K) (outE Sh.tm.nil tmP (expT K t) [.cells [.f (.dt .kap K)]])) ?_ ⟨⟨Nat.lt_succ_self _,hok.1⟩,hok.2⟩
     simp only [sExpN,ht]
   · cases hs
 · cases hs
theorem Qo5 {K:List Kap} {t:Tw} (h:okE (expT K t)=true) (hs:(valE Sh.tm.nil (expT K t)).size≤20000):expE K t=.ok (valE Sh.tm.nil (expT K t)):=by
 unfold expE
 rw [Qck (d:=Sh.tm.nil) h]
 exact if_pos hs
theorem QlT {K:List Kap} {t:Tw} (h:okE (expT K t)=true) (hs:¬ (valE Sh.tm.nil (expT K t)).size≤20000):expE K t=.error 34:=by
 unfold expE
 rw [Qck (d:=Sh.tm.nil) h]
 exact if_neg hs
theorem Qo6 {K:List Kap} {t:Tw} (h:okE (expT K t)=false):expE K t=.error (errE (expT K t)):=by
 unfold expE
 rw [Qen (e:=expT K t) h]; rfl
noncomputable def sExp1:Spec2
 | [.bp 0 0,.bp 1 0],[.cells [.bp 2 0],.cells [.f (.v (.int .u8 k)),.f (.v (.string n)),.f (.v (.bool b)),.f (.lr d m),.f (.dt .tm l)],.cells [.f (.dt .kap K)]] =>
  some (.need ((Tw.mk k n b d l).fitT∧fitK K∧(Tw.mk k n b d l).size≤100000000) (outE Sh.tm.nil tmP (expE K (.mk k n b d l)) [.cells [.bp 2 0],.cells [.f (.v (.int .u8 k)),.f (.v (.string n)),.f (.v (.bool b)),.f (.lr d m),.f (.dt .tm l)],.cells [.f (.dt .kap K)]]))
 | _,_=>none
theorem cExp1 {E:Env} (hU:Up E):Contract2 Tryz.prog E 173 sExp1:=by
 refine contract2 [(176,QsC)] [(174,sExpO),(175,Qhc)] Tryz.ntmps173 Tryz.func173 (by kernel_rfl) (by kernel_rfl) hU ⟨cSize hU,trivial⟩ ⟨cExpO hU,Qku hU,trivial⟩ ?_
 intro xs ob o hs hok
 unfold sExp1 at hs
 split at hs
 · rename_i k n b d m l K
   cases hs
   obtain ⟨⟨hft,hK,hsz⟩,-⟩:=hok
   refine ⟨[.bp 0 0,.bp 1 0],[],.cons (.refl _) (.cons (.refl _) .nil),rfl,fun _ hsh=>?_⟩
   have h0:=hft
   refine Qab (p:=((Tw.mk k n b d l).fitT∧fitK K)∧∀ (z1:Except Int Sh.tm.T),z1=expT K (Tw.mk k n b d l)→ifB (okE z1) (szL [etaT (valE Sh.tm.nil z1)]≤4611686018427387904∧ifB (decide ((↑(szL [etaT (valE Sh.tm.nil z1)]):Int)≤(20000:Int))) (EndU 3 (Out.need ((Tw.mk k n b d l).fitT∧fitK K∧(Tw.mk k n b d l).size≤100000000) (outE Sh.tm.nil tmP (expE K (Tw.mk k n b d l)) [PO.cells [PV.bp 2 0],PO.cells [uV k,sV n,bV b,PV.f (Lf.lr d m),dP Sh.tm l],PO.cells [dP Sh.kap K]])).fin true (PV.agg (Qae (tmC (valE Sh.tm.nil z1)))) [PO.cells [PV.bp 2 0],PO.cells [uV k,sV n,bV b,PV.f (Lf.lr d m),dP Sh.tm l],PO.cells [dP Sh.kap K],PO.cells (Qae (tmC (valE Sh.tm.nil z1))),PO.cells (Qae (tmC (valE Sh.tm.nil z1)))]) (EndU 3 (Out.need ((Tw.mk k n b d l).fitT∧fitK K∧(Tw.mk k n b d l).size≤100000000) (outE Sh.tm.nil tmP (expE K (Tw.mk k n b d l)) [PO.cells [PV.bp 2 0],PO.cells [uV k,sV n,bV b,PV.f (Lf.lr d m),dP Sh.tm l],PO.cells [dP Sh.kap K]])).fin false (PV.ifc 36 (iV 34)) [PO.cells [PV.bp 2 0],PO.cells [uV k,sV n,bV b,PV.f (Lf.lr d m),dP Sh.tm l],PO.cells [dP Sh.kap K],PO.cells zTP,PO.cells (Qae (tmC (valE Sh.tm.nil z1)))])) (EndU 3 (Out.need ((Tw.mk k n b d l).fitT∧fitK K∧(Tw.mk k n b d l).size≤100000000) (outE Sh.tm.nil tmP (expE K (Tw.mk k n b d l)) [PO.cells [PV.bp 2 0],PO.cells [uV k,sV n,bV b,PV.f (Lf.lr d m),dP Sh.tm l],PO.cells [dP Sh.kap K]])).fin false (PV.ifc 36 (iV (errE z1))) [PO.cells [PV.bp 2 0],PO.cells [uV k,sV n,bV b,PV.f (Lf.lr d m),dP Sh.tm l],PO.cells [dP Sh.kap K],PO.cells zTP])) ?kr ?_
   case kr=>kernel_rfl
   refine ⟨?s0,fun z1=>fun hz1=>Qaa.2 ⟨fun hb0=>⟨?s1,Qaa.2 ⟨fun hb1=>?m0,fun hb1=>?m1⟩⟩,fun hb0=>?m2⟩⟩
   all_goals try simp only [etaT] at *
   all_goals try simp only [Tw.eta,decide_eq_true_eq,decide_eq_false_iff_not,szL,Nat.add_zero] at *
   case s0=>exact ⟨hft,hK⟩
   case m2=>subst hz1; exact Qcu (by rw [Qo6 hb0]; rfl) (by rw [Qo6 hb0]; rfl) rfl rfl
   all_goals subst hz1
   all_goals have h9:=(QhD hK (Qck (d:=Sh.tm.nil) hb0) hft).2
   case s1=>omega
   case m0 =>
    have h8:(valE Sh.tm.nil (expT K (Tw.mk k n b d l))).size≤20000:=by omega
    exact QfO (by rw [Qo5 hb0 h8]; rfl) (by rw [Qo5 hb0 h8]; rfl) rfl rfl rfl
   case m1 =>
    have h8:¬ (valE Sh.tm.nil (expT K (Tw.mk k n b d l))).size≤20000:=by omega
    exact Qcu (by rw [QlT hb0 h8]; rfl) (by rw [QlT hb0 h8]; rfl) rfl rfl
 · cases hs
noncomputable def sTriedX:Spec2
 | [.fn 173 [] [.bp 0 0,.bp 1 0]],[.cells [.bp 2 0],.cells [.f (.v (.int .u8 k)),.f (.v (.string n)),.f (.v (.bool b)),.f (.lr d m),.f (.dt .tm l)],.cells [.f (.dt .kap K)]] =>
  some (.need ((Tw.mk k n b d l).fitT∧fitK K∧(Tw.mk k n b d l).size≤100000000) (.nm (Except Int Tw) (expE K (.mk k n b d l)) fun z=>.ret (.tup [tmP (valE Sh.tm.nil z),iV (errE z)]) [.cells [.bp 2 0],.cells [.f (.v (.int .u8 k)),.f (.v (.string n)),.f (.v (.bool b)),.f (.lr d m),.f (.dt .tm l)],.cells [.f (.dt .kap K)]]))
 | _,_=>none
theorem QtF {E:Env} (hU:Up E):Contract2 Tryz.prog E 157 sTriedX:=by
 refine QbY (cf:=210) [] [(173,sExp1)] Tryz.ntmps157 Tryz.func157 rfl (by kernel_rfl) hU trivial ⟨cExp1 hU,trivial⟩ rfl rfl rfl rfl rfl rfl Tryz.ntmps210 Tryz.func210 rfl rfl rfl rfl rfl rfl rfl (by kernel_rfl) (by kernel_rfl) (by kernel_rfl) ?_
 intro xs ob o hs hok
 unfold sTriedX at hs
 split at hs
 · rename_i k n b d m l K
   cases hs
   obtain ⟨⟨hft,hK,hsz⟩,-⟩:=hok
   refine ⟨[.fn 173 [] [.bp 0 0,.bp 1 0]],.cons (.refl _) .nil,rfl,?_⟩
   have h0:=hft
   refine Qab (p:=((Tw.mk k n b d l).fitT∧fitK K∧(Tw.mk k n b d l).size≤100000000)∧∀ (z1:Except Int Sh.tm.T),z1=expE K (Tw.mk k n b d l)→ifB (okE z1) (EndU 3 (Out.need ((Tw.mk k n b d l).fitT∧fitK K∧(Tw.mk k n b d l).size≤100000000) (Out.nm (Except Int Tw) (expE K (Tw.mk k n b d l)) fun (z:Except Int Tw)=>Out.ret (PV.tup [tmP (valE Sh.tm.nil z),iV (errE z)]) [PO.cells [PV.bp 2 0],PO.cells [uV k,sV n,bV b,PV.f (Lf.lr d m),dP Sh.tm l],PO.cells [dP Sh.kap K]])).fin true (PV.tup [PV.agg (Qae (tmC (valE Sh.tm.nil z1))),iV 0]) [PO.cells [PV.bp 2 0],PO.cells [uV k,sV n,bV b,PV.f (Lf.lr d m),dP Sh.tm l],PO.cells [dP Sh.kap K],PO.cells (Qae (tmC (valE Sh.tm.nil z1))),PO.cells [iV 0]]) (EndU 3 (Out.need ((Tw.mk k n b d l).fitT∧fitK K∧(Tw.mk k n b d l).size≤100000000) (Out.nm (Except Int Tw) (expE K (Tw.mk k n b d l)) fun (z:Except Int Tw)=>Out.ret (PV.tup [tmP (valE Sh.tm.nil z),iV (errE z)]) [PO.cells [PV.bp 2 0],PO.cells [uV k,sV n,bV b,PV.f (Lf.lr d m),dP Sh.tm l],PO.cells [dP Sh.kap K]])).fin true (PV.tup [PV.agg zTP,iV (errE z1)]) [PO.cells [PV.bp 2 0],PO.cells [uV k,sV n,bV b,PV.f (Lf.lr d m),dP Sh.tm l],PO.cells [dP Sh.kap K],PO.cells zTP,PO.cells [iV (errE z1)],PO.cells zTP])) ?kr ?_
   case kr=>kernel_rfl
   refine ⟨?s0,fun z1=>fun hz1=>Qaa.2 ⟨fun hb0=>?m0,fun hb0=>?m1⟩⟩
   case s0=>exact ⟨hft,hK,hsz⟩
   case m0 =>
    cases z1 with
    | error e=>cases hb0
    | ok u=>exact endR hz1 (.refl (.tup [tmP u,iV 0])) rfl rfl rfl
   case m1 =>
    cases z1 with
    | ok u=>cases hb0
    | error e=>exact endR hz1 (Qsi (.cons (QaG (t:=Sh.tm.nil) rfl) (.cons (.refl _) .nil))) rfl rfl rfl
 · cases hs
noncomputable def sExpand:Spec
 | [.f a,x]=>match dtOf .kap a,tmOf x with
  | some K,some t=>some (some (t.fitT∧fitK K∧t.size≤100000000),.nm (Except Int Tw) (expE K t) fun z=>.tup [tmP (valE Sh.tm.nil z),iV (errE z)])
  | _,_=>none
 | _=>none
theorem QtR {E:Env} (hU:Up E):Contract Tryz.prog E 117 sExpand:=by
 refine Qac [] [(157,sTriedX)] Tryz.ntmps117 Tryz.func117 (by kernel_rfl) (by kernel_rfl) hU trivial ⟨QtF hU,trivial⟩ ?_
 intro xs p r hs hp
 unfold sExpand at hs
 split at hs
 · rename_i a x
   split at hs
   · rename_i K t ha ht
     cases hs
     obtain ⟨hft,hK,hsz⟩:=hp _ rfl
     refine ⟨[.f (.dt .kap K),tmP t],[],.cons (Qa9 ha).sub (.cons (QaG ht).sub .nil),rfl,fun _ hsh=>?_⟩
     have h0:=hft
     refine Qab (p:=((etaT t).fitT∧fitK K∧(etaT t).size≤100000000)∧∀ (z1:Except Int Tw),z1=expE K (etaT t)→true=true∧Sub (PV.tup [PV.agg (Qae (tmC (valE Sh.tm.nil z1))),iV (errE z1)]) (PV.tup [PV.agg (Qae (tmC (valE Sh.tm.nil (expE K t)))),iV (errE (expE K t))])) ?kr ?_
     case kr=>kernel_rfl
     refine ⟨?s0,fun z1=>fun hz1=>⟨rfl,?m0⟩⟩
     all_goals try simp only [etaT] at *
     all_goals try simp only [Tw.eta] at *
     case s0=>exact ⟨hft,hK,hsz⟩
     case m0=>subst hz1; exact .refl _
   · cases hs
 · cases hs
end Go.Proofs.YtijfaigpilfpaaaGreatDoor
namespace Go.Proofs.YtijfaigpilfpaaaGreatDoor
open Go.RowKit
set_option linter.unusedVariables false
set_option maxRecDepth 100000
theorem Qte {K:List Kap} {n:ByteArray} {l:List Tw} {e:Int} (h:kapE K n l=.error e):e≠0:=by
 unfold kapE at h
 split at h
 · cases h; decide
 · split at h
   · cases h; decide
   · split at h
     · cases h; decide
     · unfold QaC at h
       split at h
       · cases h
       · cases h; decide
mutual
theorem Qo0 {K:List Kap}:∀ {t:Tw} {e:Int},expT K t=.error e→e≠0
 | .mk k n b d l,e,h=>by
  rw [expT] at h
  split at h
  · rename_i e' he
    cases h
    exact Qo4 he
  · split at h
    · exact Qte h
    · cases h
theorem Qo4 {K:List Kap}:∀ {l:List Tw} {e:Int},expL K l=.error e→e≠0
 | [],e,h=>by rw [expL] at h; cases h
 | t::l,e,h=>by
  rw [expL] at h
  split at h
  · rename_i e' he
    cases h
    exact Qo0 he
  · split at h
    · rename_i e' he
      cases h
      exact Qo4 he
    · cases h
end
theorem Qtm {K:List Kap} {t:Tw} {e:Int} (h:expE K t=.error e):e≠0:=by
 unfold expE at h
 split at h
 · rename_i e' he
   cases h
   exact Qo0 he
 · split at h
   · cases h
   · cases h; decide
theorem QqW {K:List Kap} (hK:fitK K) {t u:Tw} (h:expE K t=.ok u) (hf:t.fitT):u.fitT∧u.size≤20000:=by
 unfold expE at h
 split at h
 · cases h
 · rename_i u' hu
   split at h
   · rename_i hs
     cases h
     exact ⟨(QhD hK hu hf).1,hs⟩
   · cases h
theorem QhE {α:Type} (d:α) {z:Except Int α} (hne:∀ e,z=.error e→e≠0) (h:errE z=0):z=.ok (valE d z):=by
 cases z with
 | ok x=>rfl
 | error e=>exact absurd h (hne e rfl)
theorem errN {α:Type} {z:Except Int α} (h:¬ errE z=0):z=.error (errE z):=by
 cases z with
 | ok x=>exact absurd rfl h
 | error e=>rfl
section
variable {D : List Dat} {K : List Kap} {S : List Srt} {y : Yw}
theorem Qn8 (h:QbR D y.sort=false):QaF D K S y=23:=by unfold QaF; exact if_pos h
theorem Qn7 (h:QbR D y.sort=true) {e:Int} (he:expE K y.ref=.error e):QaF D K S y=e:=by
 unfold QaF
 rw [if_neg (by rw [h]; decide),he]
theorem Qn6 (h:QbR D y.sort=true) {t:Tw} (he:expE K y.ref=.ok t) {e:Int} (hs:QaK D (S++[⟨nV,y.sort⟩]) t=.error e):QaF D K S y=e:=by
 unfold QaF
 rw [if_neg (by rw [h]; decide),he]
 dsimp only
 rw [hs]
theorem Qiy (h:QbR D y.sort=true) {t:Tw} (he:expE K y.ref=.ok t) {s:ByteArray} (hs:QaK D (S++[⟨nV,y.sort⟩]) t=.ok s):QaF D K S y=if s=Qd4 then 0 else 23:=by
 unfold QaF
 rw [if_neg (by rw [h]; decide),he]
 dsimp only
 rw [hs]
end
def Qha:Spec
 | [x]=>match kwOf x with
  | some w=>some (some (w.y.fit∧fitK w.K∧w.y.ref.size≤100000000∧w.S.length≤100000000),.nm Int (QaF w.D w.K w.S w.y) iV)
  | none=>none
 | _=>none
set_option maxHeartbeats 4000000 in
theorem Qre {E:Env} (hU:Up E):Contract Tryz.prog E 153 Qha:=by
 refine Qac [(205,QnT),(117,sExpand),(155,Qg7),(206,QsB)] [] Tryz.ntmps153 Tryz.func153 (by kernel_rfl) (by kernel_rfl) hU ⟨cSortK hU,QtR hU,Qpr hU,cSort hU,trivial⟩ trivial ?_
 intro xs p r hs hp
 unfold Qha at hs
 split at hs
 · rename_i x
   split at hs
   · rename_i w hw
     cases hs
     obtain ⟨hf,hK,hz,hS⟩:=hp _ rfl
     have f2:=(Yw.fit_eq w.y).1 hf
     refine ⟨[kwP w],[],.cons (QiL hw).sub .nil,rfl,fun _ hsh=>?_⟩
     have h0:=hS
     refine Qab (p:=∀ (z1:Bool),z1=QbR w.D (Yw.mk w.y.fn w.y.sort (etaT w.y.ref) w.y.params w.y.result).sort→ifB (!z1) (true=true∧Sub (iV 23) (iV (QaF w.D w.K w.S w.y))) (((etaT w.y.ref).fitT∧fitK w.K∧(etaT w.y.ref).size≤100000000)∧∀ (z2:Except Int Tw),z2=expE w.K (etaT w.y.ref)→ifB (errE z2 != (0:Int)) (true=true∧Sub (iV (errE z2)) (iV (QaF w.D w.K w.S w.y))) ((w.S.length≤100000000∧1≤100000000)∧(etaT (valE Sh.tm.nil z2)).fitT∧∀ (z3:Except Int ByteArray),z3=QaK w.D (w.S++[Srt.mk (ByteArray.mk #[(118:UInt8)]) w.y.sort]) (etaT (valE Sh.tm.nil z2))→ifB (errE z3==(0:Int)) (ifB (!(valE (ByteArray.mk #[]) z3).toList==(ByteArray.mk #[(98:UInt8),(111:UInt8),(111:UInt8),(108:UInt8)]).toList) (true=true∧Sub (iV 23) (iV (QaF w.D w.K w.S w.y))) (true=true∧Sub (iV (errE z3)) (iV (QaF w.D w.K w.S w.y)))) (true=true∧Sub (iV (errE z3)) (iV (QaF w.D w.K w.S w.y)))))) ?kr ?_
     case kr=>kernel_rfl
     refine fun z1=>fun hz1=>Qaa.2 ⟨fun hb0=>⟨rfl,?m0⟩,fun hb0=>⟨?s0,fun z2=>fun hz2=>Qaa.2 ⟨fun hb1=>⟨rfl,?m1⟩,fun hb1=>⟨?s1,⟨?s2,fun z3=>fun hz3=>Qaa.2 ⟨fun hb2=>Qaa.2 ⟨fun hb3=>⟨rfl,?m2⟩,fun hb3=>⟨rfl,?m3⟩⟩,fun hb2=>⟨rfl,?m4⟩⟩⟩⟩⟩⟩⟩
     all_goals try simp only [etaT] at *
     all_goals try simp only [Tw.eta,Yw.eta,bs_l,Bool.not_eq_true',Bool.not_eq_false',bne_iff_ne,ne_eq,bne_eq_false_iff_eq,beq_iff_eq,beq_eq_false_iff_ne,decide_eq_true_eq,decide_eq_false_iff_not] at *
     all_goals subst hz1
     case s0=>exact ⟨f2.1.2.1,hK,hz⟩
     case s1=>omega
     case m0=>exact (Qad (Qn8 hb0).symm).sub
     all_goals subst hz2
     case m1=>exact (Qad (Qn7 hb0 (errN hb1)).symm).sub
     all_goals have h1:=QhE Sh.tm.nil (fun e=>Qtm) hb1
     case s2=>exact (QqW hK h1 f2.1.2.1).1
     all_goals subst hz3
     case m2 =>
      have h2:=QhE ⟨#[]⟩ (fun e=>Qfg) hb2
      exact (Qad ((Qiy hb0 h1 h2).trans (if_neg hb3)).symm).sub
     case m3 =>
      have h2:=QhE ⟨#[]⟩ (fun e=>Qfg) hb2
      rw [hb2]
      exact (Qad ((Qiy hb0 h1 h2).trans (if_pos hb3)).symm).sub
     case m4=>exact (Qad (Qn6 hb0 h1 (errN hb2)).symm).sub
   · cases hs
 · cases hs
end Go.Proofs.YtijfaigpilfpaaaGreatDoor
