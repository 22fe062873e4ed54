/- The pure run's states stand for what is there: stores, appends, maps, calls that are handed objects. -/
import Derived.Test.YtmbmbcamecfnkaaGreatDoorVa
namespace Go.Proofs.YtmbmbcamecfnkaaGreatDoor
open Go.RowKit
set_option linter.unusedVariables false
theorem QaC (e d:Nat) (x:PV) (l:List (Nat × PV)):look ((e,x)::l) d=if e=d then some x else look l d:=by
 show (match Nat.beq e d with | true=>some x | false=>look l d)=_
 by_cases h:e=d
 · subst h
   rw [if_pos rfl,show Nat.beq e e=true from by simp]
 · rw [if_neg h]
   have:Nat.beq e d=false:=by
    cases hb:Nat.beq e d with
    | false=>rfl
    | true=>exact absurd (Nat.eq_of_beq_eq_true hb) h
   rw [this]
structure Real (w0:Cx) (H0:Hp) (m:Nat) (s:PS) (g:Gh) (a:Act) (w:World):Prop where
 ext:ExtK w0 H0 w g.H
 obs:Obs w0.K s.ob g w
 full:∀ o,o<s.ob.length→∃ u,g.B o=some u
 env:∀ d x,look s.env d=some x→PR g.H g.B (a.tmps.getD d undef) x
 sz:a.tmps.size=m
 dfr:a.defers=w0.D
 ptr:∀ o p,FixB w0.B o p→g.B o=some p
section
variable {P : Program} {w0 : Cx} {H0 : Hp} {m : Nat} {s : PS} {g : Gh} {a : Act} {w : World} {Q : Exit → Act → World → Prop}
theorem Real.lo (h:Real w0 H0 m s g a w):∀ b,w0.K b→b<w.heap.size:=h.ext.kept
theorem Real.put {dst:Option Nat} {u:Value} {y:PV} (h:Real w0 H0 m s g a w) (hd:QdB m dst=true) (hu:PR g.H g.B u y):Real w0 H0 m (s.put dst y) g (a.put dst u) w:=by
 cases dst with
 | none=>exact h
 | some d =>
  have hd':d<m:=by simpa [QdB] using hd
  refine ⟨h.ext,h.obs,h.full,fun e x hx=>?_,by simp [Act.put,h.sz],h.dfr,h.ptr⟩
  rw [QaO]
  unfold PS.put at hx
  dsimp only at hx
  rw [QaC] at hx
  by_cases he:d=e
  · rw [if_pos he] at hx
    cases hx
    rw [if_pos ⟨he.symm,by rw [h.sz]; exact hd'⟩]; exact hu
  · rw [if_neg he] at hx
    rw [if_neg (fun hc=>he hc.1.symm)]; exact h.env e x hx
theorem Real.look {d:Nat} {b:Bool} (h:Real w0 H0 m s g a w) (hv:a.tmps.getD d undef=.bool b):Real w0 H0 m (QcG s d b) g a w:=by
 refine ⟨h.ext,h.obs,h.full,fun e x hx=>?_,h.sz,h.dfr,h.ptr⟩
 unfold QcG PS.put at hx
 dsimp only at hx
 rw [QaC] at hx
 by_cases he:d=e
 · rw [if_pos he] at hx
   cases hx
   subst he
   rw [hv]; exact .f (.v _ rfl)
 · rw [if_neg he] at hx; exact h.env e x hx
theorem Real.ev (h:Real w0 H0 m s g a w) (x:Operand) (y:PV) (hx:s.ev x=some y):PR g.H g.B (a.eval x) y:=by
 cases x with
 | tmp d=>exact h.env d y hx
 | const v=>exact Qf6 hx
 | func f=>cases hx; exact .f (.v _ rfl)
 | global k=>cases hx; exact .f (.v _ rfl)
theorem Obs.push {lo:Nat→Prop} {ob:List PO} (h:Obs lo ob g w) (l:List PO):Obs lo (ob++l) g w :=
 ⟨h.fro,h.lt,fun o x u hx hu=>h.hold o x u (by rw [List.getElem?_append_left (h.dom o u hu)] at hx; exact hx) hu,h.apart,fun o u hu=>by have:=h.dom o u hu; simp; omega,h.kept⟩
def obL:Option PO→List PO
 | some z=>[z]
 | none=>[]
theorem Qc7 (s:PS) (nob:Option PO):(Qko s nob).ob=s.ob++obL nob:=by cases nob <;> simp [Qko,obL]
theorem Qe3 (s:PS) (nob:Option PO):(Qko s nob).env=s.env:=by cases nob <;> rfl
theorem Qrm {E:Env} {Γ:Specs} (hΓ:Sound P E Γ) (hU:Up E) (hE:E w0.K w0.w H0) (h:Real w0 H0 m s g a w) {o:Oper} {q:Option Prop} {y:Rs} {nob:Option PO} (ho:opv P Γ s o.dst o.op=some (q,y,nob)) (hq:∀ p,q=some p→p) (hd:QdB m o.dst=true)
  {K:Act→World→Prop} (hK:∀ g' a' w',Real w0 H0 m ((Qko s nob).put o.dst y.out) g' a' w'→K a' w'):o.wp P a w K Q:=by
 refine QeE (ob:=s.ob++obL nob) hΓ hU (hU.go _ _ _ _ h.ext hE) ho hq (fun i x hx=>?_) (h.obs.push _) h.lo (fun x _ y hx=>h.ev x y hx) (fun z hz=>?_) K ?_
 · rw [List.getElem?_append_left (List.getElem?_eq_some_iff.1 hx).1]; exact hx
 · subst hz
   refine ⟨by simp [obL],?_⟩
   cases hb:g.B s.ob.length with
   | none=>rfl
   | some u=>have:=h.obs.dom _ u hb; omega
 · intro w' u g' h1 h2 h3 h4 h5 h6
   refine hK g' _ w' (Real.put ⟨h.ext.trans h2,by rw [Qc7]; exact h1,fun o ho=>?_,fun d x hx=>?_,h.sz,h.dfr,fun o p hp=>h3 _ _ (h.ptr o p hp)⟩ hd h6)
   · rw [Qc7] at ho
     by_cases ho':o<s.ob.length
     · obtain ⟨u,hu⟩:=h.full o ho'
       exact ⟨u,h3 _ _ hu⟩
     · cases nob with
       | none=>simp [obL] at ho; omega
       | some z =>
        simp [obL] at ho
        obtain rfl:o=s.ob.length:=by omega
        exact h5 z rfl
   · rw [Qe3] at hx
     exact (h.env d x hx).mono h2.le h3
theorem Qjr {b:Nat}:∀ (us:List Value) (w:World) (vs:List Value) (off:Nat),Box w b vs→Box (w.setCells b off us) b (putV vs off us)
 | [],w,vs,off,h=>h
 | u::us,w,vs,off,h=>Qjr us _ _ (off+1) (h.put vs off u rfl)
theorem QcF {b:Nat}:∀ (us:List Value) (w:World) (off k:Nat),k≠b→(w.setCells b off us).heap[k]?=w.heap[k]?
 | [],w,off,k,h=>rfl
 | u::us,w,off,k,h=>(QcF us _ (off+1) k h).trans (Qep w b off u k h)
theorem Qdm {b:Nat}:∀ (us:List Value) (w:World) (off:Nat),(w.setCells b off us).heap.size=w.heap.size
 | [],w,off=>rfl
 | u::us,w,off=>(Qdm us _ (off+1)).trans (Qad w _ u)
theorem QdP {b:Nat}:∀ (us:List Value) (w:World) (off:Nat),w.grownBy (w.setCells b off us) (some b)
 | [],w,off=>⟨rfl,rfl,rfl,Nat.le_refl _,fun _ _ _=>rfl⟩
 | u::us,w,off=>by
  have h:=QdP (b:=b) us (w.setCell ⟨b,off,none⟩ u) (off+1)
  have h0:Below 0 w (w.setCell ⟨b,off,none⟩ u):=(Below.refl 0 w).setCell (Nat.zero_le _) u
  refine ⟨h.os.trans h0.os,h.tape.trans h0.tape,h.output.trans h0.output,Nat.le_trans h0.size h.size,fun k hk hne=>(h.block k (Nat.lt_of_lt_of_le hk h0.size) hne).trans (Qep w b off u k (fun hc=>hne (by rw [hc])))⟩
theorem QjG {H:Hp} {B:Hd} {vs:List Value} {l:List PV} (h:PRs H B vs l) (hl:∀ x∈l,Qsy x=true):∀ v∈vs,v.oneCell'=true:=by
 intro v hv
 obtain ⟨i,hi,rfl⟩:=List.getElem_of_mem hv
 have hx:l[i]?=some (l[i]'(by rw [← h.1]; exact hi)):=List.getElem?_eq_getElem _
 have hr:=h.2 i _ _ (List.getElem?_eq_getElem hi) hx
 have:=hl _ (List.getElem_mem (by rw [← h.1]; exact hi))
 generalize l[i]'(by rw [← h.1]; exact hi)=x at hr this
 generalize vs[i]=u at hr
 cases hr with
 | f h=>exact PR.one (H:=H) (B:=B) (.f h)
 | bp h=>rfl
 | ep=>rfl
 | tl h=>exact PR.one (H:=H) (B:=B) (.f h)
 | wr hb h1=>exact h1
 | wp=>cases this
 | any=>cases this
 | agg=>cases this
 | tup=>cases this
 | fn=>rfl
 | ifc=>rfl
theorem Qed {lo:Nat} {e:TypeId} {k b n cap:Nat} {u8:Bool}:∀ (us:List Value) (w:World) (vs:List Value) (off:Nat),Qcg w lo e k (.slice (some ⟨b,0,none⟩) n cap) n vs u8→Qcg (w.setCells b off us) lo e k (.slice (some ⟨b,0,none⟩) n cap) n (putV vs off us) u8
 | [],w,vs,off,h=>h
 | v::us,w,vs,off,h=>Qed us (w.setCell ⟨b,off,none⟩ v) (vs.set off v) (off+1) (h.stored off v).1
theorem Qpw:∀ (us:List Value) (vs:List Value) (off j:Nat),off+us.length≤vs.length→(putV vs off us)[j]?=if off≤j∧j<off+us.length then us[j - off]? else vs[j]?
 | [],vs,off,j,h=>by
  rw [if_neg (by simp only [List.length_nil]; omega)]; rfl
 | v::us,vs,off,j,h=>by
  simp only [List.length_cons] at h ⊢
  show (putV (vs.set off v) (off+1) us)[j]?=_
  rw [Qpw us (vs.set off v) (off+1) j (by rw [List.length_set]; omega)]
  by_cases hj:j=off
  · subst hj
    rw [if_neg (by omega),if_pos (by omega),Nat.sub_self,List.getElem?_set,if_pos rfl,if_pos (by omega)]; rfl
  · by_cases h2:off+1≤j∧j<off+1+us.length
    · rw [if_pos h2,if_pos (by omega),show j - off=(j - (off+1))+1 by omega,List.getElem?_cons_succ]
    · rw [if_neg h2,if_neg (by omega),List.getElem?_set,if_neg (by omega)]
theorem Qny (h:Real w0 H0 m s g a w) {t:TypeId} {x y:PV} {u v:Value} {s':PS} (hx:PR g.H g.B u x) (hy:PR g.H g.B v y) (hs:Qo0 P s t x y=some s') :
  ∃ w',(Instr.storeAt t u v).run P w=.ok () w'∧Real w0 H0 m s' g a w':=by
 unfold Qo0 at hs
 split at hs
 · rename_i o off
   split at hs
   · rename_i l n hl hn
     rw [Qap] at hl
     split at hs
     · rename_i hlen
       have hlen:=Nat.eq_of_beq_eq_true hlen
       split at hs
       · rename_i hok
         simp only [Bool.and_eq_true,List.all_eq_true] at hok
         obtain ⟨hle,hc,hall⟩:=hok
         have hle:=Nat.le_of_ble_eq_true hle
         cases hs
         cases hx with
         | @bp _ _ b hb =>
          obtain ⟨vs,h1,h2,h3,h4⟩:=h.obs.cell hl hb
          have h5:=hy.cells hc
          have hvl:v.cells.toList.length=n:=by rw [h5.1,hlen]
          have h6:=run_storeCells_cells (P:=P) b off v.cells.toList 0 w (fun j hj=>by
           rw [Nat.add_zero,h1.cells (off+j) (by rw [h2.1]; omega)]; rfl) (fun j hj=>h1.free _) (QjG h5 hall)
          rw [Nat.add_zero] at h6
          refine ⟨_,by simp only [Instr.storeAt,Instr.sureAddr,storeVar,Sem.run_bind,Sem.run_pure,Result.andThen_ok,QaL hn]; rw [if_neg (by simpa using hvl)]; exact h6,?_⟩
          have hne:∀ o' u',o'≠o→g.B o'=some u'→blk u'≠some b:=fun o' u' hne hu' hbk=>h.obs.apart o o' _ u' b (fun h=>hne h.symm) hb hu' rfl hbk
          have hfro:Fro g.H (w.setCells b off v.cells.toList):=by
           intro k j z hz
           have hk:k≠b:=by rintro rfl; rw [h4 j] at hz; cases hz
           exact (World.cell?_of_block (a:=⟨k,j,none⟩) (QcF _ w off k hk)).trans (h.obs.fro k j z hz)
          refine ⟨h.ext.grown (QdP _ w off) (fun b' hb'=>by cases hb'; exact h3) h.ext.le hfro h.ext.new,⟨hfro,fun o' u' b' h1' h2'=>by rw [Qdm]; exact h.obs.lt o' u' b' h1' h2',fun o' x' u' hx' hu'=>?_,h.obs.apart,fun o' u' hu'=>by simp only [QaR]; exact h.obs.dom o' u' hu',h.obs.kept⟩,fun o' ho'=>by simp only [QaR] at ho'; exact h.full o' ho',h.env,h.sz,h.dfr,h.ptr⟩
          rw [Qcw,List.getElem?_set] at hx'
          by_cases ho:o=o'
          · subst ho
            rw [if_pos rfl] at hx'
            split at hx'
            · cases hx'
              rw [hb] at hu'
              cases hu'
              obtain ⟨h7,h8⟩:=h2.put off h5
              exact ⟨b,_,rfl,Qjr _ w vs off h1,h7,h8,Nat.zero_le _,h4⟩
            · cases hx'
          · rw [if_neg ho] at hx'
            exact PO.other (h.obs.hold o' x' u' hx' hu') (hne o' u' (fun h=>ho h.symm) hu') (fun k hk=>QcF _ w off k hk) (Qdm _ w off)
       · cases hs
     · cases hs
   · cases hs
 · rename_i o k i
   split at hs
   · rename_i e kd l kd' z hl hn
     rw [Qap] at hl
     split at hs
     · rename_i hk
       rw [Bool.and_eq_true] at hk
       have hk1:=Nat.eq_of_beq_eq_true hk.1
       have hk2:=of_decide_eq_true hk.2
       subst hk1 hk2
       cases hs
       have hv:=hy.val
       subst hv
       cases hx with
       | @wp _ _ _ b n cap hb hi =>
        obtain ⟨k,get,vs,h1,h2,h3,h4⟩:=h.obs.own hl hb
        simp only [Lf.view0,Option.some.injEq,Prod.mk.injEq] at h1
        obtain ⟨rfl,rfl,rfl⟩:=h1
        rw [Nat.mul_one]
        have hlen:vs.length=l.length:=by have:=h2.1; omega
        have hbl:¬ w0.K b∧b<w.heap.size:=⟨h.obs.kept o _ b hb rfl,(h2.lt b rfl).2⟩
        obtain ⟨h5,h6⟩:=h2.stored i (.int kd' z)
        have hcell:=h2.cellAt i (by omega)
        have h7:=run_storeCells_cells (P:=P) b i [.int kd' z] 0 w (fun j hj=>by
         have hj0:j=0:=by simp at hj; omega
         subst hj0
         simp only [Nat.add_zero]
         rw [hcell,List.getElem?_eq_getElem (by omega)]; rfl) (fun j hj=>h2.frozenAt _ (by simp at hj; omega)) (fun v hv=>by rw [List.mem_singleton.1 hv]; rfl)
        rw [Nat.add_zero] at h7
        refine ⟨w.setCell ⟨b,i,none⟩ (.int kd' z),by simp only [Instr.storeAt,Instr.sureAddr,storeVar,Sem.run_bind,Sem.run_pure,Result.andThen_ok,QaL hn]; rw [if_neg (by simp [Value.cells])]; exact h7,?_⟩
        have hne:∀ o' u',o'≠o→g.B o'=some u'→blk u'≠some b:=fun o' u' hne hu' hbk=>h.obs.apart o o' _ u' b (fun h=>hne h.symm) hb hu' rfl hbk
        have hoth:∀ j,j≠b→(w.setCell ⟨b,i,none⟩ (.int kd' z)).heap[j]?=w.heap[j]?:=fun j hj=>Qep w b i _ j hj
        have hfro:Fro g.H (w.setCell ⟨b,i,none⟩ (.int kd' z)):=by
         intro k j y hy
         have hk:k≠b:=by rintro rfl; rw [h4 _ rfl j] at hy; cases hy
         exact (World.cell?_of_block (a:=⟨k,j,none⟩) (hoth k hk)).trans (h.obs.fro k j y hy)
        have hsz':(w.setCell ⟨b,i,none⟩ (.int kd' z)).heap.size=w.heap.size:=Qad w _ _
        refine ⟨h.ext.grown (QdP [.int kd' z] w i) (fun b' hb'=>by cases hb'; exact hbl.1) h.ext.le hfro h.ext.new,⟨hfro,fun o' u' b' h1' h2'=>by rw [hsz']; exact h.obs.lt o' u' b' h1' h2',fun o' x' u' hx' hu'=>?_,h.obs.apart,fun o' u' hu'=>by simp only [QaR]; exact h.obs.dom o' u' hu',h.obs.kept⟩,fun o' ho'=>by simp only [QaR] at ho'; exact h.full o' ho',h.env,h.sz,h.dfr,h.ptr⟩
        rw [Qcw,List.getElem?_set] at hx'
        by_cases ho:o=o'
        · subst ho
          rw [if_pos rfl] at hx'
          split at hx'
          · cases hx'
            rw [hb] at hu'
            cases hu'
            refine ⟨1,l.length,fun q=>[.v (.int kd' ((l.set i z).getD q 0))],vs.set i (.int kd' z),by simp [Lf.view0],h5,fun q hq=>⟨rfl,fun j y hy=>?_⟩,fun b' hb' j=>h4 b' hb' j⟩
            cases j with
            | succ j=>cases hy
            | zero =>
             cases hy
             rw [Nat.mul_one,Nat.add_zero]
             refine ⟨.int kd' ((l.set i z).getD q 0),?_,.v _ rfl⟩
             rw [List.getElem?_set]
             by_cases hqi:i=q
             · subst hqi
               rw [if_pos rfl,if_pos (by omega),List.getD_eq_getElem?_getD,List.getElem?_set,if_pos rfl,if_pos hi]; rfl
             · rw [if_neg hqi,List.getD_eq_getElem?_getD,List.getElem?_set,if_neg hqi]
               obtain ⟨v,q1,q2⟩:=(h3 q hq).2 0 _ rfl
               rw [Nat.mul_one,Nat.add_zero] at q1
               rw [q1,q2.val rfl,List.getD_eq_getElem?_getD]
          · cases hx'
        · rw [if_neg ho] at hx'
          exact PO.other (h.obs.hold o' x' u' hx' hu') (hne o' u' (fun h=>ho h.symm) hu') hoth hsz'
     · cases hs
   · rename_i e sh l n hl hn
     rw [Qap] at hl
     split at hs
     · rename_i L hk hL
       simp only [Bool.and_eq_true] at hk
       have hk1:=Nat.eq_of_beq_eq_true hk.1
       have hk2:=Nat.eq_of_beq_eq_true hk.2.1
       subst hk1 hk2
       split at hs
       · rename_i z hz
         cases hs
         have hsub:=QoF hz
         have hcs:=hy.cells hk.2.2
         obtain ⟨hL1,hL2⟩:=QcX hL
         have hcl:=Sh.cells_len sh z
         have hvl:v.cells.toList.length=sh.k:=by rw [hcs.1,← hL1,hsub.len,hcl]
         have hrd:∀ (j:Nat) (y:Lf),(sh.cells z)[j]?=some y→∃ u,v.cells.toList[j]?=some u∧Rd g.H u y:=by
          intro j y hy
          obtain ⟨x,q1,q2⟩:=hsub.at hy
          obtain ⟨u,q3,q4⟩:=hcs.at (hL2 j x q1)
          exact ⟨u,q3,q2 _ _ q4.rd⟩
         cases hx with
         | @wp _ _ _ b n cap hb hi =>
          obtain ⟨k,get,vs,h1,h2,h3,h4⟩:=h.obs.own hl hb
          simp only [Lf.view0,Option.some.injEq,Prod.mk.injEq] at h1
          obtain ⟨rfl,rfl,rfl⟩:=h1
          have hlt:i * sh.k+sh.k≤l.length * sh.k:=by
           have:=Nat.mul_le_mul_right sh.k (show i+1≤l.length from hi)
           rwa [Nat.succ_mul] at this
          have hlen:vs.length=l.length * sh.k:=h2.1
          have hone:∀ u∈v.cells.toList,u.oneCell'=true:=by
           intro u hu
           obtain ⟨j,hj,rfl⟩:=List.getElem_of_mem hu
           have hy':(sh.cells z)[j]?=some ((sh.cells z)[j]'(by rw [hcl,← hvl]; exact hj)):=List.getElem?_eq_getElem _
           obtain ⟨u',q3,q4⟩:=hrd j _ hy'
           rw [List.getElem?_eq_getElem hj] at q3
           cases q3
           exact PR.one (H:=g.H) (B:=B0) (.f q4)
          have hbl:¬ w0.K b∧b<w.heap.size:=⟨h.obs.kept o _ b hb rfl,(h2.lt b rfl).2⟩
          have h5:=Qed v.cells.toList w vs (i * sh.k) h2
          have h7:=run_storeCells_cells (P:=P) b (i * sh.k) v.cells.toList 0 w (fun j hj=>by
           rw [Nat.add_zero,h2.cellAt _ (by omega),List.getElem?_eq_getElem (by omega)]; rfl) (fun j hj=>h2.frozenAt _ (by rw [hvl] at hj; omega)) hone
          rw [Nat.add_zero] at h7
          refine ⟨_,by simp only [Instr.storeAt,Instr.sureAddr,storeVar,Sem.run_bind,Sem.run_pure,Result.andThen_ok,QaL hn]; rw [if_neg (by simpa using hvl)]; exact h7,?_⟩
          have hne:∀ o' u',o'≠o→g.B o'=some u'→blk u'≠some b:=fun o' u' hne hu' hbk=>h.obs.apart o o' _ u' b (fun h=>hne h.symm) hb hu' rfl hbk
          have hfro:Fro g.H (w.setCells b (i * sh.k) v.cells.toList):=by
           intro k j y hy
           have hk:k≠b:=by rintro rfl; rw [h4 _ rfl j] at hy; cases hy
           exact (World.cell?_of_block (a:=⟨k,j,none⟩) (QcF _ w _ k hk)).trans (h.obs.fro k j y hy)
          refine ⟨h.ext.grown (QdP _ w _) (fun b' hb'=>by cases hb'; exact hbl.1) h.ext.le hfro h.ext.new,⟨hfro,fun o' u' b' h1' h2'=>by rw [Qdm]; exact h.obs.lt o' u' b' h1' h2',fun o' x' u' hx' hu'=>?_,h.obs.apart,fun o' u' hu'=>by simp only [QaR]; exact h.obs.dom o' u' hu',h.obs.kept⟩,fun o' ho'=>by simp only [QaR] at ho'; exact h.full o' ho',h.env,h.sz,h.dfr,h.ptr⟩
          rw [Qcw,List.getElem?_set] at hx'
          by_cases ho:o=o'
          · subst ho
            rw [if_pos rfl] at hx'
            split at hx'
            · cases hx'
              rw [hb] at hu'
              cases hu'
              refine ⟨sh.k,l.length,fun q=>sh.cells ((l.set i z).getD q sh.nil),putV vs (i * sh.k) v.cells.toList,by simp [Lf.view0],h5,fun q hq=>⟨Sh.cells_len _ _,fun j y hy=>?_⟩,fun b' hb' j=>h4 b' hb' j⟩
              have hy:(sh.cells ((l.set i z).getD q sh.nil))[j]?=some y:=hy
              have hj:j<sh.k:=by rw [← Sh.cells_len sh ((l.set i z).getD q sh.nil)]; exact (List.getElem?_eq_some_iff.1 hy).1
              rw [Qpw _ _ _ _ (by omega),hvl]
              by_cases hqi:i=q
              · subst hqi
                rw [if_pos (by omega),Nat.add_sub_cancel_left]
                rw [List.getD_eq_getElem?_getD,List.getElem?_set,if_pos rfl,if_pos hi,Option.getD_some] at hy
                exact hrd j y hy
              · rw [if_neg ?_]
                · rw [List.getD_eq_getElem?_getD,List.getElem?_set,if_neg hqi,← List.getD_eq_getElem?_getD] at hy
                  exact (h3 q hq).2 j y hy
                · intro hc
                  rcases Nat.lt_or_gt_of_ne hqi with h8 | h8
                  · have:=Nat.mul_le_mul_right sh.k (show i+1≤q from h8)
                    rw [Nat.succ_mul] at this; omega
                  · have:=Nat.mul_le_mul_right sh.k (show q+1≤i from h8)
                    rw [Nat.succ_mul] at this; omega
            · cases hx'
          · rw [if_neg ho] at hx'
            exact PO.other (h.obs.hold o' x' u' hx' hu') (hne o' u' (fun h=>ho h.symm) hu') (fun k hk=>QcF _ w _ k hk) (Qdm _ w _)
       · cases hs
     · cases hs
   · cases hs
 · cases hs
theorem Qla {H:Hp} {B:Hd} {kt:Kt} {x:PV} {key:kt.T} {v:Value} (h:keyP kt x=some key) (hv:PR H B v x):v=kt.val key:=by
 unfold keyP at h
 split at h
 · cases h; exact hv.val
 · split at h
   · rename_i hk
     have hk:=of_decide_eq_true hk
     subst hk
     cases h; exact hv.val
   · cases h
 · cases h
theorem Qk8 {P:Program} {k:TypeId} {kt:Kt} (h:ktIs P k kt=true):ktOf P k=some kt:=by
 unfold ktIs at h
 split at h
 · rename_i kt' hk
   rw [hk]
   unfold ktB at h
   split at h
   · rfl
   · rw [of_decide_eq_true h]
   · cases h
 · cases h
theorem Qrw {kt:Kt} {has:kt.T→Bool} {get:kt.T→List Lf} {key:kt.T} {K:Option PV→Prop}:∀ {ks:List kt.T} {vs:List PV},QgV kt has get key ks vs K→K (Qbc kt has get ks vs key):=by
 have base:ifB (has key) (K (some (Qbm (get key)))) (K none)→K (match has key with | true=>some (Qbm (get key)) | false=>none):=by
  intro h
  rcases Qbf h with ⟨h1,h2⟩ | ⟨h1,h2⟩
  · rw [h1]; exact h2
  · rw [h1]; exact h2
 intro ks
 induction ks with
 | nil=>intro vs h; unfold QgV at h; unfold Qbc; exact base h
 | cons k ks ih =>
  intro vs h
  cases vs with
  | nil=>unfold QgV at h; unfold Qbc; exact base h
  | cons v vs =>
   unfold QgV at h
   unfold Qbc
   rcases Qbf h with ⟨h1,h2⟩ | ⟨h1,h2⟩
   · rw [h1]; exact h2
   · rw [h1]; exact ih h2
theorem QqS {P:Program} {e:TypeId} {z:PV} {H:Hp} {B:Hd} {w:World} (h:QqT P e=some z):∃ v,(zeroValue e).run P w=.ok v w∧PR H B v z:=by
 unfold QqT at h
 split at h
 · rename_i cs hz
   split at h
   · rename_i l hl
     cases h
     exact ⟨_,Qey hz,by have:=(Qds (H:=H) (B:=B) hl).agg; simpa using this⟩
   · cases h
 · rename_i z' _ hz
   split at h
   · rename_i h1
     cases h
     exact ⟨_,Qey hz,.f (.v _ h1)⟩
   · cases h
 · cases h
theorem tup2 {H:Hp} {B:Hd} {v u:Value} {x y:PV} (h:PR H B v x) (h':PR H B u y):PR H B (.tuple #[v,u]) (.tup [x,y]):=.tup rfl (fun i a b hv hx=>by
 match i,hv,hx with
 | 0,hv,hx=>simp at hv hx; subst hv hx; exact h
 | 1,hv,hx=>simp at hv hx; subst hv hx; exact h'
 | i+2,hv,hx=>simp at hx)
theorem Qn3 {kd:IntKind} {v:PV} {vs:List PV} {ns:List Int} (h:Qn4 kd (v::vs)=some ns):∃ n ns',ns=n::ns'∧v=.f (.v (.int kd n))∧Qn4 kd vs=some ns':=by
 unfold Qn4 at h
 split at h
 · rename_i heq; cases heq
 · rename_i k n l heq
   cases heq
   split at h
   · rename_i hk
     have hk:=of_decide_eq_true hk
     subst hk
     split at h
     · rename_i m hm
       cases h
       exact ⟨_,_,rfl,rfl,hm⟩
     · cases h
   · cases h
 · cases h
theorem QtW {kt:Kt} {has:kt.T→Bool} {get:kt.T→List Lf} {key:kt.T} {kd:IntKind} {d:Int} {K:Option PV→Prop} {k:PV→Prop} (hh:∀ x,has x=false)
  (h1:∀ n,k (.tup [.f (.v (.int kd n)),.f (.v (.bool true))])→K (some (.f (.v (.int kd n))))) (h2:k (.tup [.f (.v (.int kd d)),.f (.v (.bool false))])→K none) :
  ∀ {ks:List kt.T} {vs:List PV} {ns:List Int},Qn4 kd vs=some ns→k (.tup [.f (.v (.int kd (Qk4 kt key d ks ns).1)),.f (.v (.bool (Qk4 kt key d ks ns).2))])→QgV kt has get key ks vs K:=by
 have base:∀ {ks:List kt.T} {vs:List PV},(ks=[]∨vs=[])→K none→QgV kt has get key ks vs K:=by
  intro ks vs hc hk
  have:ifB (has key) (K (some (Qbm (get key)))) (K none):=by rw [hh]; exact hk
  rcases hc with rfl | rfl
  · unfold QgV; exact this
  · cases ks <;> (unfold QgV; exact this)
 intro ks
 induction ks with
 | nil=>intro vs ns hi hk; exact base (.inl rfl) (h2 (by unfold Qk4 at hk; exact hk))
 | cons a ks ih =>
  intro vs ns hi hk
  cases vs with
  | nil =>
   cases hi
   exact base (.inr rfl) (h2 (by unfold Qk4 at hk; exact hk))
  | cons v vs =>
   obtain ⟨n,ns',rfl,rfl,hi'⟩:=Qn3 hi
   unfold Qk4 at hk
   unfold QgV
   cases hq:kt.eq key a with
   | true=>rw [hq] at hk; exact h1 n hk
   | false=>rw [hq] at hk; exact ih hi' hk
theorem QtX {e:TypeId} {kt:Kt} {has:kt.T→Bool} {get:kt.T→List Lf} {key:kt.T} {ks:List kt.T} {vs:List PV} {c:Bool} {k:PV→Prop} (h:QtY P e kt has get key ks vs c k):QtU P e kt has get key ks vs c k:=by
 unfold QtY at h
 split at h
 · rename_i kd d hz
   split at h
   · rename_i ns hi
     exact QtW h.1 (fun n hn=>hn) (fun hn=>by simp only [hz]; exact hn) hi (h.2 _ rfl)
   · exact h
 · exact h
theorem QnX (h:Real w0 H0 m s g a w) {t:TypeId} {x y:PV} {u kv:Value} {c:Bool} {k:PV→Prop} (hx:PR g.H g.B u x) (hy:PR g.H g.B kv y) (hs:QtV P s t x y c k):∃ v z,(Instr.lookup t u kv c).run P w=.ok v w∧PR g.H g.B v z∧k z:=by
 unfold QtV at hs
 split at hs
 · rename_i o
   split at hs
   · rename_i kt has get ks vs kty e ho hu
     rw [Qap] at ho
     split at hs
     · rename_i key hk hkt
       have hs:=Qrw (QtX hs)
       have hkt:=Qk8 hkt
       have hkv:=Qla hk hy
       subst hkv
       cases hx with
       | wr hb h1 =>
        obtain ⟨b,es,clock,l,rfl,e1,e2,e3,e4,e5⟩:=h.obs.hold o _ u ho hb
        obtain ⟨r1,r2⟩:=QnW (c:=c) hu hkt e1 e2.1 key
        have hor:=e5 key
        cases ha:asc kt l key 0 with
        | none =>
         rw [ha] at hor
         cases hm:Qbc kt has get ks vs key with
         | some q=>rw [hm] at hor; exact hor.elim
         | none =>
          rw [hm] at hs
          dsimp only at hs
          split at hs
          · rename_i z hz
            obtain ⟨zv,h2,h3⟩:=QqS (H:=g.H) (B:=g.B) (w:=w) hz
            refine ⟨_,_,r2 zv ha h2,?_,hs⟩
            cases c with
            | true=>exact tup2 h3 (.f (.v _ rfl))
            | false=>exact h3
          · exact hs.elim
        | some p =>
         obtain ⟨i,v⟩:=p
         rw [ha] at hor
         cases hm:Qbc kt has get ks vs key with
         | none=>rw [hm] at hor; exact hor.elim
         | some q =>
          rw [hm] at hs hor
          have hor:PR g.H g.B v q:=hor
          refine ⟨_,_,r1 i v ha,?_,hs⟩
          cases c with
          | true=>exact tup2 hor (.f (.v _ rfl))
          | false=>exact hor
     · exact hs.elim
   · exact hs.elim
 · exact hs.elim
theorem QgS (h:Real w0 H0 m s g a w) {t:TypeId} {x y z:PV} {u kv v:Value} {s':PS} (hx:PR g.H g.B u x) (hy:PR g.H g.B kv y) (hz:PR g.H g.B v z) (hs:Qmx P s t x y z=some s') :
  ∃ w',(Instr.mapUpdate t u kv v).run P w=.ok () w'∧Real w0 H0 m s' g a w':=by
 unfold Qmx at hs
 split at hs
 · rename_i o
   split at hs
   · rename_i kt has get ks vs kty e ho hu
     rw [Qap] at ho
     split at hs
     · rename_i key hk hkt
       cases hs
       have hkt:=Qk8 hkt
       have hkv:=Qla hk hy
       subst hkv
       cases hx with
       | wr hb h1 =>
        obtain ⟨b,es,clock,l,rfl,e1,e2,e3,e4,e5⟩:=h.obs.hold o _ u ho hb
        obtain ⟨es',clock',l',q1,q2,q3⟩:=Qnp hu hkt e1 e2 key v
        have hsz:(Go.ChangeMaps.setBlock w b (.map es' clock')).heap.size=w.heap.size:=by simp [Go.ChangeMaps.setBlock]
        have hoth:∀ k,k≠b→(Go.ChangeMaps.setBlock w b (.map es' clock')).heap[k]?=w.heap[k]?:=fun k hk=>by
         simp only [Go.ChangeMaps.setBlock]
         exact Array.getElem?_setIfInBounds_ne (fun hc=>hk hc.symm)
        have hblt:=(Array.getElem?_eq_some_iff.1 e1).1
        have hself:(Go.ChangeMaps.setBlock w b (.map es' clock')).heap[b]?=some (.map es' clock'):=by
         simp only [Go.ChangeMaps.setBlock]
         rw [Array.getElem?_setIfInBounds_self_of_lt hblt]
        have hfro:Fro g.H (Go.ChangeMaps.setBlock w b (.map es' clock')):=by
         intro k j y hy
         have hk:k≠b:=by rintro rfl; rw [e4 j] at hy; cases hy
         exact (World.cell?_of_block (a:=⟨k,j,none⟩) (hoth k hk)).trans (h.obs.fro k j y hy)
        have hgr:w.grownBy (Go.ChangeMaps.setBlock w b (.map es' clock')) (some b):=⟨rfl,rfl,rfl,Nat.le_of_eq hsz.symm,fun k _ hne=>hoth k (fun hc=>hne (by rw [hc]))⟩
        have hne:∀ o' u',o'≠o→g.B o'=some u'→blk u'≠some b:=fun o' u' hne hu' hbk=>h.obs.apart o o' _ u' b (fun h=>hne h.symm) hb hu' rfl hbk
        refine ⟨_,q1,h.ext.grown hgr (fun b' hb'=>by cases hb'; exact h.obs.kept o _ b hb rfl) h.ext.le hfro h.ext.new,⟨hfro,fun o' u' b' h1' h2'=>by rw [hsz]; exact h.obs.lt o' u' b' h1' h2',fun o' x' u' hx' hu'=>?_,h.obs.apart,fun o' u' hu'=>by simp only [QaR]; exact h.obs.dom o' u' hu',h.obs.kept⟩,fun o' ho'=>by simp only [QaR] at ho'; exact h.full o' ho',h.env,h.sz,h.dfr,h.ptr⟩
        rw [Qcw,List.getElem?_set] at hx'
        by_cases hoo:o=o'
        · subst hoo
          rw [if_pos rfl] at hx'
          split at hx'
          · cases hx'
            rw [hb] at hu'
            cases hu'
            refine ⟨b,es',clock',l',rfl,hself,q2,Nat.zero_le _,e4,fun k'=>?_⟩
            rw [q3 k']
            unfold Qbc
            cases hc:kt.eq k' key with
            | true=>exact hz
            | false=>exact e5 k'
          · cases hx'
        · rw [if_neg hoo] at hx'
          exact PO.other (h.obs.hold o' x' u' hx' hu') (hne o' u' (fun h=>hoo h.symm) hu') hoth hsz
     · cases hs
   · cases hs
 · cases hs
theorem Qn2 {v:PV} {l:List Lf} (h:QcW v=some l):Qbm l=v:=by
 unfold QcW at h
 split at h
 · cases h; rfl
 · cases h; rfl
 · rename_i x y m
   obtain ⟨h1,h2⟩:=QcX h
   match l,h1 with
   | p::q::r,h1 =>
    show PV.agg (Qda (p::q::r))=_
    congr 1
    apply List.ext_getElem?
    intro i
    have hw:∀ (L:List Lf) (i:Nat),(Qda L)[i]?=(L[i]?).map .f:=by
     intro L
     induction L with
     | nil=>intro i; rfl
     | cons a L ih =>
      intro i
      cases i with
      | zero=>rfl
      | succ i=>exact ih i
    rw [hw]
    cases hi:(p::q::r)[i]? with
    | none =>
     rw [List.getElem?_eq_none (by have:=List.getElem?_eq_none_iff.1 hi; rw [← h1]; exact this)]; rfl
    | some z=>rw [h2 i z hi]; rfl
 · cases h
theorem Qc3 (L:List Lf):QcW (Qbm L)=some L:=by
 match L with
 | []=>rfl
 | [x]=>rfl
 | x::y::l =>
  have key:∀ (L:List Lf),leafs (Qda L)=some L:=by
   intro L
   induction L with
   | nil=>rfl
   | cons a L ih=>show (match leafs (Qda L) with | some m=>some (a::m) | none=>none)=_; rw [ih]
  exact key (x::y::l)
theorem Qfz {kt:Kt} {has:kt.T→Bool} {get:kt.T→List Lf} {k:kt.T} {v:PV}:∀ {ks:List kt.T} {vs:List PV},QeH vs=true→Qbc kt has get ks vs k=some v→(QcW v).isSome=true
 | [],vs,_,h=>by
  unfold Qbc at h
  split at h
  · cases h; rw [Qc3]; rfl
  · cases h
 | k0::ks,[],_,h=>by
  unfold Qbc at h
  split at h
  · cases h; rw [Qc3]; rfl
  · cases h
 | k0::ks,v0::vs,hl,h=>by
  unfold QeH at hl
  rw [Bool.and_eq_true] at hl
  unfold Qbc at h
  split at h
  · cases h; exact hl.1
  · exact Qfz hl.2 h
theorem or_del {H:Hp} {B:Hd} {kt:Kt} {has:kt.T→Bool} {get:kt.T→List Lf} {ks:List kt.T} {vs:List PV} {key k':kt.T} {o:Option Value} (hl:QeH vs=true) (h:OR H B o (Qbc kt has get ks vs k')) :
  OR H B (if kt.eq k' key=true then none else o) (Qbc kt (hasD kt has get ks vs key) (getA kt has get ks vs) [] [] k'):=by
 have e:Qbc kt (hasD kt has get ks vs key) (getA kt has get ks vs) [] [] k'=match hasD kt has get ks vs key k' with | true=>some (Qbm (getA kt has get ks vs k')) | false=>none:=rfl
 rw [e]
 unfold hasD getA
 cases hc:kt.eq k' key with
 | true=>exact trivial
 | false =>
  rw [if_neg (by decide)]
  cases hm:Qbc kt has get ks vs k' with
  | none =>
   rw [hm] at h
   exact h
  | some v =>
   rw [hm] at h
   have h1:=Qfz hl hm
   cases hv:QcW v with
   | none=>rw [hv] at h1; cases h1
   | some l =>
    have e2:=Qn2 hv
    show OR H B o (some (Qbm (match QcW v with | some l=>l | none=>[])))
    rw [hv]
    show OR H B o (some (Qbm l))
    rw [e2]
    exact h
theorem Qk3 (h:Real w0 H0 m s g a w) {t:TypeId} {x y:PV} {u kv:Value} {s':PS} (k0 ty:TypeId) (hx:PR g.H g.B u x) (hy:PR g.H g.B kv y) (hs:QpS P s t x y=some s') :
  ∃ w',(Builtin.delete_ #[t,k0] ty #[u,kv]).run P w=.ok (.tuple #[]) w'∧Real w0 H0 m s' g a w':=by
 unfold QpS at hs
 split at hs
 · rename_i o
   split at hs
   · rename_i kt has get ks vs kty e ho hu
     rw [Qap] at ho
     split at hs
     · rename_i key hk hkt hlv
       cases hs
       have hkt:=Qk8 hkt
       have hkv:=Qla hk hy
       subst hkv
       cases hx with
       | wr hb h1 =>
        obtain ⟨b,es,clock,l,rfl,e1,e2,e3,e4,e5⟩:=h.obs.hold o _ u ho hb
        obtain ⟨es',l',q1,q2,q3⟩:=Qoe hu hkt e1 e2 key k0 ty
        have hsz:(Go.ChangeMaps.setBlock w b (.map es' clock)).heap.size=w.heap.size:=by simp [Go.ChangeMaps.setBlock]
        have hoth:∀ k,k≠b→(Go.ChangeMaps.setBlock w b (.map es' clock)).heap[k]?=w.heap[k]?:=fun k hk=>by
         simp only [Go.ChangeMaps.setBlock]
         exact Array.getElem?_setIfInBounds_ne (fun hc=>hk hc.symm)
        have hblt:=(Array.getElem?_eq_some_iff.1 e1).1
        have hself:(Go.ChangeMaps.setBlock w b (.map es' clock)).heap[b]?=some (.map es' clock):=by
         simp only [Go.ChangeMaps.setBlock]
         rw [Array.getElem?_setIfInBounds_self_of_lt hblt]
        have hfro:Fro g.H (Go.ChangeMaps.setBlock w b (.map es' clock)):=by
         intro k j y hy
         have hk:k≠b:=by rintro rfl; rw [e4 j] at hy; cases hy
         exact (World.cell?_of_block (a:=⟨k,j,none⟩) (hoth k hk)).trans (h.obs.fro k j y hy)
        have hgr:w.grownBy (Go.ChangeMaps.setBlock w b (.map es' clock)) (some b):=⟨rfl,rfl,rfl,Nat.le_of_eq hsz.symm,fun k _ hne=>hoth k (fun hc=>hne (by rw [hc]))⟩
        have hne:∀ o' u',o'≠o→g.B o'=some u'→blk u'≠some b:=fun o' u' hne hu' hbk=>h.obs.apart o o' _ u' b (fun h=>hne h.symm) hb hu' rfl hbk
        refine ⟨_,q1,h.ext.grown hgr (fun b' hb'=>by cases hb'; exact h.obs.kept o _ b hb rfl) h.ext.le hfro h.ext.new,⟨hfro,fun o' u' b' h1' h2'=>by rw [hsz]; exact h.obs.lt o' u' b' h1' h2',fun o' x' u' hx' hu'=>?_,h.obs.apart,fun o' u' hu'=>by simp only [QaR]; exact h.obs.dom o' u' hu',h.obs.kept⟩,fun o' ho'=>by simp only [QaR] at ho'; exact h.full o' ho',h.env,h.sz,h.dfr,h.ptr⟩
        rw [Qcw,List.getElem?_set] at hx'
        by_cases hoo:o=o'
        · subst hoo
          rw [if_pos rfl] at hx'
          split at hx'
          · cases hx'
            rw [hb] at hu'
            cases hu'
            refine ⟨b,es',clock,l',rfl,hself,q2,Nat.zero_le _,e4,fun k'=>?_⟩
            rw [q3 k']
            exact or_del hlv (e5 k')
          · cases hx'
        · rw [if_neg hoo] at hx'
          exact PO.other (h.obs.hold o' x' u' hx' hu') (hne o' u' (fun h=>hoo h.symm) hu') hoth hsz
     · cases hs
   · cases hs
 · cases hs
theorem QiB {q:Option Prop} {k:Prop} (h:need q k):(∀ p,q=some p→p)∧k:=by
 cases q with
 | none=>exact ⟨fun p hp=>(by cases hp),h⟩
 | some p=>exact ⟨fun p' hp=>(by cases hp; exact h.1),h.2⟩
theorem QkV (h:Real w0 H0 m s g a w) {d:Nat} {b:Bool} (hd:look s.env d=some (.f (.v (.bool b)))):a.tmps.getD d undef=.bool b:=(h.env d _ hd).val
theorem Qmc {dst:Option Nat} {d:Nat} {x y:Operand} {ty:TypeId} {pos:String} {af:Array Edge} {gd:Option (Nat × Bool)} {b:Bool} (hd:a.tmps.getD d undef=.bool b) :
  (execOp a.eval (Oper.mk dst (.pick (.tmp d) x y) ty pos af gd)).run P w=.ok (.value (if b then a.eval x else a.eval y)) w:=by
 show (do pure (Next.value (if ← asBool (a.eval (.tmp d)) then a.eval x else a.eval y)):Sem Next).run P w=_
 rw [show a.eval (.tmp d)=.bool b from hd]
 simp [asBool]
end
section
variable {P : Program} {w : World}
theorem QfE (base:Nat) (t ty e:TypeId) (i:TypeInfo) (z:Value) (ht:P.underlying t=some (.slice e)) (hi:P.info? e=some i) (hz:i.zero=some z)
  (hzs:z.cells.size=i.size) (hsz:0<i.size)
  (v:Value) (n:Nat) (xs:List Value) (hown:w.ownsRow base e i.size v n xs)
  (a:Addr) (m c:Nat) (news:List Value) (hl:news.length=m * i.size) (hnews:∀ j u,news[j]?=some u→w.cell? (a.add j)=some u) (h1:∀ u∈news,u.oneCell'=true)
  (h63:n+m≤maxLen) (hbytes:(n+m) * i.bytes≤140737488355328) (hbase:base≤w.heap.size) :
  ∃ v' w',(Builtin.append_ #[t,t] ty #[v,.slice (some a) m c]).run P w=.ok v' w'∧w'.ownsRow base e i.size v' (n+m) (xs++news)∧w.grownBy w' v.ownBlock ∧
   (∀ b,v'.ownBlock=some b→v.ownBlock=some b∨b=w.heap.size)∧(v'.ownBlock=v.ownBlock∨∀ k,k<w.heap.size→w'.heap[k]?=w.heap[k]?):=by
 obtain ⟨v',w',hr,h2,h3,h4⟩:=run_append_own (P:=P) w base t ty e i z i.size i.bytes ht hi hz rfl rfl hzs hsz v n xs hown a m c news hl hnews h1 h63 hbytes hbase
 refine ⟨v',w',hr,h2,h3,?_⟩
 have h63':n+m≤9223372036854775807:=by unfold maxLen at h63; omega
 rcases hown.2 with ⟨rfl,rfl⟩ | ⟨g,cap,cur,rfl,hbg,hg,hnc,hcm,hcs,htake⟩
 · by_cases hm:m=0
   · rw [h4.2 ⟨rfl,hm⟩]; exact ⟨fun b hb=>(by cases hb),.inl rfl⟩
   · have he:=run_append_nil (P:=P) w t ty e i z ht hi hz a m c news hl hnews (by omega) (by omega) (by have hb:=hbytes; simp only [Nat.zero_add] at hb; omega)
     rw [he] at hr
     cases hr
     exact ⟨fun b hb=>(by cases hb; exact .inr rfl),.inr fun k hk=>heap_alloc_old w.drew _ hk⟩
 · by_cases hroom:n+m≤cap
   · have he:=run_append_room (P:=P) w t ty e i ht hi g n cap cur hg a m c news hl hnews h1 hroom (by rw [hl,hcs,← Nat.add_mul]; exact Nat.mul_le_mul_right _ hroom)
     rw [he] at hr
     cases hr
     exact ⟨fun b hb=>.inl hb,.inl rfl⟩
   · have he:=run_append_grow (P:=P) w t ty e i z ht hi hz ⟨g,0,none⟩ n cap xs hown.1 (hown.cells (g:=g) rfl) a m c news hl hnews (by omega) (by omega) (growslice_fits (by omega) hbytes)
     rw [he] at hr
     cases hr
     exact ⟨fun b hb=>(by cases hb; exact .inr rfl),.inr fun k hk=>heap_alloc_old w.drew _ hk⟩
theorem Qhs (base:Nat) (t u ty e:TypeId) (i:TypeInfo) (ht:P.underlying t=some (.slice e)) (hu:P.underlying u=some .string) (hi:P.info? e=some i) (hz:i.zero=some (.int .u8 0)) (hsize:i.size=1) (hby:i.bytes=1)
  (v:Value) (n:Nat) (xs:List Value) (hown:w.ownsRow base e 1 v n xs) (s:ByteArray)
  (h63:n+s.size≤maxLen) (hbytes:n+s.size≤140737488355328) (hbase:base≤w.heap.size) :
  ∃ v' w',(Builtin.append_ #[t,u] ty #[v,.string s]).run P w=.ok v' w'∧w'.ownsRow base e 1 v' (n+s.size) (xs++Lib.strCells s)∧w.grownBy w' v.ownBlock ∧
   (∀ b,v'.ownBlock=some b→v.ownBlock=some b∨b=w.heap.size)∧(v'.ownBlock=v.ownBlock∨∀ k,k<w.heap.size→w'.heap[k]?=w.heap[k]?):=by
 obtain ⟨v',w',hr,h2,h3,h4⟩:=Lib.run_append_own_string (P:=P) w base t u ty e i ht hu hi hz hsize hby v n xs hown s h63 hbytes hbase
 refine ⟨v',w',hr,h2,h3,?_⟩
 have h63':n+s.size≤9223372036854775807:=by unfold maxLen at h63; omega
 rcases hown.2 with ⟨rfl,rfl⟩ | ⟨g,cap,cur,rfl,hbg,hg,hnc,hcm,hcs,htake⟩
 · by_cases hm:s.size=0
   · rw [h4.2 ⟨rfl,hm⟩]; exact ⟨fun b hb=>(by cases hb),.inl rfl⟩
   · have he:=run_append_nil_string (P:=P) w t u ty e i (.int .u8 0) ht hu hi hz s (by omega) (by omega) (by rw [hby]; omega)
     rw [he] at hr
     cases hr
     exact ⟨fun b hb=>(by cases hb; exact .inr rfl),.inr fun k hk=>heap_alloc_old w.drew _ hk⟩
 · by_cases hroom:n+s.size≤cap
   · have he:=Lib.run_append_room_string (P:=P) w t u ty e i ht hu hi hsize g n cap cur hg s hroom (by omega)
     rw [he] at hr
     cases hr
     exact ⟨fun b hb=>.inl hb,.inl rfl⟩
   · have he:=Lib.run_append_grow_string (P:=P) w t u ty e i (.int .u8 0) ht hu hi hz ⟨g,0,none⟩ n cap xs (by rw [hsize]; simpa using hown.1) (by have:=hown.cells (g:=g) rfl; exact this) s (by omega) (by omega) (by rw [hby]; exact growslice_fits (by omega) (by omega))
     rw [he] at hr
     cases hr
     exact ⟨fun b hb=>(by cases hb; exact .inr rfl),.inr fun k hk=>heap_alloc_old w.drew _ hk⟩
theorem Qjn {k:Nat} {e:TypeId} {H:Hp} {B:Hd} {v:Value} {n:Nat} {olds:List Value} (hfro:Fro H w) (ht':PO.holds w H B 0 v (.tail e k)) (hol:olds.length=n * k) (hv:(v=.slice none 0 0∧n=0)∨∃ b cap,v=.slice (some ⟨b,0,none⟩) n cap∧∀ j,j<n * k→H b j=olds[j]?):w.ownsRow 0 e k v n olds:=by
 refine ⟨hol,?_⟩
 rcases hv with h | ⟨b,cap,rfl,hc⟩
 · exact .inl h
 · rcases ht' with h | ⟨g,n',cap',cur,he,g1,g2,g3,g4,g5,g6⟩
   · cases h
   · cases he
     refine .inr ⟨b,cap,cur,rfl,g1,g2,g3,g4,g5,?_⟩
     apply List.ext_getElem?
     intro j
     rw [List.getElem?_take]
     split
     · rename_i hj
       have h2:=hc j hj
       cases ho:olds[j]? with
       | none=>rw [List.getElem?_eq_none_iff] at ho; omega
       | some u =>
        rw [ho] at h2
        have h3:=hfro b j u h2
        rw [cell_of_row w b j cur e (0,0) g2] at h3
        simpa using h3
     · rw [List.getElem?_eq_none (by omega)]
theorem Qkm {w0:Cx} {H0 H:Hp} {B:Hd} (X:Sem Value) (e:TypeId) (i:TypeInfo) (hx:ExtK w0 H0 w H)
  (v:Value) (n:Nat) (olds:List Value) (hkv:∀ b,v.ownBlock=some b→¬ w0.K b) (ht':PO.holds w H B 0 v (.tail e i.size)) (hol:olds.length=n * i.size) (hv:(v=.slice none 0 0∧n=0)∨∃ b cap,v=.slice (some ⟨b,0,none⟩) n cap∧∀ j,j<n * i.size→H b j=olds[j]?)
  (m:Nat) (news:List Value) (hl:news.length=m * i.size)
  (hab:w.ownsRow 0 e i.size v n olds→∃ v' w',X.run P w=.ok v' w'∧w'.ownsRow 0 e i.size v' (n+m) (olds++news)∧w.grownBy w' v.ownBlock ∧
   (∀ b,v'.ownBlock=some b→v.ownBlock=some b∨b=w.heap.size)∧(v'.ownBlock=v.ownBlock∨∀ k,k<w.heap.size→w'.heap[k]?=w.heap[k]?)) :
  ∃ v' w' H',X.run P w=.ok v' w'∧ExtK w0 H0 w' H'∧w.grownBy w' v.ownBlock∧H.le H'∧(∀ b j,v'.ownBlock≠some b→H' b j=H b j) ∧
   (∀ b,v'.ownBlock=some b→v.ownBlock=some b∨w.heap.size≤b)∧PO.holds w' H' B 0 v' (.tail e i.size) ∧
   ((v'=.slice none 0 0∧n+m=0)∨∃ b cap,v'=.slice (some ⟨b,0,none⟩) (n+m) cap∧∀ j,j<(n+m) * i.size→H' b j=(olds++news)[j]?):=by
 have hown:w.ownsRow 0 e i.size v n olds:=Qjn hx.fro ht' hol hv
 obtain ⟨v',w',hr,h2,h3,h4,h6⟩:=hab hown
 have hall:(olds++news).length=(n+m) * i.size:=by rw [List.length_append,hol,hl,Nat.add_mul]
 have hHn:∀ b j,v'.ownBlock=some b→n * i.size≤j→H b j=none:=by
  intro b j hb hj
  rcases h4 b hb with h5 | rfl
  · rcases ht' with h | ⟨g,n',cap',cur,he,g1,g2,g3,g4,g5,g6⟩
    · rw [h] at h5; cases h5
    · rw [he] at h5
      cases h5
      have hn':n'=n:=by
       rcases hv with ⟨h,_⟩ | ⟨b,cap,h,_⟩
       · rw [h] at he; cases he
       · rw [h] at he; cases he; rfl
      subst hn'
      exact g6 j hj
  · cases hh:H w.heap.size j with
    | none=>rfl
    | some u=>have:=hx.fro.lt hh; omega
 have hHo:∀ b j u,v'.ownBlock=some b→H b j=some u→(olds++news)[j]?=some u:=by
  intro b j u hb hh
  have hj:j<n * i.size:=by
   refine Decidable.byContradiction fun hc=>?_
   rw [hHn b j hb (by omega)] at hh; cases hh
  rcases h4 b hb with h5 | rfl
  · rcases hv with ⟨rfl,_⟩ | ⟨b',cap,rfl,hc⟩
    · cases h5
    · cases h5
      rw [List.getElem?_append_left (by omega),← hc j hj]; exact hh
  · have:=hx.fro.lt hh; omega
 refine ⟨v',w',fun b j=>if v'.ownBlock=some b then (olds++news)[j]? else H b j,hr,?_,h3,?_,?_,?_,?_,?_⟩
 · refine hx.grown h3 hkv (fun b j u hh=>?_) (fun b j u hh=>?_) (fun b j u hh hn=>?_)
   · have h5:=hx.le b j u hh
     split
     · rename_i hb; exact hHo b j u hb h5
     · exact h5
   · split at hh
     · rename_i hb
       have:=h2.cells hb j u hh
       rwa [QbX,Nat.zero_add] at this
     · rename_i hb
       have h5:=hh
       by_cases hvb':v.ownBlock=some b
       · rcases h6 with h6 | h6
         · exact absurd (h6.trans hvb') hb
         · exact (World.cell?_of_block (a:=⟨b,j,none⟩) (h6 b (hx.fro.lt h5))).trans (hx.fro b j u h5)
       · exact h3.cell (a:=⟨b,j,none⟩) (hx.fro b j u h5) (fun hc=>hvb' hc.symm)
   · split at hh
     · rename_i hb
       rcases h4 b hb with h5 | rfl
       · exact hkv b h5
       · intro hc; have:=hx.kept _ hc; omega
     · exact hx.new b j u hh hn
 · intro b j u hh
   dsimp only
   split
   · rename_i hb; exact hHo b j u hb hh
   · exact hh
 · intro b j hb
   dsimp only
   rw [if_neg hb]
 · intro b hb
   rcases h4 b hb with h | rfl
   · exact .inl h
   · exact .inr (Nat.le_refl _)
 · rcases h2.2 with ⟨rfl,h5⟩ | ⟨g,cap,cur,rfl,g1,g2,g3,g4,g5,g6⟩
   · exact .inl rfl
   · refine .inr ⟨g,n+m,cap,cur,rfl,g1,g2,g3,g4,g5,fun j hj=>?_⟩
     exact (if_pos rfl).trans (List.getElem?_eq_none (by omega))
 · rcases h2.2 with h5 | ⟨g,cap,cur,rfl,g1,g2,g3,g4,g5,g6⟩
   · exact .inl h5
   · exact .inr ⟨g,cap,rfl,fun j hj=>if_pos rfl⟩
end
theorem Qdd {o:Nat}:∀ {l:List PV},noL o l=true→∀ (i:Nat) x,l[i]?=some x→noP o x=true
 | [],_,i,x,h=>by simp at h
 | y::l,h,i,x,hx=>by
  simp only [noL] at h
  split at h
  · rename_i hy
    cases i with
    | zero=>simp at hx; subst hx; exact hy
    | succ i=>exact Qdd h i x (by simpa using hx)
  · cases h
theorem QjL {o o':Nat} (h:(!Nat.beq o' o)=true):o'≠o:=by
 intro hc
 subst hc
 simp at h
theorem PR.reb {H H':Hp} {B B':Hd} {o:Nat} (hle:H.le H') (hB:∀ o',o'≠o→∀ u,B o'=some u→B' o'=some u) {v:Value} {x:PV} (h:PR H B v x):noP o x=true→PR H' B' v x:=by
 induction h with
 | f h=>intro _; exact .f (h.mono hle)
 | bp h=>intro hp; exact .bp (hB _ (QjL hp) _ h)
 | tl h hb=>intro hp; exact .tl (h.mono hle) (hB _ (QjL hp) _ hb)
 | wr hb h1=>intro hp; exact .wr (hB _ (QjL hp) _ hb) h1
 | wp hb hi=>intro hp; exact .wp (hB _ (QjL hp) _ hb) hi
 | any=>intro _; exact .any
 | ep b o val hc h=>intro _; exact .ep b o val (fun j hj=>hle _ _ _ (hc j hj)) fun j x hx=>(h j x hx).mono hle
 | agg hn h ih=>intro hp; exact .agg hn fun i v x hv hx=>ih i v x hv hx (Qdd (by simpa [noP] using hp) i x hx)
 | tup hn h ih=>intro hp; exact .tup hn fun i v x hv hx=>ih i v x hv hx (Qdd (by simpa [noP] using hp) i x hx)
 | fn hm h1 hn h2 ih1 ih2 =>
  intro hp
  unfold noP at hp
  split at hp
  · rename_i hl; exact .fn hm (fun i v x hv hx=>ih1 i v x hv hx (Qdd hl i x hx)) hn fun i v x hv hx=>ih2 i v x hv hx (Qdd hp i x hx)
  · cases hp
 | ifc h ih=>intro hp; exact .ifc (ih (by simpa [noP] using hp))
theorem QgZ (o:Nat):∀ (l:List PV) (i:Nat),(flOL o l)[i]?=(l[i]?).map (flO o)
 | [],i=>by simp [flOL]
 | x::l,0=>by simp [flOL]
 | x::l,i+1=>by simp [flOL,QgZ o l i]
theorem QbG (o:Nat):∀ (l:List PV),(flOL o l).length=l.length
 | []=>rfl
 | x::l=>by simp [flOL,QbG o l]
theorem Qf3 {o:Nat} {vs:Array Value} {l:List PV} {R:Value→PV→Prop} (hno:noL o (flOL o l)=true) (h:∀ (i:Nat) v x,vs[i]?=some v→l[i]?=some x→noP o (flO o x)=true→R v (flO o x)):∀ (i:Nat) v x,vs[i]?=some v→(flOL o l)[i]?=some x→R v x:=by
 intro i v x hv hx
 have hn:=Qdd hno i x hx
 rw [QgZ] at hx
 cases hy:l[i]? with
 | none=>rw [hy] at hx; cases hx
 | some y=>rw [hy] at hx; cases hx; exact h i v y hv hy hn
theorem PR.turn {H H':Hp} {B B':Hd} {o:Nat} (hle:H.le H') (hB:∀ o',o'≠o→∀ u,B o'=some u→B' o'=some u) {v:Value} {x:PV} (h:PR H B v x):noP o (flO o x)=true→PR H' B' v (flO o x):=by
 induction h with
 | f h=>intro _; exact .f (h.mono hle)
 | bp h=>intro hp; exact .bp (hB _ (QjL hp) _ h)
 | @tl o' v x h hb =>
  intro hp
  unfold flO at hp ⊢
  split at hp
  · exact .f (h.mono hle)
  · exact .tl (h.mono hle) (hB _ (QjL hp) _ hb)
 | wr hb h1=>intro hp; exact .wr (hB _ (QjL hp) _ hb) h1
 | wp hb hi=>intro hp; exact .wp (hB _ (QjL hp) _ hb) hi
 | any=>intro _; exact .any
 | ep b o val hc h=>intro _; exact .ep b o val (fun j hj=>hle _ _ _ (hc j hj)) fun j x hx=>(h j x hx).mono hle
 | agg hn h ih=>intro hp; exact .agg (by rw [QbG]; exact hn) (Qf3 (by simpa [flO,noP] using hp) ih)
 | tup hn h ih=>intro hp; exact .tup (by rw [QbG]; exact hn) (Qf3 (by simpa [flO,noP] using hp) ih)
 | fn hm h1 hn h2 ih1 ih2 =>
  intro hp
  unfold flO noP at hp
  split at hp
  · rename_i hl; exact .fn (by rw [QbG]; exact hm) (Qf3 hl ih1) (by rw [QbG]; exact hn) (Qf3 hp ih2)
  · cases hp
 | ifc h ih=>intro hp; exact .ifc (ih (by simpa [flO,noP] using hp))
theorem Qqj (o:Nat):∀ (l:List PO) (i:Nat),(flB o l)[i]?=(l[i]?).map (flPO o)
 | [],i=>by simp [flB]
 | x::l,0=>by simp [flB]
 | x::l,i+1=>by simp [flB,Qqj o l i]
theorem Qlk (o:Nat):∀ (l:List PO),(flB o l).length=l.length
 | []=>rfl
 | x::l=>by simp [flB,Qlk o l]
theorem QiH {o d:Nat}:∀ {l:List (Nat × PV)} {y:PV},look (flE o l) d=some y→∃ x,look l d=some x∧y=flO o x
 | [],y,h=>by simp [flE,look] at h
 | (e,x)::l,y,h=>by
  simp only [flE] at h
  rw [QaC] at h ⊢
  split at h
  · rename_i he; cases h; exact ⟨x,by rw [if_pos he],rfl⟩
  · rename_i he
    obtain ⟨z,h1,h2⟩:=QiH h
    exact ⟨z,by rw [if_neg he]; exact h1,h2⟩
theorem QpK {o d:Nat}:∀ {l:List (Nat × PV)},noE o l=true→∀ y,look l d=some y→noP o y=true
 | [],h,y,hy=>by simp [look] at hy
 | (e,x)::l,h,y,hy=>by
  simp only [noE] at h
  split at h
  · rename_i hx
    rw [QaC] at hy
    split at hy
    · cases hy; exact hx
    · exact QpK h y hy
  · cases h
theorem QpJ {o:Nat}:∀ {t:List PO},noO o t=true→∀ (i:Nat) x,t[i]?=some x→noL o (poL x)=true
 | [],_,i,l,h=>by simp at h
 | x::t,h,i,y,hx=>by
  have key:noL o (poL x)=true∧noO o t=true:=by
   cases x with
   | cells m =>
    simp only [noO] at h
    split at h
    · exact ⟨by assumption,h⟩
    · cases h
   | map _ _ _ _ m =>
    simp only [noO] at h
    split at h
    · exact ⟨by assumption,h⟩
    · cases h
   | bld T y =>
    simp only [noO] at h
    split at h
    · exact ⟨by simp only [poL,noL]; simp [*],h⟩
    · cases h
   | own=>exact ⟨rfl,h⟩
   | tail=>exact ⟨rfl,h⟩
   | gone=>exact ⟨rfl,h⟩
  cases i with
  | zero=>simp at hx; subst hx; exact key.1
  | succ i=>exact QpJ key.2 i y (by simpa using hx)
theorem PO.carry {w w':World} {H H':Hp} {B B':Hd} {lo o:Nat} {u:Value} {x:PO} (h:x.holds w H B lo u) (hb:∀ b,blk u=some b→w'.heap[b]?=w.heap[b]?∧∀ j,H' b j=H b j) (hsz:w.heap.size≤w'.heap.size) (hle:H.le H')
  (hB:∀ o',o'≠o→∀ u,B o'=some u→B' o'=some u) (hno:noL o (poL x)=true):x.holds w' H' B' lo u:=by
 cases x with
 | cells l =>
  obtain ⟨b,vs,rfl,h1,h2,h3,h4,h5⟩:=h
  obtain ⟨e1,e2⟩:=hb b rfl
  exact ⟨b,vs,rfl,⟨fun j hj=>(World.cell?_of_block (a:=⟨b,j,none⟩) e1).trans (h1.cells j hj),fun j=>(World.frozen?_of_block (a:=⟨b,j,none⟩) e1).trans (h1.free j),Nat.lt_of_lt_of_le h1.lt hsz⟩,h2,fun i v x hv hx=>(h3 i v x hv hx).reb hle hB (Qdd hno i x hx),h4,fun j=>(e2 j).trans (h5 j)⟩
 | own e x =>
  obtain ⟨k,n,get,vs,hv,h1,h3,h4⟩:=h
  refine ⟨k,n,get,vs,hv,⟨h1.1,?_⟩,fun i hi=>⟨(h3 i hi).1,fun j y hy=>by obtain ⟨v,q1,q2⟩:=(h3 i hi).2 j y hy; exact ⟨v,q1,q2.mono hle⟩⟩,fun b hbk j=>((hb b hbk).2 j).trans (h4 b hbk j)⟩
  rcases h1.2 with h5 | ⟨g,cap,cur,rfl,hg,hh,r⟩
  · exact .inl h5
  · exact .inr ⟨g,cap,cur,rfl,hg,hh.keep (hb g rfl).1,r⟩
 | tail e k =>
  rcases h with h | ⟨g,n,cap,cur,rfl,h1,h2,h3,h4,h5,h6⟩
  · exact .inl h
  · exact .inr ⟨g,n,cap,cur,rfl,h1,by rw [(hb g rfl).1]; exact h2,h3,h4,h5,fun j hj=>((hb g rfl).2 j).trans (h6 j hj)⟩
 | gone=>trivial
 | map t has get ks vs =>
  obtain ⟨b,es,clock,l,rfl,h1,h2,h3,h4,h5⟩:=h
  obtain ⟨e1,e2⟩:=hb b rfl
  exact ⟨b,es,clock,l,rfl,by rw [e1]; exact h1,h2,h3,fun j=>(e2 j).trans (h4 j),fun key=>QdW hle key _ rfl (fun i x hx=>⟨x,hx,fun v hv=>hv.reb hle hB (Qdd hno i x hx)⟩) (h5 key)⟩
 | bld T y =>
  obtain ⟨b,p,v,rfl,h1,h2,h3,h4,h5⟩:=h
  obtain ⟨e1,e2⟩:=hb b rfl
  exact ⟨b,p,v,rfl,by rw [e1]; exact h1,h2,h3.reb hle hB (Qdd hno 0 y rfl),h4,fun j=>(e2 j).trans (h5 j)⟩
theorem PO.turn {w w':World} {H H':Hp} {B B':Hd} {lo o:Nat} {u:Value} {x:PO} (h:x.holds w H B lo u) (hb:∀ b,blk u=some b→w'.heap[b]?=w.heap[b]?∧∀ j,H' b j=H b j) (hsz:w.heap.size≤w'.heap.size) (hle:H.le H')
  (hB:∀ o',o'≠o→∀ u,B o'=some u→B' o'=some u) (hno:noL o (poL (flPO o x))=true):(flPO o x).holds w' H' B' lo u:=by
 cases x with
 | cells l =>
  obtain ⟨b,vs,rfl,h1,h2,h3,h4,h5⟩:=h
  obtain ⟨e1,e2⟩:=hb b rfl
  refine ⟨b,vs,rfl,⟨fun j hj=>(World.cell?_of_block (a:=⟨b,j,none⟩) e1).trans (h1.cells j hj),fun j=>(World.frozen?_of_block (a:=⟨b,j,none⟩) e1).trans (h1.free j),Nat.lt_of_lt_of_le h1.lt hsz⟩,by rw [QbG]; exact h2,fun i v x hv hx=>?_,h4,fun j=>(e2 j).trans (h5 j)⟩
  have hn:=Qdd hno i x hx
  rw [QgZ] at hx
  cases hy:l[i]? with
  | none=>rw [hy] at hx; cases hx
  | some y=>rw [hy] at hx; cases hx; exact (h3 i v y hv hy).turn hle hB hn
 | own e x=>exact PO.carry (o:=o) h hb hsz hle hB rfl
 | tail e k=>exact PO.carry (o:=o) h hb hsz hle hB rfl
 | gone=>trivial
 | map t has get ks vs =>
  obtain ⟨b,es,clock,l,rfl,h1,h2,h3,h4,h5⟩:=h
  obtain ⟨e1,e2⟩:=hb b rfl
  refine ⟨b,es,clock,l,rfl,by rw [e1]; exact h1,h2,h3,fun j=>(e2 j).trans (h4 j),fun key=>QdW hle key _ (QbG o vs) (fun i x hx=>?_) (h5 key)⟩
  have hn:=Qdd hno i x hx
  rw [QgZ] at hx
  cases hy:vs[i]? with
  | none=>rw [hy] at hx; cases hx
  | some y=>rw [hy] at hx; cases hx; exact ⟨y,rfl,fun v hv=>hv.turn hle hB hn⟩
 | bld T y =>
  obtain ⟨b,p,v,rfl,h1,h2,h3,h4,h5⟩:=h
  obtain ⟨e1,e2⟩:=hb b rfl
  exact ⟨b,p,v,rfl,by rw [e1]; exact h1,h2,h3.turn hle hB (Qdd hno 0 _ rfl),h4,fun j=>(e2 j).trans (h5 j)⟩
def QbR (k n:Nat) (val:Nat→Nat→Value):List Value:=(List.range (n * k)).map fun t=>val (t / k) (t % k)
theorem QaY (k n:Nat) (val:Nat→Nat→Value):(QbR k n val).length=n * k:=by simp [QbR]
theorem QcH {k n:Nat} {val:Nat→Nat→Value} {t:Nat} (h:t<n * k):(QbR k n val)[t]?=some (val (t / k) (t % k)):=by simp [QbR,h]
theorem QiR {k n:Nat} {val:Nat→Nat→Value} {i j:Nat} (hi:i<n) (hj:j<k):(QbR k n val)[i * k+j]?=some (val i j):=by
 have h1:i * k+j<n * k:=by
  have:=Nat.mul_le_mul_right k (show i+1≤n from hi)
  rw [Nat.succ_mul] at this; omega
 rw [QcH h1]
 have h2:(i * k+j) / k=i:=by rw [Nat.mul_comm,Nat.mul_add_div (by omega),Nat.div_eq_of_lt hj,Nat.add_zero]
 have h3:(i * k+j) % k=j:=by rw [Nat.mul_comm,Nat.mul_add_mod,Nat.mod_eq_of_lt hj]
 rw [h2,h3]
theorem Qb4 {k n t:Nat} (h:t<n * k):0<k∧t / k<n∧t % k<k∧t / k * k+t % k=t:=by
 have hk:0<k:=by rcases Nat.eq_zero_or_pos k with rfl | hk <;> omega
 refine ⟨hk,by rw [Nat.div_lt_iff_lt_mul hk]; exact h,Nat.mod_lt _ hk,?_⟩
 rw [Nat.mul_comm]; exact Nat.div_add_mod t k
section
variable {P : Program} {w0 : Cx} {w : World} {H0 : Hp} {m : Nat} {s : PS} {g : Gh} {a : Act}
theorem Qfy {H:Hp} {v:Value} {x:Lf} {k n:Nat} {get:Nat→List Lf} (h:Rd H v x) (hv:x.view=some (k,n,get)):∃ (ao:Option Addr) (cap:Nat) (val:Nat→Nat→Value),v=.slice ao n cap∧n≤cap∧(ao=none→cap=0) ∧
  (∀ i,i<n→(get i).length=k)∧(∀ i,i<n→∀ j y,(get i)[j]?=some y→Rd H (val i j) y)∧∃ b o,(0<n→ao=some ⟨b,o,none⟩)∧∀ t,t<n * k→H b (o+t)=(QbR k n val)[t]?:=by
 cases h with
 | v=>cases hv
 | zn=>cases hv
 | @sl _ k2 n2 get2 ao cap hv2 hg hc hm h0 b o val hb hcell hlen hrec =>
  rw [hv] at hv2
  cases hv2
  have hfl:=Lf.full_le hv hg
  refine ⟨ao,cap,val,rfl,Nat.le_trans hfl hc,h0,fun i hi=>hlen i (by omega),fun i hi=>hrec i (by omega),b,o,fun hn=>hb (by omega),fun t ht=>?_⟩
  obtain ⟨h1,h2,h3,h4⟩:=Qb4 ht
  rw [QcH ht,← hcell _ (Nat.lt_of_lt_of_le h2 hfl) _ h3,Nat.add_assoc,h4]
theorem QjX {H:Hp} {k n:Nat} {get:Nat→List Lf} {val:Nat→Nat→Value} (h1:∀ i,i<n→(get i).length=k) (h2:∀ i,i<n→∀ j y,(get i)[j]?=some y→Rd H (val i j) y):∀ u∈QbR k n val,u.oneCell'=true:=by
 intro u hu
 obtain ⟨t,ht,rfl⟩:=List.mem_map.1 hu
 have ht:=List.mem_range.1 ht
 obtain ⟨h3,h4,h5,_⟩:=Qb4 ht
 have h6:=h2 _ h4 _ _ (List.getElem?_eq_getElem (by rw [h1 _ h4]; exact h5))
 exact PR.one (H:=H) (B:=B0) (.f h6)
theorem QfD (h:Real w0 H0 m s g a w) (X:Sem Value) {o:Nat} {v:Value} {lf z c:Lf} {e:TypeId} {n n':Nat} {gx gz:Nat→List Lf} (i:TypeInfo)
  (hx:PR g.H g.B v (.tl o lf)) (ho:s.ob[o]?=some (.tail e i.size)) (hvx:lf.view=some (i.size,n,gx)) (hvz:z.view=some (i.size,n',gz)) (hc:Qoi lf z=some c)
  (val':Nat→Nat→Value) (hl2:∀ q,q<n'→(gz q).length=i.size) (hr2:∀ q,q<n'→∀ j y,(gz q)[j]?=some y→Rd g.H (val' q j) y)
  (hab:∀ olds,w.ownsRow 0 e i.size v n olds→∃ v' w',X.run P w=.ok v' w'∧w'.ownsRow 0 e i.size v' (n+n') (olds++QbR i.size n' val')∧w.grownBy w' v.ownBlock ∧
   (∀ b,v'.ownBlock=some b→v.ownBlock=some b∨b=w.heap.size)∧(v'.ownBlock=v.ownBlock∨∀ k,k<w.heap.size→w'.heap[k]?=w.heap[k]?))
  (hE:noE o (flE o s.env)=true) (hOb:noO o (flB o s.ob)=true) :
  ∃ v' w' g',X.run P w=.ok v' w'∧Real w0 H0 m ⟨flE o s.env,flB o s.ob⟩ g' a w'∧PR g'.H g'.B v' (.tl o c):=by
 cases hx with
 | tl hv hB =>
 have hhold:=h.obs.hold o _ v ho hB
 obtain ⟨gc,hvc,hgc,hc1,hc2,hfc⟩:=Qr1 hvx hvz hc
 obtain ⟨ao,cap,val,rfl,hcap,h0,hl1,hr1,b1,o1,hb1,hcell1⟩:=Qfy hv hvx
 -- where the base stands
 have hbase:(Value.slice ao n cap=.slice none 0 0∧n=0)∨∃ b cap',Value.slice ao n cap=.slice (some ⟨b,0,none⟩) n cap'∧∀ j,j<n * i.size→g.H b j=(QbR i.size n val)[j]?:=by
  rcases hhold with hn | ⟨gb,n2,cap2,cur,he,g1,g2,g3,g4,g5,g6⟩
  · left; cases hn; exact ⟨rfl,rfl⟩
  · right
    cases he
    refine ⟨gb,cap,rfl,fun j hj=>?_⟩
    obtain ⟨_,q2,_⟩:=Qb4 hj
    have hbb:=hb1 (Nat.lt_of_le_of_lt (Nat.zero_le _) q2)
    cases hbb
    have:=hcell1 j hj
    rwa [Nat.zero_add] at this
 have hkv:∀ b,(Value.slice ao n cap).ownBlock=some b→¬ w0.K b:=fun b hb=>h.obs.kept o _ b hB (by rw [← hb]; cases ao <;> rfl)
 have key:∃ v' w' H',X.run P w=.ok v' w'∧ExtK w0 H0 w' H'∧w.grownBy w' (Value.slice ao n cap).ownBlock∧g.H.le H'∧(∀ b j,v'.ownBlock≠some b→H' b j=g.H b j) ∧
   (∀ b,v'.ownBlock=some b→(Value.slice ao n cap).ownBlock=some b∨w.heap.size≤b)∧PO.holds w' H' g.B 0 v' (.tail e i.size) ∧
   ((v'=.slice none 0 0∧n+n'=0)∨∃ b cap,v'=.slice (some ⟨b,0,none⟩) (n+n') cap∧∀ j,j<(n+n') * i.size→H' b j=(QbR i.size n val++QbR i.size n' val')[j]?):=by
  exact Qkm X e i h.ext _ n (QbR i.size n val) hkv hhold (QaY _ _ _) hbase n' (QbR i.size n' val') (QaY _ _ _) (hab _)
 obtain ⟨v',w',H',hr,hext,hgr,hle,hoth,hblk,hho,hfin⟩:=key
 have hB':∀ o',o'≠o→∀ u,g.B o'=some u→(if o'=o then some v' else g.B o')=some u:=fun o' hne u hu=>by rw [if_neg hne]; exact hu
 have hbk:∀ {x:Option Addr} {p q:Nat},(Value.slice x p q).ownBlock=blk (Value.slice x p q):=by intro x p q; cases x <;> rfl
 have hvb:v'.ownBlock=blk v':=by
  rcases hfin with ⟨rfl,_⟩ | ⟨b,cap,rfl,_⟩ <;> rfl
 have hap:∀ o' u',o'≠o→g.B o'=some u'→∀ b,blk u'=some b→(Value.slice ao n cap).ownBlock≠some b∧v'.ownBlock≠some b:=by
  intro o' u' hne hu' b hb
  have h1:(Value.slice ao n cap).ownBlock≠some b:=fun hc=>h.obs.apart o o' _ u' b (fun h=>hne h.symm) hB hu' (by rw [← hbk]; exact hc) hb
  refine ⟨h1,fun hc=>?_⟩
  rcases hblk b hc with h2 | h2
  · exact h1 h2
  · have:=h.obs.lt o' u' b hu' hb; omega
 have hrd:Rd H' v' c:=by
  rcases hfin with ⟨rfl,hn⟩ | ⟨b,cap2,rfl,hcl⟩
  · rw [hn] at hvc
    exact .slf hfc hvc hgc (by omega) (by unfold maxLen; omega) (fun _=>rfl) 0 0 (fun _ _=>undef) (fun hc=>by omega) (fun q hq=>by omega) (fun q hq=>by omega) (fun q hq=>by omega)
  · have hcapm:n+n'≤cap2∧cap2≤maxLen:=by
     rcases hho with h | ⟨g1,n1,c1,cur,he,_,_,q3,q4,_⟩
     · cases h
     · cases he; exact ⟨q3,q4⟩
    have hval:∀ q,q<n+n'→∀ j,j<i.size→(QbR i.size n val++QbR i.size n' val')[q * i.size+j]?=some (if q<n then val q j else val' (q - n) j):=by
     intro q hq j hj
     by_cases hqn:q<n
     · rw [if_pos hqn,List.getElem?_append_left ?_]
       · exact QiR hqn hj
       · rw [QaY]
         have:=Nat.mul_le_mul_right i.size (show q+1≤n from hqn)
         rw [Nat.succ_mul] at this; omega
     · have hmul:q * i.size=n * i.size+(q - n) * i.size:=by rw [← Nat.add_mul]; congr 1; omega
       rw [if_neg hqn,List.getElem?_append_right (by rw [QaY,hmul]; omega),QaY,hmul,show n * i.size+(q - n) * i.size+j - n * i.size=(q - n) * i.size+j by omega]
       exact QiR (by omega) hj
    refine .slf hfc hvc hgc hcapm.1 hcapm.2 (fun hc=>by cases hc) b 0 (fun q j=>if q<n then val q j else val' (q - n) j) (fun _=>rfl) (fun q hq j hj=>?_) (fun q hq=>?_) (fun q hq j y hy=>?_)
    · rw [Nat.zero_add,hcl _ ?_]
      · exact hval q hq j hj
      · have:=Nat.mul_le_mul_right i.size (show q+1≤n+n' from hq)
        rw [Nat.succ_mul] at this; omega
    · by_cases hqn:q<n
      · rw [hc1 q hqn]; exact hl1 q hqn
      · have:=hc2 (q - n) (by omega)
        rw [show n+(q - n)=q by omega] at this
        rw [this]; exact hl2 _ (by omega)
    · by_cases hqn:q<n
      · rw [hc1 q hqn] at hy
        rw [if_pos hqn]; exact (hr1 q hqn j y hy).mono hle
      · have:=hc2 (q - n) (by omega)
        rw [show n+(q - n)=q by omega] at this
        rw [this] at hy
        rw [if_neg hqn]; exact (hr2 _ (by omega) j y hy).mono hle
 refine ⟨v',w',⟨H',fun o'=>if o'=o then some v' else g.B o'⟩,hr,?_,.tl hrd (if_pos rfl)⟩
 refine ⟨hext,⟨hext.fro,fun o' u' b hu' hb=>?_,fun o' x u' hx hu'=>?_,fun o1 o2 u1 u2 b hne hu1 hu2 hb1 hb2=>?_,fun o' u' hu'=>?_,fun o' u' b hu' hb=>?_⟩,fun o' ho'=>?_,fun d y hy=>?_,h.sz,h.dfr,fun o' p hp=>?_⟩
 rotate_right
 · dsimp only
   rw [if_neg (fun hc=>by subst hc; have:=h.ptr _ _ hp; rw [hB] at this; cases this; have:=hp.2; cases this)]
   exact h.ptr o' p hp
 · dsimp only at hu'
   split at hu'
   · cases hu'
     rcases hho with hn | ⟨g1,n1,c1,cur,he,_,q2,_⟩
     · rw [hn] at hb; cases hb
     · rw [he] at hb
       cases hb
       exact (Array.getElem?_eq_some_iff.1 q2).1
   · exact Nat.lt_of_lt_of_le (h.obs.lt o' u' b hu' hb) hgr.size
 · dsimp only at hu' ⊢
   by_cases ho':o'=o
   · subst ho'
     rw [if_pos rfl] at hu'
     cases hu'
     have hx':(flB o' s.ob)[o']?=some x:=hx
     rw [Qqj,ho] at hx'
     cases hx'
     exact hho
   · rw [if_neg ho'] at hu'
     have hx0:=hx
     rw [Qqj] at hx
     cases hy:s.ob[o']? with
     | none=>rw [hy] at hx; cases hx
     | some y =>
     rw [hy] at hx
     cases hx
     exact PO.turn (o:=o) (h.obs.hold o' y u' hy hu') (fun b hb=>⟨hgr.block b (h.obs.lt o' u' b hu' hb) (fun hc=>(hap o' u' ho' hu' b hb).1 hc.symm),fun j=>hoth b j (hap o' u' ho' hu' b hb).2⟩) hgr.size hle hB' (QpJ hOb o' _ hx0)
 · dsimp only at hu1 hu2
   by_cases h1:o1=o
   · subst h1
     rw [if_pos rfl] at hu1
     cases hu1
     rw [if_neg (fun hc=>hne hc.symm)] at hu2
     exact (hap o2 u2 (fun hc=>hne hc.symm) hu2 b hb2).2 (by rw [hvb]; exact hb1)
   · rw [if_neg h1] at hu1
     by_cases h2:o2=o
     · subst h2
       rw [if_pos rfl] at hu2
       cases hu2
       exact (hap o1 u1 h1 hu1 b hb1).2 (by rw [hvb]; exact hb2)
     · rw [if_neg h2] at hu2
       exact h.obs.apart o1 o2 u1 u2 b hne hu1 hu2 hb1 hb2
 · dsimp only at hu'
   dsimp only
   rw [Qlk]
   split at hu'
   · rename_i hc; subst hc; exact h.obs.dom _ _ hB
   · exact h.obs.dom o' u' hu'
 · dsimp only at hu'
   split at hu'
   · cases hu'
     rcases hblk b (by rw [hvb]; exact hb) with h1 | h1
     · exact hkv b h1
     · intro hc; have:=h.ext.kept _ hc; omega
   · exact h.obs.kept o' u' b hu' hb
 · dsimp only at ho' ⊢
   rw [Qlk] at ho'
   by_cases hc:o'=o
   · exact ⟨v',if_pos hc⟩
   · rw [if_neg hc]; exact h.full o' ho'
 · obtain ⟨x,hx,rfl⟩:=QiH hy
   exact (h.env d x hx).turn hle hB' (QpK hE _ hy)
end
section
variable {P : Program} {w0 : Cx} {H0 : Hp} {m : Nat} {s : PS} {g : Gh} {a : Act} {w : World} {Q : Exit → Act → World → Prop}
theorem QlI (h:Real w0 H0 m s g a w) {o:Nat} {v u:Value} {lf z c:Lf} {e:TypeId} {n n':Nat} {gx gz:Nat→List Lf} (t ty:TypeId) (i:TypeInfo) (zv:Value) (ht:P.underlying t=some (.slice e)) (hi:P.info? e=some i) (hz:i.zero=some zv)
  (hzs:zv.cells.size=i.size) (hsz:0<i.size) (hx:PR g.H g.B v (.tl o lf)) (ho:s.ob[o]?=some (.tail e i.size)) (hu:Rd g.H u z) (hvx:lf.view=some (i.size,n,gx)) (hvz:z.view=some (i.size,n',gz)) (hc:Qoi lf z=some c)
  (h63:n+n'≤maxLen) (hbytes:(n+n') * i.bytes≤140737488355328) (hE:noE o (flE o s.env)=true) (hOb:noO o (flB o s.ob)=true) :
  ∃ v' w' g',(Builtin.append_ #[t,t] ty #[v,u]).run P w=.ok v' w'∧Real w0 H0 m ⟨flE o s.env,flB o s.ob⟩ g' a w'∧PR g'.H g'.B v' (.tl o c):=by
 obtain ⟨ao',cap',val',rfl,hcap',h0',hl2,hr2,b2,o2,hb2,hcell2⟩:=Qfy hu hvz
 refine QfD h _ i hx ho hvx hvz hc val' hl2 hr2 (fun olds hown=>?_) hE hOb
 cases ao' with
 | some ad =>
  refine QfE (P:=P) 0 t ty e i zv ht hi hz hzs hsz v n olds hown ad n' cap' (QbR i.size n' val') (QaY _ _ _) (fun j y hy=>?_) (QjX hl2 hr2) h63 hbytes (Nat.zero_le _)
  have hj:j<n' * i.size:=by
   have:=(List.getElem?_eq_some_iff.1 hy).1
   rwa [QaY] at this
  obtain ⟨_,q2,_⟩:=Qb4 hj
  have hbb:=hb2 (Nat.lt_of_le_of_lt (Nat.zero_le _) q2)
  cases hbb
  rw [QbX]
  exact h.ext.fro _ _ _ ((hcell2 j hj).trans hy)
 | none =>
  have hc0:=h0' rfl
  subst hc0
  obtain rfl:n'=0:=by omega
  have hn0:QbR i.size 0 val'=[]:=List.eq_nil_of_length_eq_zero (by rw [QaY]; omega)
  rw [hn0,List.append_nil]
  exact ⟨_,w,run_append_owned_none w 0 t ty e i i.size ht hi _ n _ hown,hown,⟨rfl,rfl,rfl,Nat.le_refl _,fun _ _ _=>rfl⟩,fun b hb=>.inl hb,.inl rfl⟩
theorem Qnx (s:ByteArray):QbR 1 (strI s).length (fun q _=>.int .u8 ((strI s).getD q 0))=Lib.strCells s:=by
 apply List.ext_getElem?
 intro j
 unfold QbR Lib.strCells strI
 simp only [Nat.mul_one,List.getElem?_map,List.length_map,Nat.div_one]
 by_cases hj:j<s.data.toList.length
 · rw [List.getElem?_range hj,List.getElem?_eq_getElem hj]
   simp only [Option.map_some,List.getD_eq_getElem?_getD,List.getElem?_map,List.getElem?_eq_getElem hj,Option.getD_some]
 · rw [List.getElem?_eq_none (by simpa using hj),List.getElem?_eq_none (by simpa using hj)]
   rfl
theorem Qi6 (h:Real w0 H0 m s g a w) {o:Nat} {v:Value} {lf c:Lf} {e:TypeId} {n:Nat} {gx:Nat→List Lf} (t t' ty:TypeId) (i:TypeInfo) (u:ByteArray) (ht:P.underlying t=some (.slice e)) (ht':P.underlying t'=some .string) (hi:P.info? e=some i) (hz:i.zero=some (.int .u8 0))
  (hsz:i.size=1) (hby:i.bytes=1) (hx:PR g.H g.B v (.tl o lf)) (ho:s.ob[o]?=some (.tail e 1)) (hvx:lf.view=some (1,n,gx)) (hc:Qoi lf (.is .u8 (strI u))=some c)
  (h63:n+(strI u).length≤maxLen) (hbytes:n+(strI u).length≤140737488355328) (hE:noE o (flE o s.env)=true) (hOb:noO o (flB o s.ob)=true) :
  ∃ v' w' g',(Builtin.append_ #[t,t'] ty #[v,.string u]).run P w=.ok v' w'∧Real w0 H0 m ⟨flE o s.env,flB o s.ob⟩ g' a w'∧PR g'.H g'.B v' (.tl o c):=by
 refine QfD h _ i (e:=e) (z:=.is .u8 (strI u)) hx (by rw [hsz]; exact ho) (by rw [hsz]; exact hvx) (by rw [hsz]; rfl) hc (fun q _=>.int .u8 ((strI u).getD q 0)) (fun q hq=>by rw [hsz]; rfl) (fun q hq j y hy=>?_) (fun olds hown=>?_) hE hOb
 · cases j with
   | zero=>simp at hy; subst hy; exact .v _ rfl
   | succ j=>simp at hy
 · rw [hsz,Qnx,QdO]
   rw [hsz] at hown
   rw [QdO] at h63 hbytes
   exact Qhs 0 t t' ty e i ht ht' hi hz hsz hby v n olds hown u h63 hbytes (Nat.zero_le _)
theorem QdF (h:Real w0 H0 m s g a w) {o:Nat} {lf z:Lf} {t ty:TypeId} {v u:Value} {p:Prop} {s':PS} {r:PV} (hx:PR g.H g.B v (.tl o lf)) (hu:PR g.H g.B u (.f z)) (hap:appP P s t o lf z=some (p,s',r)) (hp:p) :
  ∃ v' w' g',(Builtin.append_ #[t,t] ty #[v,u]).run P w=.ok v' w'∧Real w0 H0 m s' g' a w'∧PR g'.H g'.B v' r:=by
 unfold appP at hap
 split at hap
 · rename_i e k b n' k' n gx c e' k'' hE hv hc ho
   split at hap
   · rename_i hk hno
     simp only [Bool.and_eq_true] at hk hno
     cases hap
     have e1:=Nat.eq_of_beq_eq_true hk.1
     have e2:=Nat.eq_of_beq_eq_true hk.2.1
     have e3:=Nat.eq_of_beq_eq_true hk.2.2
     subst e1 e2 e3
     unfold appE at hE
     split at hE
     · rename_i e2 he
       split at hE
       · rename_i i k2 n2 gz hi hvz
         split at hE
         · rename_i zv hz
           split at hE
           · rename_i q1 q2
             simp only [Bool.and_eq_true] at q2
             cases hE
             have e4:=Nat.eq_of_beq_eq_true q1
             subst e4
             rw [Qap] at ho
             cases hu with
             | f hu=>exact QlI h t ty i zv (Qbq he) hi hz (Nat.eq_of_beq_eq_true q2.1) (Nat.le_of_ble_eq_true q2.2) hx ho hu hv hvz hc hp.1 hp.2 hno.1 hno.2
           · cases hE
         · cases hE
       · cases hE
     · cases hE
   · cases hap
 · cases hap
theorem Qdv (h:Real w0 H0 m s g a w) (e:TypeId) (k:Nat):∃ g',g'.H=g.H∧Real w0 H0 m (QcU s e k) g' a w∧g'.B s.ob.length=some (.slice none 0 0)∧g.B.le g'.B:=by
 have hn:g.B s.ob.length=none:=by
  cases hb:g.B s.ob.length with
  | none=>rfl
  | some u=>have:=h.obs.dom _ _ hb; omega
 have hle:g.B.le (fun o=>if o=s.ob.length then some (.slice none 0 0) else g.B o):=by
  intro o u hu
  exact (if_neg (fun hc=>by rw [hc,hn] at hu; cases hu)).trans hu
 refine ⟨⟨g.H,fun o=>if o=s.ob.length then some (.slice none 0 0) else g.B o⟩,rfl,⟨h.ext,⟨h.obs.fro,fun o u b hu hb=>?_,fun o x u hx hu=>?_,fun o o' u u' b hne hu hu' hb hb'=>?_,fun o u hu=>?_,fun o u b hu hb=>?_⟩,fun o ho=>?_,fun d x hx=>(h.env d x hx).mono (Hp.le_refl _) hle,h.sz,h.dfr,fun o p hp=>hle _ _ (h.ptr o p hp)⟩,if_pos rfl,hle⟩
 · dsimp only at hu
   split at hu
   · cases hu; cases hb
   · exact h.obs.lt o u b hu hb
 · dsimp only at hu
   split at hu
   · rename_i ho
     cases hu
     subst ho
     simp [QcU] at hx
     subst hx
     exact .inl rfl
   · rename_i ho
     have hlt:=h.obs.dom o u hu
     have hx':s.ob[o]?=some x:=by
      have:(s.ob++[PO.tail e k])[o]?=some x:=hx
      rwa [List.getElem?_append_left hlt] at this
     exact PO.mono (h.obs.hold o x u hx' hu) (Ext.refl h.obs.fro) hle
 · dsimp only at hu hu'
   split at hu
   · cases hu; cases hb
   · split at hu'
     · cases hu'; cases hb'
     · exact h.obs.apart o o' u u' b hne hu hu' hb hb'
 · dsimp only at hu
   have hl:(QcU s e k).ob.length=s.ob.length+1:=by simp [QcU]
   split at hu
   · omega
   · have:=h.obs.dom o u hu; omega
 · dsimp only at hu
   split at hu
   · cases hu; cases hb
   · exact h.obs.kept o u b hu hb
 · have hl:(QcU s e k).ob.length=s.ob.length+1:=by simp [QcU]
   dsimp only
   by_cases hc:o=s.ob.length
   · exact ⟨_,if_pos hc⟩
   · rw [if_neg hc]; exact h.full o (by omega)
theorem QgI (h:Real w0 H0 m s g a w) {o:Nat} {u u':Value} {x':PO} {env':List (Nat × PV)} {w':World} {H':Hp} (hB:g.B o=some u) (hsl:fixV u=false) (ho:o<s.ob.length)
  (hext:ExtK w0 H0 w' H') (hle:g.H.le H') (hsz:w.heap.size≤w'.heap.size)
  (hkeep:∀ b,b<w.heap.size→blk u≠some b→w'.heap[b]?=w.heap[b]?)
  (hoth:∀ b,blk u≠some b→blk u'≠some b→∀ j,H' b j=g.H b j)
  (hnew:∀ b,blk u'=some b→b<w'.heap.size∧(blk u=some b∨w.heap.size≤b))
  (hhold:x'.holds w' H' (fun o'=>if o'=o then some u' else g.B o') 0 u')
  (hOb:noO o s.ob=true)
  (henv:∀ d y,look env' d=some y→PR H' (fun o'=>if o'=o then some u' else g.B o') (a.tmps.getD d undef) y) :
  Real w0 H0 m ⟨env',setL s.ob o x'⟩ ⟨H',fun o'=>if o'=o then some u' else g.B o'⟩ a w':=by
 have hB':∀ o',o'≠o→∀ v,g.B o'=some v→(if o'=o then some u' else g.B o')=some v:=fun o' hne v hv=>by rw [if_neg hne]; exact hv
 have hap:∀ o' v,o'≠o→g.B o'=some v→∀ b,blk v=some b→blk u≠some b∧blk u'≠some b:=by
  intro o' v hne hv b hb
  have h1:blk u≠some b:=fun hc=>h.obs.apart o o' _ v b (fun h=>hne h.symm) hB hv hc hb
  refine ⟨h1,fun hc=>?_⟩
  rcases (hnew b hc).2 with h2 | h2
  · exact h1 h2
  · have:=h.obs.lt o' v b hv hb; omega
 refine ⟨hext,⟨hext.fro,fun o' v b hv hb=>?_,fun o' x v hx hv=>?_,fun o1 o2 u1 u2 b hne hu1 hu2 hb1 hb2=>?_,fun o' v hv=>?_,fun o' v b hv hb=>?_⟩,fun o' ho'=>?_,henv,h.sz,h.dfr,fun o' p hp=>by
  dsimp only
  rw [if_neg (fun hc=>by subst hc; have:=h.ptr _ _ hp; rw [hB] at this; cases this; have:=hp.2; rw [hsl] at this; cases this)]
  exact h.ptr o' p hp⟩
 · dsimp only at hv
   split at hv
   · cases hv; exact (hnew b hb).1
   · exact Nat.lt_of_lt_of_le (h.obs.lt o' v b hv hb) hsz
 · dsimp only at hv hx ⊢
   rw [Qcw,List.getElem?_set] at hx
   by_cases hoo:o'=o
   · subst hoo
     rw [if_pos rfl] at hv hx
     cases hv
     rw [if_pos ho] at hx
     cases hx; exact hhold
   · rw [if_neg hoo] at hv
     rw [if_neg (fun hc=>hoo hc.symm)] at hx
     exact PO.carry (o:=o) (h.obs.hold o' x v hx hv) (fun b hb=>⟨hkeep b (h.obs.lt o' v b hv hb) (hap o' v hoo hv b hb).1,fun j=>hoth b (hap o' v hoo hv b hb).1 (hap o' v hoo hv b hb).2 j⟩) hsz hle hB' (QpJ hOb o' _ hx)
 · dsimp only at hu1 hu2
   by_cases h1:o1=o
   · subst h1
     rw [if_pos rfl] at hu1
     cases hu1
     rw [if_neg (fun hc=>hne hc.symm)] at hu2
     exact (hap o2 u2 (fun hc=>hne hc.symm) hu2 b hb2).2 hb1
   · rw [if_neg h1] at hu1
     by_cases h2:o2=o
     · subst h2
       rw [if_pos rfl] at hu2
       cases hu2
       exact (hap o1 u1 h1 hu1 b hb1).2 hb2
     · rw [if_neg h2] at hu2
       exact h.obs.apart o1 o2 u1 u2 b hne hu1 hu2 hb1 hb2
 · dsimp only at hv
   rw [QaR]
   split at hv
   · rename_i hc; subst hc; exact ho
   · exact h.obs.dom o' v hv
 · dsimp only at hv
   split at hv
   · cases hv
     rcases (hnew b hb).2 with h1 | h1
     · exact h.obs.kept o u b hB h1
     · intro hc; have:=h.ext.kept _ hc; omega
   · exact h.obs.kept o' v b hv hb
 · dsimp only at ho' ⊢
   rw [QaR] at ho'
   by_cases hc:o'=o
   · exact ⟨u',if_pos hc⟩
   · rw [if_neg hc]; exact h.full o' ho'
theorem QiG {o d:Nat} {y:PV}:∀ {l:List (Nat × PV)} {z:PV},look (frE o y l) d=some z→∃ x,look l d=some x∧z=frO o y x
 | [],z,h=>by simp [frE,look] at h
 | (e,x)::l,z,h=>by
  simp only [frE] at h
  rw [QaC] at h ⊢
  split at h
  · rename_i he; cases h; exact ⟨x,by rw [if_pos he],rfl⟩
  · rename_i he
    obtain ⟨x',h1,h2⟩:=QiG h
    exact ⟨x',by rw [if_neg he]; exact h1,h2⟩
theorem QmM {o d:Nat} {y:PV}:∀ {l:List (Nat × PV)} {x:PV},look l d=some x→look (frE o y l) d=some (frO o y x)
 | [],x,h=>by simp [look] at h
 | (e,z)::l,x,h=>by
  simp only [frE]
  rw [QaC] at h ⊢
  split at h
  · rename_i he; cases h; rw [if_pos he]
  · rename_i he; rw [if_neg he]; exact QmM h
theorem Qqh (h:Real w0 H0 m s g a w) {o:Nat} {y:PV} {H':Hp} {B':Hd} (hle:g.H.le H') (hB':∀ o',o'≠o→∀ u,g.B o'=some u→B' o'=some u) (hno:noE o (frE o .any s.env)=true) (hy:∀ v,PR g.H g.B v (.wr o)→PR H' B' v y) :
  ∀ d z,look (frE o y s.env) d=some z→PR H' B' (a.tmps.getD d undef) z:=by
 intro d z hz
 obtain ⟨x,hx,rfl⟩:=QiG hz
 have h1:=QpK hno _ (QmM (y:=.any) hx)
 have h2:=h.env d x hx
 generalize a.tmps.getD d undef=v at h2 ⊢
 cases x with
 | wr o' =>
  unfold frO at h1 ⊢
  dsimp only at h1 ⊢
  cases hb:Nat.beq o' o with
  | true=>obtain rfl:=Nat.eq_of_beq_eq_true hb; exact hy v h2
  | false=>rw [hb] at h1; exact h2.reb hle hB' h1
 | wp o' k i =>
  unfold frO at h1 ⊢
  dsimp only at h1 ⊢
  cases hb:Nat.beq o' o with
  | true=>exact .any
  | false=>rw [hb] at h1; exact h2.reb hle hB' h1
 | f y=>exact h2.reb hle hB' h1
 | bp p q=>exact h2.reb hle hB' h1
 | ep l=>exact h2.reb hle hB' h1
 | tl p q=>exact h2.reb hle hB' h1
 | any=>exact .any
 | fn f l m=>exact h2.reb hle hB' h1
 | ifc t x=>exact h2.reb hle hB' h1
 | agg l=>exact h2.reb hle hB' h1
 | tup l=>exact h2.reb hle hB' h1
theorem QtN {w:World} {lo k n:Nat} {e:TypeId} {u:Value} {vs:List Value} {u8:Bool} (h:Qcg w lo e k u n vs u8) {b:Nat} (hb:blk u=some b):u.ownBlock=some b:=by
 rcases h.2 with ⟨rfl,_⟩ | ⟨g,c,cur,rfl,_⟩
 · cases hb
 · exact hb
theorem Real.rowH (h:Real w0 H0 m s g a w) {o:Nat} {u:Value} {e:TypeId} {x:Lf} {k n:Nat} {get:Nat→List Lf} (hB:g.B o=some u) (ho:s.ob[o]?=some (.own e x)) (hv:x.view0=some (k,n,get)) :
  ∃ H',ExtK w0 H0 w H'∧g.H.le H'∧(∀ b,blk u≠some b→∀ j,H' b j=g.H b j)∧Rd H' u x∧(∀ b,blk u=some b→∀ j,n * k≤j→H' b j=none)∧(isU8 x=false→PO.holds w H' (fun o'=>if o'=o then some u else g.B o') 0 u (.tail e k)):=by
 obtain ⟨k',n',get',vs,h1,h2,h3,h4⟩:=h.obs.hold o _ u ho hB
 rw [hv] at h1
 cases h1
 obtain ⟨f1,f2,f3⟩:=Lf.view0_facts hv
 have hle:g.H.le (fun b j=>if blk u=some b then vs[j]? else g.H b j):=by
  intro b j y hy
  show (if blk u=some b then vs[j]? else g.H b j)=some y
  split
  · rename_i hb; rw [h4 b hb j] at hy; cases hy
  · exact hy
 have hvl:vs.length=n * k:=h2.1
 refine ⟨fun b j=>if blk u=some b then vs[j]? else g.H b j,h.ext.grown (row:=none) ⟨rfl,rfl,rfl,Nat.le_refl _,fun _ _ _=>rfl⟩ (fun b hb=>by cases hb) (Hp.le_trans h.ext.le hle) (fun b j y hy=>?_) (fun b j y hy hn=>?_),hle,fun b hb j=>by dsimp only; rw [if_neg hb],?_,fun b hb j hj=>by dsimp only; rw [if_pos hb,List.getElem?_eq_none (by omega)],?_⟩
 · split at hy
   · rename_i hb
     have hob:=QtN h2 hb
     have:=h2.cells hob j y hy
     rwa [QbX,Nat.zero_add] at this
   · exact h.obs.fro b j y hy
 · split at hy
   · rename_i hb
     exact h.obs.kept o u b hB hb
   · exact h.ext.new b j y hy hn
 · rcases h2.2 with ⟨rfl,rfl⟩ | ⟨b,cap,cur,rfl,q1,q2,q3,q4,q5,q6⟩
   · exact .slf f2 f1 f3 (Nat.le_refl _) (by unfold maxLen; omega) (fun _=>rfl) 0 0 (fun _ _=>undef) (fun hc=>by omega) (fun i hi=>by omega) (fun i hi=>by omega) (fun i hi=>by omega)
   · have hij:∀ i j,i<n→j<k→i * k+j<vs.length:=by
      intro i j hi hj
      have:=Nat.mul_le_mul_right k (show i+1≤n from hi)
      rw [Nat.succ_mul] at this; omega
     refine .slf f2 f1 f3 q3 q4 (fun hc=>by cases hc) b 0 (fun i j=>(vs[i * k+j]?).getD undef) (fun _=>rfl) (fun i hi j hj=>?_) (fun i hi=>(h3 i hi).1) (fun i hi j y hy=>?_)
     · show (if blk (Value.slice (some ⟨b,0,none⟩) n cap)=some b then vs[0+i * k+j]? else g.H b (0+i * k+j))=_
       rw [if_pos (by rfl),Nat.zero_add,List.getElem?_eq_getElem (hij i j hi hj)]; rfl
     · obtain ⟨v,r1,r2⟩:=(h3 i hi).2 j y hy
       rw [r1]; exact r2.mono hle
 · intro hu8
   rcases h2.2 with ⟨rfl,rfl⟩ | ⟨b,cap,cur,rfl,q1,q2,q3,q4,q5,q6⟩
   · exact .inl rfl
   · exact .inr ⟨b,n,cap,cur,rfl,q1,q2.plain hu8,q3,q4,q5,fun j hj=>by show (if blk (Value.slice (some ⟨b,0,none⟩) n cap)=some b then vs[j]? else g.H b j)=none; rw [if_pos (by rfl),List.getElem?_eq_none (by omega)]⟩
theorem QjI {w:World} {lo k n:Nat} {e:TypeId} {u:Value} {vs:List Value} {u8:Bool} (h:Qcg w lo e k u n vs u8):fixV u=false:=by
 rcases h.2 with ⟨rfl,_⟩ | ⟨g,cap,cur,rfl,_⟩ <;> rfl
theorem Real.freeze (h:Real w0 H0 m s g a w) (o:Nat):∃ g',Real w0 H0 m (freeze s o) g' a w:=by
 unfold Go.Proofs.YtmbmbcamecfnkaaGreatDoor.freeze
 split
 · rename_i e x ho
   rw [Qap] at ho
   split
   · rename_i hno
     rw [Bool.and_eq_true] at hno
     have hlt:=(List.getElem?_eq_some_iff.1 ho).1
     obtain ⟨u,hB⟩:=h.full o hlt
     obtain ⟨k,n,get,vs,h1,h2r,_⟩:=h.obs.hold o _ u ho hB
     obtain ⟨H',r1,r2,r3,r4,r5,r6⟩:=h.rowH hB ho h1
     exact ⟨_,QgI h hB (QjI h2r) hlt r1 r2 (Nat.le_refl _) (fun _ _ _=>rfl) (fun b hb _ j=>r3 b hb j) (fun b hb=>⟨h.obs.lt o u b hB hb,.inl hb⟩) (x':=.gone) trivial hno.2
      (Qqh h r2 (fun o' hne v hv=>by rw [if_neg hne]; exact hv) hno.1 (fun v hv=>by cases hv with | wr hb=>rw [hB] at hb; cases hb; exact .f r4))⟩
   · exact ⟨g,h⟩
 · exact ⟨g,h⟩
theorem Qgj (h:Real w0 H0 m s g a w) {o:Nat} {s':PS} {x:Lf} (ht:QlQ s o=some (s',x)):∃ g',Real w0 H0 m s' g' a w∧g.H.le g'.H∧∀ v,PR g.H g.B v (.wr o)→PR g'.H g'.B v (.tl o x):=by
 unfold QlQ at ht
 split at ht
 · rename_i e y ho
   rw [Qap] at ho
   split at ht
   · rename_i k n get hv hno
     cases ht
     rw [Bool.and_eq_true] at hno
     obtain ⟨hu8,hno⟩:=hno
     rw [Bool.not_eq_true'] at hu8
     rw [Bool.and_eq_true] at hno
     have hlt:=(List.getElem?_eq_some_iff.1 ho).1
     obtain ⟨u,hB⟩:=h.full o hlt
     obtain ⟨k9,n9,get9,vs9,h19,h2r,_⟩:=h.obs.hold o _ u ho hB
     obtain ⟨H',r1,r2,r3,r4,r5,r6⟩:=h.rowH hB ho hv
     have hw:∀ v,PR g.H g.B v (.wr o)→PR H' (fun o'=>if o'=o then some u else g.B o') v (.tl o x):=fun v hv=>by cases hv with | wr hb=>rw [hB] at hb; cases hb; exact .tl r4 (if_pos rfl)
     exact ⟨_,QgI h hB (QjI h2r) hlt r1 r2 (Nat.le_refl _) (fun _ _ _=>rfl) (fun b hb _ j=>r3 b hb j) (fun b hb=>⟨h.obs.lt o u b hB hb,.inl hb⟩) (x':=.tail e k) (r6 hu8) hno.2
      (Qqh h r2 (fun o' hne v hv=>by rw [if_neg hne]; exact hv) hno.1 hw),r2,hw⟩
   · cases ht
 · cases ht
theorem QrI {x:Lf} (h:Qp7 x=true) {k n:Nat} {get:Nat→List Lf} (hv:x.view0=some (k,n,get)):n=0:=by
 unfold Qp7 at h
 split at h
 · cases hv; rfl
 · cases h
theorem QrH {x:Lf} (h:Qp7 x=true):isU8 x=false:=by
 unfold Qp7 at h
 split at h
 · rfl
 · cases h
theorem Qhj (h:Real w0 H0 m s g a w) {o:Nat} {v u:Value} {x z:Lf} {e:TypeId} {n':Nat} {gx gz:Nat→List Lf} (t ty:TypeId) (i:TypeInfo) (zv:Value) (ht:P.underlying t=some (.slice e)) (hi:P.info? e=some i) (hz:i.zero=some zv)
  (hzs:zv.cells.size=i.size) (hsz:0<i.size) (hx:PR g.H g.B v (.wr o)) (ho:s.ob[o]?=some (.own e x)) (hu:Rd g.H u z) (hvx:x.view0=some (i.size,0,gx)) (hu8:isU8 x=false) (hvz:z.view0=some (i.size,n',gz))
  (h63:n'≤maxLen) (hbytes:n' * i.bytes≤140737488355328) (hE:noE o (frE o .any s.env)=true) (hOb:noO o s.ob=true) :
  ∃ v' w' g',(Builtin.append_ #[t,t] ty #[v,u]).run P w=.ok v' w'∧Real w0 H0 m ⟨frE o .any s.env,setL s.ob o (.own e z)⟩ g' a w'∧PR g'.H g'.B v' (.wr o):=by
 have hlt:=(List.getElem?_eq_some_iff.1 ho).1
 cases hx with
 | @wr _ v0 hB _ =>
 obtain ⟨ao,n,cap,rfl⟩:=h.obs.ownS ho hB
 obtain ⟨k,gx',vs,h1,h2,h3,h4⟩:=h.obs.own ho hB
 rw [hvx] at h1
 cases h1
 replace h2:=h2.row hu8
 obtain rfl:vs=[]:=List.length_eq_zero_iff.1 (by have:=h2.1; omega)
 obtain ⟨ao',cap',val',rfl,hcap',h0',hl2,hr2,b2,o2,hb2,hcell2⟩:=Qfy hu (Lf.view0_facts hvz).1
 have key:∃ v' w',(Builtin.append_ #[t,t] ty #[.slice ao 0 cap,.slice ao' n' cap']).run P w=.ok v' w'∧w'.ownsRow 0 e i.size v' n' (QbR i.size n' val')∧w.grownBy w' (Value.slice ao 0 cap).ownBlock ∧
   (∀ b,v'.ownBlock=some b→(Value.slice ao 0 cap).ownBlock=some b∨w.heap.size≤b):=by
  cases ao' with
  | some ad =>
   obtain ⟨v',w',r1,r2,r3,r4,_⟩:=QfE (P:=P) (w:=w) 0 t ty e i zv ht hi hz hzs hsz _ 0 [] h2 ad n' cap' (QbR i.size n' val') (QaY _ _ _) (fun j y hy=>by
    have hj:j<n' * i.size:=by
     have:=(List.getElem?_eq_some_iff.1 hy).1
     rwa [QaY] at this
    obtain ⟨_,q2,_⟩:=Qb4 hj
    have hbb:=hb2 (Nat.lt_of_le_of_lt (Nat.zero_le _) q2)
    cases hbb
    rw [QbX]
    exact h.ext.fro _ _ _ ((hcell2 j hj).trans hy)) (QjX hl2 hr2) (by omega) (by rw [Nat.zero_add]; exact hbytes) (Nat.zero_le _)
   rw [Nat.zero_add,List.nil_append] at r2
   exact ⟨v',w',r1,r2,r3,fun b hb=>(r4 b hb).imp id (fun h=>by omega)⟩
  | none =>
   have hc0:=h0' rfl
   subst hc0
   obtain rfl:n'=0:=by omega
   refine ⟨_,w,run_append_owned_none w 0 t ty e i i.size ht hi _ 0 _ h2,?_,⟨rfl,rfl,rfl,Nat.le_refl _,fun _ _ _=>rfl⟩,fun b hb=>.inl hb⟩
   have:QbR i.size 0 val'=[]:=List.length_eq_zero_iff.1 (by rw [QaY]; omega)
   rw [this]; exact h2
 obtain ⟨v',w',hr,hown,hgr,hblk⟩:=key
 have hsl:∃ ao2 cap2,v'=.slice ao2 n' cap2:=by
  rcases hown.2 with ⟨rfl,rfl⟩ | ⟨gg,c,cur,rfl,_⟩
  · exact ⟨_,_,rfl⟩
  · exact ⟨_,_,rfl⟩
 have hbk:(Value.slice ao 0 cap).ownBlock=blk (Value.slice ao 0 cap):=by cases ao <;> rfl
 have hvb:v'.ownBlock=blk v':=by
  obtain ⟨ao2,cap2,rfl⟩:=hsl
  cases ao2 <;> rfl
 have hnoH:∀ b,blk v'=some b→∀ j,g.H b j=none:=by
  intro b hb j
  rcases hblk b (by rw [hvb]; exact hb) with h5 | h5
  · exact h4 b (by rw [← hbk]; exact h5) j
  · cases hh:g.H b j with
    | none=>rfl
    | some y=>have:=h.obs.fro.lt hh; omega
 have hext:ExtK w0 H0 w' g.H:=by
  refine h.ext.grown hgr (fun b hb=>h.obs.kept o _ b hB (by rw [← hb]; exact hbk.symm)) h.ext.le (fun b j y hy=>?_) h.ext.new
  refine hgr.cell (a:=⟨b,j,none⟩) (h.obs.fro b j y hy) (fun hc=>?_)
  rw [h4 b (by rw [← hbk]; exact hc.symm) j] at hy
  cases hy
 have hle:=Hp.le_refl g.H
 refine ⟨v',w',_,hr,QgI h (u':=v') (x':=.own e z) hB rfl hlt hext hle hgr.size (fun b hb hne=>hgr.block b hb (fun hc=>hne (by rw [← hbk]; exact hc.symm))) (fun _ _ _ _=>rfl) (fun b hb=>?_) ?_ hOb
  (Qqh h hle (fun o' hne v hv=>by rw [if_neg hne]; exact hv) hE (fun _ _=>.any)),?_⟩
 · rw [← hvb] at hb
   exact ⟨(hown.lt b hb).2,by rw [← hbk]; exact hblk b hb⟩
 · refine ⟨i.size,n',gz,_,hvz,.of hown,fun q hq=>⟨hl2 q hq,fun j y hy=>?_⟩,hnoH⟩
   have hj:j<i.size:=by rw [← hl2 q hq]; exact (List.getElem?_eq_some_iff.1 hy).1
   exact ⟨_,QiR hq hj,hr2 q hq j y hy⟩
 · obtain ⟨ao2,cap2,rfl⟩:=hsl
   exact .wr (if_pos rfl) rfl
theorem QqN (h:Real w0 H0 m s g a w) {z:Lf} {t ty:TypeId} {v u:Value} {x:PV} {p:Prop} {s':PS} {r:PV} (hx:PR g.H g.B v x) (hu:PR g.H g.B u (.f z)) (hap:appB P s t x z=some (p,s',r)) (hp:p) :
  ∃ v' w' g',(Builtin.append_ #[t,t] ty #[v,u]).run P w=.ok v' w'∧Real w0 H0 m s' g' a w'∧PR g'.H g'.B v' r:=by
 unfold appB at hap
 split at hap
 · exact QdF h hx hu hap hp
 · rename_i o
   split at hap
   · rename_i e x ho
     split at hap
     · rename_i hnil
       rw [Bool.and_eq_true] at hnil
       have hnil:=hnil.1
       split at hap
       · rename_i e' k b n r2 hE hvz hno
         split at hap
         · rename_i hk
           cases hap
           rw [Bool.and_eq_true] at hno hk
           obtain rfl:=Nat.eq_of_beq_eq_true hk.1
           obtain ⟨hk1,hk2⟩:=hk
           rw [Qap] at ho
           split at hk2
           · rename_i k' n0 gx hvx
             obtain rfl:=Nat.eq_of_beq_eq_true hk2
             obtain rfl:=QrI hnil hvx
             unfold appE at hE
             split at hE
             · rename_i e2 he
               split at hE
               · rename_i i k2 n2 gz hi hv2
                 split at hE
                 · rename_i zv hz
                   split at hE
                   · rename_i q1 q2
                     simp only [Bool.and_eq_true] at q2
                     cases hE
                     obtain rfl:=Nat.eq_of_beq_eq_true q1
                     have hvz':=hvz
                     rw [(Lf.view0_facts hvz).1] at hv2
                     cases hv2
                     exact Qhj h t ty i zv (Qbq he) hi hz (Nat.eq_of_beq_eq_true q2.1) (Nat.le_of_ble_eq_true q2.2) hx ho hu.rd hvx (QrH hnil) hvz hp.1 hp.2 hno.1 hno.2
                   · cases hE
                 · cases hE
               · cases hE
             · cases hE
           · cases hk2
         · cases hap
       · cases hap
     · split at hap
       · rename_i s1 y ht
         obtain ⟨g1,h1,h2,h3⟩:=Qgj h ht
         have hu':PR g1.H g1.B u (.f z):=.f (hu.rd.mono h2)
         exact QdF h1 (h3 v hx) hu' hap hp
       · cases hap
   · cases hap
 · have hv:=hx.val
   subst hv
   split at hap
   · rename_i e k b n kd hE hem
     obtain ⟨g1,h1,h2,h3,h4⟩:=Qdv h e k
     refine QdF h2 (.tl (.sl (f:=.is kd []) rfl trivial (Nat.le_refl _) (by unfold maxLen; omega) (fun _=>rfl) 0 0 (fun _ _=>undef) (fun hc=>absurd hc (Nat.lt_irrefl 0)) (fun i hi=>absurd hi (Nat.not_lt_zero i)) (fun i hi=>absurd hi (Nat.not_lt_zero i)) (fun i hi=>absurd hi (Nat.not_lt_zero i))) h3) (by rw [h1]; exact hu.mono (Hp.le_refl _) h4) hap hp
   · rename_i e k b n j hE hem
     split at hap
     · obtain ⟨g1,h1,h2,h3,h4⟩:=Qdv h e k
       refine QdF h2 (.tl (.sl (f:=.row j []) rfl trivial (Nat.le_refl _) (by unfold maxLen; omega) (fun _=>rfl) 0 0 (fun _ _=>undef) (fun hc=>absurd hc (Nat.lt_irrefl 0)) (fun i hi=>absurd hi (Nat.not_lt_zero i)) (fun i hi=>absurd hi (Nat.not_lt_zero i)) (fun i hi=>absurd hi (Nat.not_lt_zero i))) h3) (by rw [h1]; exact hu.mono (Hp.le_refl _) h4) hap hp
     · cases hap
   · rename_i e k b n d hE hem
     obtain ⟨g1,h1,h2,h3,h4⟩:=Qdv h e k
     exact QdF h2 (.tl (QkW (x:=.dt d []) rfl (fun _=>rfl) trivial) h3) (by rw [h1]; exact hu.mono (Hp.le_refl _) h4) hap hp
   · cases hap
 · cases hap
theorem Real.frzX (os:List Oper):∀ (l:List Operand) {s:PS} {g:Gh},Real w0 H0 m s g a w→∃ g',Real w0 H0 m (frzX os s l) g' a w
 | [],s,g,h=>⟨g,h⟩
 | .tmp d::l,s,g,h=>by
  unfold Go.Proofs.YtmbmbcamecfnkaaGreatDoor.frzX
  split
  · rename_i o ho
    obtain ⟨g1,h1⟩:=h.freeze o
    exact Real.frzX os l h1
  · exact Real.frzX os l h
 | .const _::l,s,g,h=>Real.frzX os l h
 | .global _::l,s,g,h=>Real.frzX os l h
 | .func _::l,s,g,h=>Real.frzX os l h
theorem Real.frzOps (os:List Oper):∀ (l:List Oper) {s:PS} {g:Gh},Real w0 H0 m s g a w→∃ g',Real w0 H0 m (frzOps os s l) g' a w
 | [],s,g,h=>⟨g,h⟩
 | o::l,s,g,h=>by
  obtain ⟨g1,h1⟩:=Real.frzX os (hardL o.op) h
  exact Real.frzOps os l h1
theorem Qd0 {D:List Nat} {d:Nat} {x:PV} {l:List (Nat × PV)}:∀ {os:List Oper},look (Qn5 D os l) d=some x→x=.any∨look l d=some x
 | [],h=>.inr h
 | o::os,h=>by
  unfold Qn5 at h
  split at h
  · split at h
    · rw [QaC] at h
      split at h
      · cases h; exact .inl rfl
      · exact Qd0 h
    · exact Qd0 h
  · exact Qd0 h
theorem QjE (h:Real w0 H0 m s g a w) (os:List Oper):∃ g',Real w0 H0 m (prep s os) g' a w:=by
 obtain ⟨g1,h1⟩:=Real.frzOps os os h
 refine ⟨g1,h1.ext,h1.obs,h1.full,fun d x hx=>?_,h1.sz,h1.dfr,h1.ptr⟩
 rcases Qd0 hx with rfl | hx
 · exact .any
 · exact h1.env d x hx
theorem Qnf {a b:Nat} (h:Nat.blt a b=true):a<b:=Eq.mp Nat.blt_eq h
theorem QgF (σ:Nat→Nat):∀ (l:List PV) (i:Nat),(renL σ l)[i]?=(l[i]?).map (renT σ)
 | [],i=>by simp [renL]
 | x::l,0=>by simp [renL]
 | x::l,i+1=>by simp [renL,QgF σ l i]
theorem Qcp (σ:Nat→Nat):∀ (l:List PV),(renL σ l).length=l.length
 | []=>rfl
 | x::l=>by simp [renL,Qcp σ l]
theorem Qc6 {p:Nat→Bool}:∀ {l:List PV},Qe2 p l=true→∀ (i:Nat) x,l[i]?=some x→allH p x=true
 | [],_,i,x,h=>by simp at h
 | y::l,h,i,x,hx=>by
  simp only [Qe2] at h
  split at h
  · rename_i hy
    cases i with
    | zero=>simp at hx; subst hx; exact hy
    | succ i=>exact Qc6 h i x (by simpa using hx)
  · cases h
theorem QfU {σ:Nat→Nat} {p:Nat→Bool} {vs:Array Value} {l:List PV} {R:Value→PV→Prop} (hp:Qe2 p l=true) (h:∀ (i:Nat) v x,vs[i]?=some v→l[i]?=some x→allH p x=true→R v (renT σ x)):∀ (i:Nat) v x,vs[i]?=some v→(renL σ l)[i]?=some x→R v x:=by
 intro i v x hv hx
 rw [QgF] at hx
 cases hy:l[i]? with
 | none=>rw [hy] at hx; cases hx
 | some y=>rw [hy] at hx; cases hx; exact h i v y hv hy (Qc6 hp i y hy)
theorem PR.ren {H:Hp} {B B':Hd} {σ:Nat→Nat} {p:Nat→Bool} (hB:∀ o u,p o=true→B o=some u→B' (σ o)=some u) {v:Value} {x:PV} (h:PR H B v x):allH p x=true→PR H B' v (renT σ x):=by
 induction h with
 | f h=>intro _; exact .f h
 | bp h=>intro hp; exact .bp (hB _ _ hp h)
 | ep b o val hc h=>intro _; exact .ep b o val hc h
 | tl h hb=>intro hp; exact .tl h (hB _ _ hp hb)
 | wr hb h1=>intro hp; exact .wr (hB _ _ hp hb) h1
 | wp hb hi=>intro hp; exact .wp (hB _ _ hp hb) hi
 | any=>intro _; exact .any
 | agg hn h ih=>intro hp; exact .agg (by rw [Qcp]; exact hn) (QfU (by simpa [allH] using hp) ih)
 | tup hn h ih=>intro hp; exact .tup (by rw [Qcp]; exact hn) (QfU (by simpa [allH] using hp) ih)
 | fn hm h1 hn h2 ih1 ih2 =>
  intro hp
  unfold allH at hp
  split at hp
  · rename_i hl; exact .fn (by rw [Qcp]; exact hm) (QfU hl ih1) (by rw [Qcp]; exact hn) (QfU hp ih2)
  · cases hp
 | ifc h ih=>intro hp; exact .ifc (ih (by simpa [allH] using hp))
mutual
theorem QkS:∀ x:PV,renT (fun o=>o) x=x
 | .f _ | .bp .. | .ep _ | .tl .. | .wr _ | .wp .. | .any=>rfl
 | .agg l=>by simp only [renT,QgE l]
 | .tup l=>by simp only [renT,QgE l]
 | .fn f l m=>by simp only [renT,QgE l,QgE m]
 | .ifc t x=>by simp only [renT,QkS x]
theorem QgE:∀ l:List PV,renL (fun o=>o) l=l
 | []=>rfl
 | x::l=>by simp only [renL,QkS x,QgE l]
end
theorem PR.stay {H:Hp} {B B':Hd} {p:Nat→Bool} (hB:∀ o u,p o=true→B o=some u→B' o=some u) {v:Value} {x:PV} (h:PR H B v x) (hp:allH p x=true):PR H B' v x:=by
 have:=h.ren (σ:=fun o=>o) hB hp
 rwa [QkS] at this
theorem PRs.ren {H:Hp} {B B':Hd} {σ:Nat→Nat} {p:Nat→Bool} (hB:∀ o u,p o=true→B o=some u→B' (σ o)=some u) {vs:List Value} {l:List PV} (h:PRs H B vs l) (hp:Qe2 p l=true):PRs H B' vs (renL σ l):=by
 refine ⟨by rw [Qcp]; exact h.1,fun i v x hv hx=>?_⟩
 rw [QgF] at hx
 cases hy:l[i]? with
 | none=>rw [hy] at hx; cases hx
 | some y=>rw [hy] at hx; cases hx; exact (h.2 i v y hv hy).ren hB (Qc6 hp i y hy)
theorem PO.ren {w:World} {H:Hp} {B B':Hd} {lo:Nat} {σ:Nat→Nat} {p:Nat→Bool} (hB:∀ o u,p o=true→B o=some u→B' (σ o)=some u) {u:Value} {x:PO} (h:x.holds w H B lo u) (hp:Qkn p x=true):(renO σ x).holds w H B' lo u:=by
 cases x with
 | cells l =>
  obtain ⟨b,vs,rfl,h1,h2,h3,h4,h5⟩:=h
  refine ⟨b,vs,rfl,h1,by rw [Qcp]; exact h2,fun i v x hv hx=>?_,h4,h5⟩
  rw [QgF] at hx
  cases hy:l[i]? with
  | none=>rw [hy] at hx; cases hx
  | some y=>rw [hy] at hx; cases hx; exact (h3 i v y hv hy).ren hB (Qc6 hp i y hy)
 | own e x=>exact h
 | tail e k=>exact h
 | gone=>trivial
 | map t has get ks vs =>
  obtain ⟨b,es,clock,l,rfl,h1,h2,h3,h4,h5⟩:=h
  refine ⟨b,es,clock,l,rfl,h1,h2,h3,h4,fun key=>QdW (Hp.le_refl _) key _ (Qcp σ vs) (fun i x hx=>?_) (h5 key)⟩
  rw [QgF] at hx
  cases hy:vs[i]? with
  | none=>rw [hy] at hx; cases hx
  | some y=>rw [hy] at hx; cases hx; exact ⟨y,rfl,fun v hv=>hv.ren hB (Qc6 hp i y hy)⟩
 | bld T y =>
  obtain ⟨b,p,v,rfl,h1,h2,h3,h4⟩:=h
  exact ⟨b,p,v,rfl,h1,h2,h3.ren hB hp,h4⟩
theorem PO.stay {w w':World} {H H':Hp} {B B':Hd} {lo:Nat} {u:Value} {x:PO} (h:x.holds w H B lo u) (hb:∀ b,blk u=some b→w'.heap[b]?=w.heap[b]?∧∀ j,H' b j=H b j) (hsz:w.heap.size≤w'.heap.size) (hle:H.le H') {p:Nat→Bool}
  (hB:∀ o u,p o=true→B o=some u→B' o=some u) (hp:Qkn p x=true):x.holds w' H' B' lo u:=by
 cases x with
 | cells l =>
  obtain ⟨b,vs,rfl,h1,h2,h3,h4,h5⟩:=h
  obtain ⟨e1,e2⟩:=hb b rfl
  exact ⟨b,vs,rfl,⟨fun j hj=>(World.cell?_of_block (a:=⟨b,j,none⟩) e1).trans (h1.cells j hj),fun j=>(World.frozen?_of_block (a:=⟨b,j,none⟩) e1).trans (h1.free j),Nat.lt_of_lt_of_le h1.lt hsz⟩,h2,fun i v x hv hx=>((h3 i v x hv hx).stay hB (Qc6 hp i x hx)).mono hle (fun _ _ h=>h),h4,fun j=>(e2 j).trans (h5 j)⟩
 | own e x=>exact PO.carry (o:=0) (B':=B) (B:=B) h hb hsz hle (fun _ _ _ h=>h) rfl
 | tail e k=>exact PO.carry (o:=0) (B':=B) (B:=B) h hb hsz hle (fun _ _ _ h=>h) rfl
 | gone=>trivial
 | map t has get ks vs =>
  obtain ⟨b,es,clock,l,rfl,h1,h2,h3,h4,h5⟩:=h
  obtain ⟨e1,e2⟩:=hb b rfl
  exact ⟨b,es,clock,l,rfl,by rw [e1]; exact h1,h2,h3,fun j=>(e2 j).trans (h4 j),fun key=>QdW hle key _ rfl (fun i x hx=>⟨x,hx,fun v hv=>(hv.stay hB (Qc6 hp i x hx)).mono hle (fun _ _ h=>h)⟩) (h5 key)⟩
 | bld T y =>
  obtain ⟨b,p,v,rfl,h1,h2,h3,h4,h5⟩:=h
  obtain ⟨e1,e2⟩:=hb b rfl
  exact ⟨b,p,v,rfl,by rw [e1]; exact h1,h2,(h3.stay hB hp).mono hle (fun _ _ h=>h),h4,fun j=>(e2 j).trans (h5 j)⟩
mutual
theorem Qhf:∀ x:PV,allH (fun _=>true) x=true
 | .f _=>rfl
 | .bp _ _=>rfl
 | .ep _=>rfl
 | .tl _ _=>rfl
 | .wr _=>rfl
 | .wp _ _ _=>rfl
 | .any=>rfl
 | .agg l=>Qb5 l
 | .tup l=>Qb5 l
 | .fn _ l m=>by simp only [allH,Qb5 l,Qb5 m]
 | .ifc _ x=>Qhf x
theorem Qb5:∀ l:List PV,Qe2 (fun _=>true) l=true
 | []=>rfl
 | x::l=>by simp only [Qe2,Qhf x,Qb5 l]
end
theorem QsH (o:Nat) (y:PV):∀ (l:List PV) (i:Nat),(frL o y l)[i]?=(l[i]?).map (frO o y)
 | [],i=>by simp [frL]
 | x::l,0=>by simp [frL]
 | x::l,i+1=>by simp [frL,QsH o y l i]
theorem Qqi (o:Nat) (y:PV):∀ (l:List PV),(frL o y l).length=l.length
 | []=>rfl
 | x::l=>by simp [frL,Qqi o y l]
theorem QsI (o:Nat) (y:PV):∀ (l:List PO) (i:Nat),(frB o y l)[i]?=(l[i]?).map (frPO o y)
 | [],i=>by simp [frB]
 | x::l,0=>by simp [frB]
 | x::l,i+1=>by simp [frB,QsI o y l i]
theorem Qli (o:Nat) (y:PV):∀ (l:List PO),(frB o y l).length=l.length
 | []=>rfl
 | x::l=>by simp [frB,Qli o y l]
theorem QsG {H H':Hp} {B:Hd} {o:Nat} {y x:PV} {v:Value} (hle:H.le H') (hw:∀ v,PR H B v (.wr o)→PR H' B v y) (h:PR H B v x):PR H' B v (frO o y x):=by
 unfold frO
 split
 · rename_i o'
   split
   · rename_i he
     obtain rfl:=Nat.eq_of_beq_eq_true he
     exact hw v h
   · exact h.mono hle (fun _ _ h=>h)
 · split
   · exact .any
   · exact h.mono hle (fun _ _ h=>h)
 · exact h.mono hle (fun _ _ h=>h)
theorem Real.freezeB {w0:Cx} {w:World} {H0:Hp} {m:Nat} {s:PS} {g:Gh} {a:Act} (h:Real w0 H0 m s g a w) (o:Nat):∃ g',Real w0 H0 m (freezeB s o) g' a w:=by
 unfold Go.Proofs.YtmbmbcamecfnkaaGreatDoor.freezeB
 split
 · rename_i e x ho
   rw [Qap] at ho
   split
   · rename_i r hv
     obtain ⟨k,n,get⟩:=r
     have hlt:=(List.getElem?_eq_some_iff.1 ho).1
     obtain ⟨u,hB⟩:=h.full o hlt
     obtain ⟨H',r1,r2,r3,r4,r5,r6⟩:=h.rowH hB ho hv
     have hw:∀ v,PR g.H g.B v (.wr o)→PR H' g.B v (.f x):=fun v hv=>by cases hv with | wr hb=>rw [hB] at hb; cases hb; exact .f r4
     refine ⟨⟨H',g.B⟩,r1,⟨r1.fro,h.obs.lt,fun o' x' u' hx' hu'=>?_,h.obs.apart,fun o' u' hu'=>by rw [QaR,Qli]; exact h.obs.dom o' u' hu',h.obs.kept⟩,fun o' ho'=>by rw [QaR,Qli] at ho'; exact h.full o' ho',fun d y hy=>?_,h.sz,h.dfr,h.ptr⟩
     · rw [Qcw,List.getElem?_set] at hx'
       by_cases hoo:o=o'
       · subst hoo
         rw [if_pos rfl] at hx'
         split at hx'
         · cases hx'; trivial
         · cases hx'
       · rw [if_neg hoo,QsI] at hx'
         cases hy:s.ob[o']? with
         | none=>rw [hy] at hx'; cases hx'
         | some y =>
          rw [hy] at hx'
          cases hx'
          have hh:=h.obs.hold o' y u' hy hu'
          have hap:∀ b,blk u'=some b→∀ j,H' b j=g.H b j:=fun b hb j=>r3 b (fun hc=>h.obs.apart o o' u u' b hoo hB hu' hc hb) j
          cases y with
          | cells l =>
           obtain ⟨b,vs,rfl,h1,h2,h3,h4,h5⟩:=hh
           refine ⟨b,vs,rfl,h1,by rw [Qqi]; exact h2,fun i v z hv hz=>?_,h4,fun j=>(hap b rfl j).trans (h5 j)⟩
           rw [QsH] at hz
           cases hl:l[i]? with
           | none=>rw [hl] at hz; cases hz
           | some q=>rw [hl] at hz; cases hz; exact QsG r2 hw (h3 i v q hv hl)
          | own e' x'=>exact PO.stay (p:=fun _=>true) hh (fun b hb=>⟨rfl,hap b hb⟩) (Nat.le_refl _) r2 (fun _ _ _ h=>h) rfl
          | tail e' k'=>exact PO.stay (p:=fun _=>true) hh (fun b hb=>⟨rfl,hap b hb⟩) (Nat.le_refl _) r2 (fun _ _ _ h=>h) rfl
          | gone=>trivial
          | map t has get ks vs=>exact PO.stay (p:=fun _=>true) hh (fun b hb=>⟨rfl,hap b hb⟩) (Nat.le_refl _) r2 (fun _ _ _ h=>h) (Qb5 vs)
          | bld T y=>exact PO.stay (p:=fun _=>true) hh (fun b hb=>⟨rfl,hap b hb⟩) (Nat.le_refl _) r2 (fun _ _ _ h=>h) (Qhf y)
     · obtain ⟨z,h1,rfl⟩:=QiG hy
       exact QsG r2 hw (h.env d z h1)
   · exact ⟨g,h⟩
 · exact ⟨g,h⟩
theorem Real.frzAll {w0:Cx} {w:World} {H0:Hp} {m:Nat} {a:Act}:∀ (n:Nat) {s:PS} {g:Gh},Real w0 H0 m s g a w→∃ g',Real w0 H0 m (frzAll s n) g' a w
 | 0,s,g,h=>⟨g,h⟩
 | n+1,s,g,h=>by
  obtain ⟨g1,h1⟩:=h.freezeB n
  exact Real.frzAll n h1
theorem QbE {o:Nat}:∀ {l:List Nat},memN o l=true→l[idxN o l]?=some o
 | [],h=>by cases h
 | x::l,h=>by
  cases hx:Nat.beq x o with
  | true=>have e:=Nat.eq_of_beq_eq_true hx; simp only [idxN,hx]; simp [e]
  | false=>simp only [memN,hx] at h; simp only [idxN,hx]; simpa using QbE h
theorem Qcq {o:Nat}:∀ {l:List Nat},o∈l→memN o l=true
 | x::l,h=>by
  simp only [memN]
  split
  · rfl
  · rename_i hx
    rcases List.mem_cons.1 h with rfl | h
    · simp at hx
    · exact Qcq h
theorem QeF:∀ {l:List Nat},nodN l=true→∀ (i j o:Nat),l[i]?=some o→l[j]?=some o→i=j
 | [],_,i,j,o,hi,_=>by simp at hi
 | x::l,h,i,j,o,hi,hj=>by
  simp only [nodN] at h
  split at h
  · cases h
  · rename_i hx
    cases i with
    | zero =>
     cases j with
     | zero=>rfl
     | succ j =>
      simp at hi hj
      subst hi
      rw [Qcq (List.mem_of_getElem? hj)] at hx; cases hx
    | succ i =>
     cases j with
     | zero =>
      simp at hi hj
      subst hj
      rw [Qcq (List.mem_of_getElem? hi)] at hx; cases hx
     | succ j=>rw [QeF h i j o (by simpa using hi) (by simpa using hj)]
theorem Qi8 {p:Nat→Bool}:∀ {l:List Nat},allN p l=true→∀ o∈l,p o=true
 | x::l,h,o,ho=>by
  simp only [allN] at h
  split at h
  · rename_i hx
    rcases List.mem_cons.1 ho with rfl | ho
    · exact hx
    · exact Qi8 h o ho
  · cases h
theorem QoW (σ:Nat→Nat) (ob:List PO):∀ (ρ:List Nat) (i:Nat),(subO σ ob ρ)[i]?=(ρ[i]?).map fun o=>match nth ob o with | some x=>renO σ x | none=>.gone
 | [],i=>by simp [subO]
 | x::l,0=>by simp [subO]; rfl
 | x::l,i+1=>by simp [subO,QoW σ ob l i]
theorem QfO (σ:Nat→Nat) (ob:List PO):∀ (ρ:List Nat),(subO σ ob ρ).length=ρ.length
 | []=>rfl
 | x::l=>by simp [subO,QfO σ ob l]
def QjQ (g:Gh) (w:World) (ρ:List Nat) (b:Nat):Prop:=b<w.heap.size∧∀ o u,memN o ρ=true→g.B o=some u→blk u≠some b
def subB (g:Gh) (ρ:List Nat):Hd:=fun i=>(ρ[i]?).bind g.B
theorem Qfb {g:Gh} {ρ:List Nat} {i:Nat} {u:Value} (h:subB g ρ i=some u):∃ o,ρ[i]?=some o∧memN o ρ=true∧g.B o=some u:=by
 unfold subB at h
 cases ho:ρ[i]? with
 | none=>rw [ho] at h; cases h
 | some o=>rw [ho] at h; exact ⟨o,rfl,Qcq (List.mem_of_getElem? ho),h⟩
theorem QdN {g:Gh} {ρ:List Nat} {o:Nat} {u:Value} (hm:memN o ρ=true) (h:g.B o=some u):subB g ρ (idxN o ρ)=some u:=by
 unfold subB
 rw [QbE hm]; exact h
theorem QhV {ob:List PO} {ρ:List Nat} (hc:chkR ob ρ=true):nodN ρ=true∧(∀ o,memN o ρ=true→o<ob.length)∧∀ o x,memN o ρ=true→ob[o]?=some x→Qkn (fun o'=>memN o' ρ) x=true:=by
 unfold chkR at hc
 simp only [Bool.and_eq_true] at hc
 obtain ⟨h1,h2,h3⟩:=hc
 refine ⟨h1,fun o ho=>?_,fun o x ho hx=>?_⟩
 · have:=Qi8 h2 o (List.mem_of_getElem? (QbE ho))
   exact Qnf this
 · have:=Qi8 h3 o (List.mem_of_getElem? (QbE ho))
   rw [Qap,hx] at this; exact this
theorem Obs.sub {K:Nat→Prop} {ob:List PO} {g:Gh} {w:World} (hO:Obs K ob g w) (hfull:∀ o,o<ob.length→∃ u,g.B o=some u) {ρ:List Nat} (hc:chkR ob ρ=true) :
  Obs (QjQ g w ρ) (subO (fun o=>idxN o ρ) ob ρ) ⟨g.H,subB g ρ⟩ w∧∀ i,i<(subO (fun o=>idxN o ρ) ob ρ).length→∃ u,subB g ρ i=some u:=by
 obtain ⟨h1,h2,h3⟩:=QhV hc
 refine ⟨⟨hO.fro,fun i u b hu hb=>?_,fun i x u hx hu=>?_,fun i i' u u' b hne hu hu' hb hb'=>?_,fun i u hu=>?_,fun i u b hu hb hk=>?_⟩,fun i hi=>?_⟩
 · obtain ⟨o,_,_,h⟩:=Qfb hu
   exact hO.lt o u b h hb
 · obtain ⟨o,hi,hm,h⟩:=Qfb hu
   rw [QoW,hi] at hx
   have hlt:=h2 o hm
   simp only [Option.map_some,Qap,List.getElem?_eq_getElem hlt,Option.some.injEq] at hx
   subst hx
   exact PO.ren (p:=fun o'=>memN o' ρ) (fun o' u' hp hu'=>QdN hp hu') (hO.hold o _ u (List.getElem?_eq_getElem hlt) h) (h3 o _ hm (List.getElem?_eq_getElem hlt))
 · obtain ⟨o,hi,_,h⟩:=Qfb hu
   obtain ⟨o',hi',_,h'⟩:=Qfb hu'
   refine hO.apart o o' u u' b (fun hc=>?_) h h' hb hb'
   subst hc
   exact hne (QeF h1 i i' o hi hi')
 · obtain ⟨o,hi,_,_⟩:=Qfb hu
   rw [QfO]
   exact (List.getElem?_eq_some_iff.1 hi).1
 · obtain ⟨o,_,hm,h⟩:=Qfb hu
   exact hk.2 o u hm h hb
 · rw [QfO] at hi
   have hm:=Qcq (List.getElem_mem hi)
   obtain ⟨u,hu⟩:=hfull _ (h2 _ hm)
   refine ⟨u,?_⟩
   unfold subB
   rw [List.getElem?_eq_getElem hi]; exact hu
theorem Qpt (τ:Nat→Nat):∀ (l:List PO) (i:Nat),(renB τ l)[i]?=(l[i]?).map (renO τ)
 | [],i=>by simp [renB]
 | x::l,0=>by simp [renB]
 | x::l,i+1=>by simp [renB,Qpt τ l i]
theorem Qmk (τ:Nat→Nat):∀ (l:List PO),(renB τ l).length=l.length
 | []=>rfl
 | x::l=>by simp [renB,Qmk τ l]
theorem Qpx (τ:Nat→Nat) (ob':List PO) (ρ:List Nat):∀ (l:List PO) (i o:Nat),(putO τ ob' ρ i l)[o]?=if o<l.length then (l[o]?).map (fun x=>match memN (i+o) ρ with | true=>(match nth ob' (idxN (i+o) ρ) with | some y=>renO τ y | none=>.gone) | false=>x) else (ob'[ρ.length+(o - l.length)]?).map (renO τ)
 | [],i,o=>by simp [putO,Qpt,List.getElem?_drop]
 | x::l,i,0=>by simp [putO]; rfl
 | x::l,i,o+1=>by
  simp only [putO,List.getElem?_cons_succ,List.length_cons,Nat.add_lt_add_iff_right]
  rw [Qpx τ ob' ρ l (i+1) o,show i+1+o=i+(o+1) by omega,show o+1 - (l.length+1)=o - l.length by omega]
theorem Qiu (τ:Nat→Nat) (ob':List PO) (ρ:List Nat):∀ (l:List PO) (i:Nat),(putO τ ob' ρ i l).length=l.length+(ob'.length - ρ.length)
 | [],i=>by simp [putO,Qmk]
 | x::l,i=>by simp only [putO,List.length_cons,Qiu τ ob' ρ l (i+1)]; omega
theorem flO_pr {H:Hp} {B:Hd} {o:Nat} {v:Value} {x:PV} (h:PR H B v x):PR H B v (flO o x):=by
 have flOL_all':∀ {vs:Array Value} {l:List PV} {R:Value→PV→Prop},(∀ (i:Nat) v x,vs[i]?=some v→l[i]?=some x→R v (flO o x))→∀ (i:Nat) v x,vs[i]?=some v→(flOL o l)[i]?=some x→R v x:=by
  intro vs l R h i v x hv hx
  rw [QgZ] at hx
  cases hy:l[i]? with
  | none=>rw [hy] at hx; cases hx
  | some y=>rw [hy] at hx; cases hx; exact h i v y hv hy
 induction h with
 | f h=>exact .f h
 | bp h=>exact .bp h
 | @tl o' v x h hb =>
  unfold flO
  split
  · exact .f h
  · exact .tl h hb
 | wr hb h1=>exact .wr hb h1
 | wp hb hi=>exact .wp hb hi
 | any=>exact .any
 | ep b o val hc h=>exact .ep b o val hc h
 | agg hn h ih=>exact .agg (by rw [QbG]; exact hn) (flOL_all' ih)
 | tup hn h ih=>exact .tup (by rw [QbG]; exact hn) (flOL_all' ih)
 | fn hm h1 hn h2 ih1 ih2=>exact .fn (by rw [QbG]; exact hm) (flOL_all' ih1) (by rw [QbG]; exact hn) (flOL_all' ih2)
 | ifc h ih=>exact .ifc ih
theorem Qg0 {ob:List PO} {H:Hp} {B:Hd} {vs:Nat→Value}:∀ (ρ:List Nat) {l:List (Nat × PV)},(∀ d x,look l d=some x→PR H B (vs d) x)→∀ d x,look (Qll ob ρ l) d=some x→PR H B (vs d) x
 | [],l,h,d,x,hx=>h d x hx
 | o::ρ,l,h,d,x,hx=>by
  unfold Qll at hx
  split at hx
  · refine Qg0 ρ (fun d x hx=>?_) d x hx
    obtain ⟨y,hy,rfl⟩:=QiH hx
    exact flO_pr (h d y hy)
  · exact Qg0 ρ h d x hx
theorem Qni {p:Nat→Bool}:∀ {l:List (Nat × PV)},QqO p l=true→∀ d x,look l d=some x→allH p x=true
 | [],_,d,x,h=>by simp [look] at h
 | (e,y)::l,h,d,x,hx=>by
  simp only [QqO] at h
  split at h
  · rename_i hy
    rw [QaC] at hx
    split at hx
    · cases hx; exact hy
    · exact Qni h d x hx
  · cases h
theorem Qnj {p:Nat→Bool}:∀ {l:List PO},QqP p l=true→∀ (i:Nat) x,l[i]?=some x→Qkn p x=true
 | [],_,i,x,h=>by simp at h
 | y::l,h,i,x,hx=>by
  simp only [QqP] at h
  split at h
  · rename_i hy
    cases i with
    | zero=>simp at hx; subst hx; exact hy
    | succ i=>exact Qnj h i x (by simpa using hx)
  · cases h
theorem Qek {ob:List PO} {ρ:List Nat}:∀ {l:List PO} {i:Nat},QdT ob ρ i l=true→∀ (o:Nat) x,l[o]?=some x→memN (i+o) ρ=false→Qkn (Qkz ob ρ) x=true
 | [],i,_,o,x,h,_=>by simp at h
 | y::l,i,h,o,x,hx,hm=>by
  simp only [QdT] at h
  cases o with
  | zero =>
   simp at hx
   subst hx
   rw [Nat.add_zero] at hm
   rw [hm] at h
   dsimp only at h
   split at h
   · assumption
   · cases h
  | succ o =>
   have hx':l[o]?=some x:=by simpa using hx
   have hm':memN (i+1+o) ρ=false:=by rw [show i+1+o=i+(o+1) by omega]; exact hm
   split at h
   · exact Qek h o x hx' hm'
   · split at h
     · exact Qek h o x hx' hm'
     · cases h
theorem Real.back (h:Real w0 H0 m s g a w) {ρ:List Nat} (hc:chkR s.ob ρ=true) (hE:QqO (Qkz s.ob ρ) (Qll s.ob ρ s.env)=true) (hot:QdT s.ob ρ 0 s.ob=true) {w':World} {g':Gh} {ob':List PO}
  (hext:ExtK ⟨QjQ g w ρ,w,subB g ρ,[]⟩ g.H w' g'.H) (hO':Obs (QjQ g w ρ) ob' g' w') (hf':∀ i,i<ob'.length→∃ u,g'.B i=some u) (hptr:∀ i p,FixB (subB g ρ) i p→g'.B i=some p)
  (hlen:ρ.length≤ob'.length) (hall:QqP (fun i=>Nat.blt i ob'.length) ob'=true) :
  ∃ g'',Real w0 H0 m (backS s ρ ob') g'' a w'∧g''.H=g'.H∧∀ i u,i<ob'.length→g'.B i=some u→g''.B (Qi4 s.ob.length ρ i)=some u:=by
 obtain ⟨hc1,hc2,hc3⟩:=QhV hc
 have hidx:∀ o,memN o ρ=true→idxN o ρ<ρ.length:=fun o ho=>(List.getElem?_eq_some_iff.1 (QbE ho)).1
 let B2:Hd:=fun o=>match memN o ρ with | true=>g'.B (idxN o ρ) | false=>if o<s.ob.length then g.B o else g'.B (ρ.length+(o - s.ob.length))
 have b1:∀ o,memN o ρ=true→B2 o=g'.B (idxN o ρ):=fun o ho=>by show (match memN o ρ with | true=>_ | false=>_)=_; rw [ho]
 have b2:∀ o,memN o ρ=false→o<s.ob.length→B2 o=g.B o:=fun o ho hl=>by show (match memN o ρ with | true=>_ | false=>_)=_; rw [ho]; exact if_pos hl
 have hge:∀ o,¬ o<s.ob.length→memN o ρ=false:=fun o ho=>by
  cases hm:memN o ρ with
  | false=>rfl
  | true=>exact absurd (hc2 o hm) ho
 have b3:∀ o,¬ o<s.ob.length→B2 o=g'.B (ρ.length+(o - s.ob.length)):=fun o hl=>by show (match memN o ρ with | true=>_ | false=>_)=_; rw [hge o hl]; exact if_neg hl
 -- where a handle comes from
 have src:∀ o u,B2 o=some u→(∃ i,g'.B i=some u∧((memN o ρ=true∧i=idxN o ρ)∨(¬ o<s.ob.length∧i=ρ.length+(o - s.ob.length))))∨(memN o ρ=false∧o<s.ob.length∧g.B o=some u):=by
  intro o u hu
  cases hm:memN o ρ with
  | true=>rw [b1 o hm] at hu; exact .inl ⟨_,hu,.inl ⟨rfl,rfl⟩⟩
  | false =>
   by_cases hl:o<s.ob.length
   · rw [b2 o hm hl] at hu; exact .inr ⟨rfl,hl,hu⟩
   · rw [b3 o hl] at hu; exact .inl ⟨_,hu,.inr ⟨hl,rfl⟩⟩
 have hkeep:∀ o u b,memN o ρ=false→g.B o=some u→blk u=some b→QjQ g w ρ b:=by
  intro o u b hm hu hb
  refine ⟨h.obs.lt o u b hu hb,fun o' u' hm' hu' hb'=>?_⟩
  exact h.obs.apart o o' u u' b (fun hc=>by rw [hc,hm'] at hm; cases hm) hu hu' hb hb'
 have hK0:∀ b,w0.K b→QjQ g w ρ b:=fun b hb=>⟨h.ext.kept b hb,fun o u _ hu hb'=>h.obs.kept o u b hu hb' hb⟩
 have hτ:∀ i u,i<ob'.length→g'.B i=some u→B2 (Qi4 s.ob.length ρ i)=some u:=by
  intro i u hi hu
  unfold Qi4
  rw [Qap]
  cases ho:ρ[i]? with
  | some o =>
   dsimp only
   have hm:=Qcq (List.mem_of_getElem? ho)
   rw [b1 o hm,QeF hc1 _ _ o (QbE hm) ho]; exact hu
  | none =>
   dsimp only
   have hil:ρ.length≤i:=by rw [List.getElem?_eq_none_iff] at ho; exact ho
   rw [b3 _ (by omega),show ρ.length+(s.ob.length+(i - ρ.length) - s.ob.length)=i by omega]; exact hu
 have hst:∀ o u,Qkz s.ob ρ o=true→g.B o=some u→B2 o=some u:=by
  intro o u hs hu
  unfold Qkz at hs
  split at hs
  · rename_i hm
    rw [b1 o hm]
    unfold Qp8 at hs
    split at hs
    · rename_i l hl
      rw [Qap] at hl
      obtain ⟨b,vs,rfl,_⟩:=h.obs.hold o _ u hl hu
      exact hptr _ _ ⟨QdN hm hu,rfl⟩
    · rename_i hl
      rw [Qap] at hl
      obtain ⟨b,es,clock,l,rfl,_⟩:=h.obs.hold o _ u hl hu
      exact hptr _ _ ⟨QdN hm hu,rfl⟩
    · rename_i hl
      rw [Qap] at hl
      obtain ⟨b,p,v,rfl,_⟩:=h.obs.hold o _ u hl hu
      exact hptr _ _ ⟨QdN hm hu,rfl⟩
    · cases hs
  · rename_i hm
    rw [b2 o hm (Qnf hs)]; exact hu
 have hsz:w.heap.size≤w'.heap.size:=hext.size
 have hnoH:∀ b,QjQ g w ρ b→∀ j,g'.H b j=g.H b j:=by
  intro b hb j
  cases hh:g.H b j with
  | some v=>exact hext.le b j v hh
  | none =>
   cases hh':g'.H b j with
   | none=>rfl
   | some v=>exact absurd hb (hext.new b j v hh' hh)
 refine ⟨⟨g'.H,B2⟩,⟨⟨hext.os.trans h.ext.os,hext.tape.trans h.ext.tape,hext.output.trans h.ext.output,Nat.le_trans h.ext.size hext.size,fun b hb=>(hext.block b (hK0 b hb)).trans (h.ext.block b hb),h.ext.lt,Hp.le_trans h.ext.le hext.le,hext.fro,fun b j v h1 h2 hb=>?_⟩,
  ⟨hO'.fro,fun o u b hu hb=>?_,fun o x u hx hu=>?_,fun o o' u u' b hne hu hu' hb hb'=>?_,fun o u hu=>?_,fun o u b hu hb=>?_⟩,fun o ho=>?_,fun d x hx=>?_,h.sz,h.dfr,fun o p hp=>?_⟩,rfl,hτ⟩
 · cases hh:g.H b j with
   | none=>exact hext.new b j v h1 hh (hK0 b hb)
   | some u=>exact h.ext.new b j u hh h2 hb
 · rcases src o u hu with ⟨i,h1,_⟩ | ⟨_,_,h1⟩
   · exact hO'.lt i u b h1 hb
   · exact Nat.lt_of_lt_of_le (h.obs.lt o u b h1 hb) hsz
 · have hx':(putO (Qi4 s.ob.length ρ) ob' ρ 0 s.ob)[o]?=some x:=hx
   rw [Qpx,Nat.zero_add] at hx'
   have hren:∀ i y,ob'[i]?=some y→g'.B i=some u→(renO (Qi4 s.ob.length ρ) y).holds w' g'.H B2 0 u:=fun i y hy hu' =>
    PO.ren (p:=fun i=>Nat.blt i ob'.length) (fun i u hi hu=>hτ i u (Qnf hi) hu) (hO'.hold i y u hy hu') (Qnj hall i y hy)
   rcases src o u hu with ⟨i,h1,⟨hm,rfl⟩ | ⟨hl,rfl⟩⟩ | ⟨hm,hl,h1⟩
   · rw [if_pos (hc2 o hm),List.getElem?_eq_getElem (hc2 o hm)] at hx'
     have hi:idxN o ρ<ob'.length:=Nat.lt_of_lt_of_le (hidx o hm) hlen
     simp only [Option.map_some,hm,Qap,List.getElem?_eq_getElem hi,Option.some.injEq] at hx'
     subst hx'
     exact hren _ _ (List.getElem?_eq_getElem hi) h1
   · rw [if_neg hl] at hx'
     cases hy:ob'[ρ.length+(o - s.ob.length)]? with
     | none=>rw [hy] at hx'; cases hx'
     | some y=>rw [hy] at hx'; cases hx'; exact hren _ _ hy h1
   · rw [if_pos hl,List.getElem?_eq_getElem hl] at hx'
     simp only [Option.map_some,hm,Option.some.injEq] at hx'
     subst hx'
     have hy:=List.getElem?_eq_getElem hl
     exact PO.stay (p:=Qkz s.ob ρ) (h.obs.hold o _ u hy h1) (fun b hb=>⟨hext.block b (hkeep o u b hm h1 hb),hnoH b (hkeep o u b hm h1 hb)⟩) hsz hext.le hst (Qek hot o _ hy (by rw [Nat.zero_add]; exact hm))
 · rcases src o u hu with ⟨i,h1,hi⟩ | ⟨hm,hl,h1⟩
   · rcases src o' u' hu' with ⟨i',h1',hi'⟩ | ⟨hm',hl',h1'⟩
     · refine hO'.apart i i' u u' b (fun hc=>?_) h1 h1' hb hb'
       subst hc
       rcases hi with ⟨hm,e⟩ | ⟨hl,e⟩
       · rcases hi' with ⟨hm',e'⟩ | ⟨hl',e'⟩
         · have e1:=QbE hm
           have e2:=QbE hm'
           rw [← e] at e1
           rw [← e',e1] at e2
           cases e2; exact hne rfl
         · have:=hidx o hm; omega
       · rcases hi' with ⟨hm',e'⟩ | ⟨hl',e'⟩
         · have:=hidx o' hm'; omega
         · exact hne (by omega)
     · exact hO'.kept i u b h1 hb (hkeep o' u' b hm' h1' hb')
   · rcases src o' u' hu' with ⟨i',h1',hi'⟩ | ⟨hm',hl',h1'⟩
     · exact hO'.kept i' u' b h1' hb' (hkeep o u b hm h1 hb)
     · exact h.obs.apart o o' u u' b hne h1 h1' hb hb'
 · show o<(putO (Qi4 s.ob.length ρ) ob' ρ 0 s.ob).length
   rw [Qiu]
   rcases src o u hu with ⟨i,h1,⟨hm,rfl⟩ | ⟨hl,rfl⟩⟩ | ⟨hm,hl,h1⟩
   · have:=hc2 o hm; omega
   · have:=hO'.dom _ _ h1; omega
   · omega
 · rcases src o u hu with ⟨i,h1,_⟩ | ⟨_,_,h1⟩
   · exact fun hk=>hO'.kept i u b h1 hb (hK0 b hk)
   · exact h.obs.kept o u b h1 hb
 · have ho':o<(putO (Qi4 s.ob.length ρ) ob' ρ 0 s.ob).length:=ho
   rw [Qiu] at ho'
   dsimp only
   cases hm:memN o ρ with
   | true=>rw [b1 o hm]; exact hf' _ (Nat.lt_of_lt_of_le (hidx o hm) hlen)
   | false =>
    by_cases hl:o<s.ob.length
    · rw [b2 o hm hl]; exact h.full o hl
    · rw [b3 o hl]; exact hf' _ (by omega)
 · have h1:PR g.H g.B (a.tmps.getD d undef) x:=Qg0 (vs:=fun d=>a.tmps.getD d undef) ρ (fun d x hx=>h.env d x hx) d x hx
   exact (h1.stay hst (Qni hE d x hx)).mono hext.le (fun _ _ h=>h)
 · have h1:=h.ptr o p hp
   dsimp only
   cases hm:memN o ρ with
   | true=>rw [b1 o hm]; exact hptr _ _ ⟨QdN hm h1,hp.2⟩
   | false=>rw [b2 o hm (h.obs.dom _ _ h1)]; exact h1
def Contract2 (P:Program) (E:Env) (f:FuncId) (sp:Spec2):Prop :=
 ∀ xs ob o,sp xs ob=some o→o.ok→∀ (K:Nat→Prop) (w:World) (g:Gh) (vs:List Value),(∀ b,K b→b<w.heap.size)→Obs K ob g w→(∀ i,i<ob.length→∃ u,g.B i=some u)→E K w g.H→PRs g.H g.B vs xs →
  Calls P f vs.toArray w fun e w'=>∃ g' v,ExtK ⟨K,w,g.B,[]⟩ g.H w' g'.H∧Obs K o.fin.2.2 g' w'∧(∀ i,i<o.fin.2.2.length→∃ u,g'.B i=some u)∧(∀ i p,FixB g.B i p→g'.B i=some p)∧PR g'.H g'.B v o.fin.2.1 ∧
   e=(match o.fin.1 with | true=>.returned v | false=>.panicked [{ v,recovered:=false }])
def Sound2 (P:Program) (E:Env) (Δ:Specs2):Prop:=∀ f sp,Δ f=some sp→Contract2 P E f sp
theorem Qrn {K:Act→World→Prop} {dst:Option Nat} {x:Operand} {f:FuncId} {us vs:Array Value} {xs:Array Operand} {ts:Array TypeId} {ty:TypeId} {pos:String} {af:Array Edge} {gd:Option (Nat × Bool)} {R:Ending→World→Prop}
  (hx:a.eval x=.func (.func f) us vs) (hf:QgL P f=true) (hc:Calls P f (us++xs.map a.eval++vs) w R) (hR:∀ e w',R e w'→(∃ v,e=.returned v∧K (a.put dst v) w')∨∃ c,e=.panicked c∧Q (.panic c) a w') :
  (Oper.mk dst (.call ⟨.value x,xs,ts⟩) ty pos af gd).wp P a w K Q:=by
 have h:(execOp a.eval (Oper.mk dst (.call ⟨.value x,xs,ts⟩) ty pos af gd)).run P w=.ok (.enter f (us++xs.map a.eval++vs)) w:=by
  unfold QgL at hf
  split at hf
  · rename_i fn hfn
    simp only [Bool.and_eq_true,Bool.not_eq_true'] at hf
    have hb:fn.body.isNone=false:=by cases h:fn.body <;> simp_all
    show (do let d ← resolve a.eval ⟨.value x,xs,ts⟩ ty; invoke d.target d.args:Sem Next).run P w=_
    have e1:resolve a.eval ⟨.value x,xs,ts⟩ ty=pure { target:=.fn (.func f) vs,args:=us++xs.map a.eval }:=by
     show Deferred.ofValue (a.eval x) (xs.map a.eval)=_
     rw [hx]; rfl
    rw [e1]
    have hn : ¬ fn.name = "runtime.NumGoroutine" := by simpa using hf.1
    have hb':¬ fn.body=none:=fun hc=>by rw [hc] at hb; cases hb
    simp [invoke,callFunc,hfn,hn,hb']
  · cases hf
 unfold Oper.wp
 rw [h,Oper.upon_enter]
 refine hc.mono ?_
 intro e w' hr
 rcases hR e w' hr with ⟨v,rfl,hk⟩ | ⟨c,rfl,hk⟩
 · exact hk
 · exact hk
theorem Qok {E:Env} {Δ:Specs2} (hΔ:Sound2 P E Δ) (hU:Up E) (hE:E w0.K w0.w H0) (h:Real w0 H0 m s g a w) {sp:Spec2} {f:FuncId} (hsp:Δ f=some sp) {xs:List PV} {vs:List Value} (hxs:PRs g.H g.B vs xs) {k q:PV→PS→Prop} (hd:Qr5 P s sp f xs k q) :
  Calls P f vs.toArray w fun e w'=>∃ s' g' v y,Real w0 H0 m s' g' a w'∧PR g'.H g'.B v y∧((e=.returned v∧k y s')∨(e=.panicked [{ v,recovered:=false }]∧q y s')):=by
 unfold Qr5 at hd
 dsimp only at hd
 generalize QhU s.ob (s.ob.length+1) 0 (hsL xs [])=ρ at hd
 split at hd
 · rename_i hchk
   simp only [Bool.and_eq_true] at hchk
   obtain ⟨_,c1,c2,c3,c4⟩:=hchk
   split at hd
   · rename_i o ho
     obtain ⟨hok,hrun⟩:=Out.run_out hd
     obtain ⟨hO,hF⟩:=h.obs.sub h.full c1
     have hlen:(subO (fun o=>idxN o ρ) s.ob ρ).length=ρ.length:=QfO _ _ _
     refine (hΔ f sp hsp _ _ o ho hok (QjQ g w ρ) w ⟨g.H,subB g ρ⟩ vs (fun b hb=>hb.1) hO hF (hU.more _ _ _ _ (fun b hb=>⟨h.ext.kept b hb,fun o u _ hu hb'=>h.obs.kept o u b hu hb' hb⟩) (hU.go _ _ _ _ h.ext hE)) (hxs.ren (p:=fun o=>memN o ρ) (fun o u hp hu=>QdN hp hu) c2)).mono ?_
     rintro e w' ⟨g',v,e1,e2,e3,e4,e5,e6⟩
     have key:∀ (y:PV) (ob':List PO) (r:PV→PS→Prop),Obs (QjQ g w ρ) ob' g' w'→(∀ i,i<ob'.length→∃ u,g'.B i=some u)→PR g'.H g'.B v y→Qse s ρ y ob' r→∃ s' g'' y',Real w0 H0 m s' g'' a w'∧PR g''.H g''.B v y'∧r y' s':=by
      intro y ob' r q1 q2 q3 hb
      unfold Qse at hb
      split at hb
      · rename_i hbb
        simp only [Bool.and_eq_true] at hbb
        obtain ⟨d1,d2,d3⟩:=hbb
        obtain ⟨g'',r1,r2,r3⟩:=h.back c1 c3 c4 e1 q1 q2 e4 (Nat.le_of_ble_eq_true d1) d3
        refine ⟨_,g'',_,r1,?_,hb⟩
        rw [r2]
        exact q3.ren (p:=fun i=>Nat.blt i ob'.length) (fun i u hi hu=>r3 i u (Qnf hi) hu) d2
      · exact hb.elim
     generalize o.fin=fin at e2 e3 e5 e6 hrun
     obtain ⟨t,y,ob'⟩:=fin
     cases t with
     | true =>
      obtain ⟨s',g'',y',r1,r2,r3⟩:=key y ob' k e2 e3 e5 hrun
      exact ⟨s',g'',v,y',r1,r2,.inl ⟨e6,r3⟩⟩
     | false =>
      obtain ⟨s',g'',y',r1,r2,r3⟩:=key y ob' q e2 e3 e5 hrun
      exact ⟨s',g'',v,y',r1,r2,.inr ⟨e6,r3⟩⟩
   · exact hd.elim
 · exact hd.elim
end
end Go.Proofs.YtmbmbcamecfnkaaGreatDoor
