/- What a formula is pushed to: pushed, a truth, and it comes to what it must. -/
import Derived.Test.YtpjjdngoblfleaaGreatMk
namespace Go.Proofs.YtpjjdngoblfleaaGreat
open Go.RowKit
set_option linter.unusedVariables false
set_option maxRecDepth 100000
theorem tupB {x x' y:PV} (h:SubB x x'):SubB (.tup [x,y]) (.tup [x',y]):=⟨fun H B v hv=>by
 cases hv with
 | tup hn hp =>
  refine .tup hn fun i u z hu hz=>?_
  match i,hz with
  | 0,hz=>cases hz; exact h.out H B u (hp 0 u x hu rfl)
  | 1,hz=>cases hz; exact hp 1 u y hu rfl
  | i+2,hz=>cases hz⟩
theorem endV {p:Prop} {D:List Dat} {B:List Bnd} {t:Tw} {z:Except Int Vw} {x:PV} {u:Vw} {e:Int} {ob:List PO} (h:evalT D B t=z) (hx:vlOf x=some u) (hu:u=valE z0V z) (he:e=errE z) :
  EndU 0 (Out.need p (Out.nm (Except Int Vw) (evalT D B t) fun z=>Out.ret (PV.tup [vlP (valE z0V z),iV (errE z)]) [])).fin true (PV.tup [x,iV e]) ob:=by
 subst h hu he
 exact endU_need (endU (ob:=[]) (r:=ob) rfl (tupB (vl_sub hx)) rfl rfl rfl)
theorem evalT_eq (D:List Dat) (B:List Bnd) (t:Tw):evalT D B t=if t.kind=1∧t.kids.length=0 then varE D t.name B
  else if (manyM t.kind).2=false then .error 23
  else if 0≤(manyM t.kind).1∧¬ (t.kids.length:Int)=(manyM t.kind).1 then .error 24
  else match evalL D B t.kids with
   | .error e=>.error e
   | .ok l=>if (opW D t l).2=true then .ok (opW D t l).1 else .error 23:=by
 cases t; rw [evalT]; rfl
theorem ev_var {D:List Dat} {B:List Bnd} {t:Tw} (h:t.kind=1) (h0:t.kids.length=0):evalT D B t=varE D t.name B:=by
 rw [evalT_eq,if_pos ⟨h,h0⟩]
theorem ev_none {D:List Dat} {B:List Bnd} {t:Tw} (h:¬ (t.kind=1∧t.kids.length=0)) (h1:(manyM t.kind).2=false):evalT D B t=.error 23:=by
 rw [evalT_eq,if_neg h,if_pos h1]
theorem ev_many {D:List Dat} {B:List Bnd} {t:Tw} (h:¬ (t.kind=1∧t.kids.length=0)) (h1:(manyM t.kind).2=true) (h2:0≤(manyM t.kind).1) (h3:¬ (t.kids.length:Int)=(manyM t.kind).1):evalT D B t=.error 24:=by
 rw [evalT_eq,if_neg h,if_neg (by rw [h1]; decide),if_pos ⟨h2,h3⟩]
def EvG (t:Tw):Prop:=¬ (t.kind=1∧t.kids.length=0)∧(manyM t.kind).2=true∧(0≤(manyM t.kind).1→(t.kids.length:Int)=(manyM t.kind).1)
theorem ev_kids {D : List Dat} {B : List Bnd} {t : Tw} (h : EvG t) : evalT D B t = match evalL D B t.kids with
      | .error e=>.error e
      | .ok l=>if (opW D t l).2=true then .ok (opW D t l).1 else .error 23:=by
 rw [evalT_eq,if_neg h.1,if_neg (by rw [h.2.1]; decide),if_neg (fun c=>c.2 (h.2.2 c.1))]
theorem ev_err {D:List Dat} {B:List Bnd} {t:Tw} {e:Int} (h:EvG t) (hk:evalL D B t.kids=.error e):evalT D B t=.error e:=by
 rw [ev_kids h,hk]
theorem ev_ok {D:List Dat} {B:List Bnd} {t:Tw} {l:List Vw} {v:Vw} (h:EvG t) (hk:evalL D B t.kids=.ok l) (ho:opW D t l=(v,true)):evalT D B t=.ok v:=by
 rw [ev_kids h,hk]
 show (if (opW D t l).2=true then Except.ok (opW D t l).1 else .error 23)=_
 rw [ho]; rfl
theorem ev_no {D:List Dat} {B:List Bnd} {t:Tw} {l:List Vw} (h:EvG t) (hk:evalL D B t.kids=.ok l) (ho:(opW D t l).2=false):evalT D B t=.error 23:=by
 rw [ev_kids h,hk]
 show (if (opW D t l).2=true then Except.ok (opW D t l).1 else .error 23)=_
 rw [ho]; rfl
theorem evalL_snoc {D:List Dat} {B:List Bnd}:∀ {l:List Tw} {t:Tw} {m:List Vw} {v:Vw},evalL D B l=.ok m→evalT D B t=.ok v→evalL D B (l++[t])=.ok (m++[v])
 | [],t,m,v,h,h1=>by
  rw [evalL] at h; cases h
  rw [List.nil_append,evalL,h1]
  show (match evalL D B [] with | .error e=>Except.error e | .ok m=>.ok (v::m))=_
  rw [evalL]; rfl
 | u::l,t,m,v,h,h1=>by
  rw [evalL] at h
  split at h
  · cases h
  · rename_i w hw
    split at h
    · cases h
    · rename_i n hn
      cases h
      rw [List.cons_append,evalL,hw]
      show (match evalL D B (l++[t]) with | .error e=>Except.error e | .ok m=>.ok (w::m))=_
      rw [evalL_snoc hn h1]; rfl
theorem evalL_stop {D:List Dat} {B:List Bnd}:∀ {l:List Tw} {t:Tw} {r:List Tw} {m:List Vw} {e:Int},evalL D B l=.ok m→evalT D B t=.error e→evalL D B (l++t::r)=.error e
 | [],t,r,m,e,h,h1=>by rw [List.nil_append,evalL,h1]
 | u::l,t,r,m,e,h,h1=>by
  rw [evalL] at h
  split at h
  · cases h
  · rename_i w hw
    split at h
    · cases h
    · rename_i n hn
      rw [List.cons_append,evalL,hw]
      show (match evalL D B (l++t::r) with | .error e=>Except.error e | .ok m=>.ok (w::m))=_
      rw [evalL_stop hn h1]
theorem evalL_next {D:List Dat} {B:List Bnd} {l:List Tw} {i:Nat} {m:List Vw} {v:Vw} (h:evalL D B (l.take i)=.ok m) (hi:i<l.length) (h1:evalT D B (l.getD i Sh.tm.nil)=.ok v):evalL D B (l.take (i+1))=.ok (m++[v]):=by
 rw [List.take_add_one,List.getElem?_eq_getElem hi]
 rw [List.getD_eq_getElem?_getD,List.getElem?_eq_getElem hi] at h1
 exact evalL_snoc h h1
theorem evalL_fail {D:List Dat} {B:List Bnd} {l:List Tw} {i:Nat} {m:List Vw} {e:Int} (h:evalL D B (l.take i)=.ok m) (hi:i<l.length) (h1:evalT D B (l.getD i Sh.tm.nil)=.error e):evalL D B l=.error e:=by
 rw [List.getD_eq_getElem?_getD,List.getElem?_eq_getElem hi] at h1
 have e1:l=l.take i++l[i]::l.drop (i+1):=by rw [List.getElem_cons_drop,List.take_append_drop]
 rw [e1]
 exact evalL_stop h h1
mutual
theorem evalT_err {D:List Dat} {B:List Bnd}:∀ {t:Tw} {e:Int},evalT D B t=.error e→e≠0
 | .mk k nm neg dg kids,e,h=>by
  rw [evalT] at h
  split at h
  · unfold varE at h
    revert h
    suffices hs:∀ (B:List Bnd) (r:Except Int Vw),(∀ e,r=.error e→e≠0)→∀ e,B.foldl (fun r b=>if b.name=nm then (if someV D b.value=true then .ok b.value else .error 23) else r) r=.error e→e≠0 by
     exact hs B (.error 21) (fun e h=>by cases h; decide) e
    intro B
    induction B with
    | nil=>intro r hr e h; exact hr e h
    | cons b B ih =>
     intro r hr e h
     rw [List.foldl_cons] at h
     refine ih _ (fun e h=>?_) e h
     split at h
     · split at h
       · cases h
       · cases h; decide
     · exact hr e h
  · split at h
    · cases h; decide
    · split at h
      · cases h; decide
      · split at h
        · rename_i hl
          cases h
          exact evalL_err hl
        · split at h
          · cases h
          · cases h; decide
theorem evalL_err {D:List Dat} {B:List Bnd}:∀ {l:List Tw} {e:Int},evalL D B l=.error e→e≠0
 | [],e,h=>by rw [evalL] at h; cases h
 | t::l,e,h=>by
  rw [evalL] at h
  split at h
  · rename_i ht; cases h; exact evalT_err ht
  · split at h
    · rename_i hl; cases h; exact evalL_err hl
    · cases h
end
theorem ev_is {D:List Dat} {B:List Bnd} {t:Tw} {z:Except Int Vw} (hz:z=evalT D B t) (h:errE z=0):∃ v,z=.ok v:=by
 obtain e | v:=z
 · exact absurd h (evalT_err hz.symm)
 · exact ⟨v,rfl⟩
theorem ev_not {D:List Dat} {B:List Bnd} {t:Tw} {z:Except Int Vw} (hz:z=evalT D B t) (h:¬ errE z=0):evalT D B t=.error (errE z):=by
 subst hz
 cases hz:evalT D B t with
 | error e=>rfl
 | ok v=>rw [hz] at h; exact absurd rfl h
theorem kt_eq {k n:Int} (h:(Kt.int .u8).eq k n=true):k=n:=Kt.eq_iff.1 h
theorem kt_ne {k n:Int} (h:(Kt.int .u8).eq k n=false):¬ k=n:=fun c=>by rw [Kt.eq_iff.2 c] at h; cases h
theorem opW_2 {D:List Dat} {t:Tw} {l:List Vw} (h:t.kind=2):opW D t l=(numV (zV t.neg t.digits),rightZ t.neg t.digits):=by
 unfold opW; rw [h]; rfl
theorem opW_3 {D:List Dat} {t:Tw} {l:List Vw} (h:t.kind=3):opW D t l=(boolV true,true):=by
 unfold opW; rw [h]; rfl
theorem opW_4 {D:List Dat} {t:Tw} {l:List Vw} (h:t.kind=4):opW D t l=(boolV false,true):=by
 unfold opW; rw [h]; rfl
theorem opW_5 {D:List Dat} {t:Tw} {l:List Vw} (h:t.kind=5):opW D t l=(numV (sumW l 0),allV l 1):=by
 unfold opW; rw [h]; rfl
theorem opW_6 {D:List Dat} {t:Tw} {l:List Vw} (h:t.kind=6):opW D t l=(numV (prodW l 1 * zV t.neg t.digits),allV l 1 && rightZ t.neg t.digits):=by
 unfold opW; rw [h]; rfl
theorem opW_7 {D:List Dat} {t:Tw} {l:List Vw} (h:t.kind=7):opW D t l=appV D t l:=by
 unfold opW; rw [h]; rfl
theorem opW_8 {D:List Dat} {t:Tw} {l:List Vw} (h:t.kind=8):opW D t l=(boolV (sameV (l.getD 0 Sh.vl.nil) (l.getD 1 Sh.vl.nil)),allV l 1 || allV l 3):=by
 unfold opW; rw [h]; rfl
theorem opW_9 {D:List Dat} {t:Tw} {l:List Vw} (h:t.kind=9):opW D t l=(boolV (decide (cmpI (zV (Vw.neg (l.getD 0 Sh.vl.nil)) (Vw.digits (l.getD 0 Sh.vl.nil))) (zV (Vw.neg (l.getD 1 Sh.vl.nil)) (Vw.digits (l.getD 1 Sh.vl.nil)))≤0)),allV l 1):=by
 unfold opW; rw [h]; rfl
theorem opW_10 {D:List Dat} {t:Tw} {l:List Vw} (h:t.kind=10):opW D t l=(boolV (!Vw.truth (l.getD 0 Sh.vl.nil)),allV l 2):=by
 unfold opW; rw [h]; rfl
theorem opW_13 {D:List Dat} {t:Tw} {l:List Vw} (h:t.kind=13):opW D t l=(boolV (Vw.truth (l.getD 0 Sh.vl.nil)==Vw.truth (l.getD 1 Sh.vl.nil)),allV l 2):=by
 unfold opW; rw [h]; rfl
theorem opW_11 {D:List Dat} {t:Tw} {l:List Vw} (h:t.kind=11):opW D t l=(boolV (eachV l true),allV l 2):=by
 unfold opW; rw [h]; rfl
theorem opW_12 {D:List Dat} {t:Tw} {l:List Vw} (h:t.kind=12):opW D t l=(boolV (!eachV l false),allV l 2):=by
 unfold opW; rw [h]; rfl
theorem many_at {k:Int} (h:(manyM k).2=true) (h12:¬ k=12) (h11:¬ k=11) (h13:¬ k=13) (h10:¬ k=10) (h9:¬ k=9) (h8:¬ k=8) (h7:¬ k=7) (h6:¬ k=6) (h5:¬ k=5) (h4:¬ k=4) (h3:¬ k=3) (h2:¬ k=2) (h1:¬ k=1):False:=by
 have e:∀ n:Int,¬ k=n→(Kt.int .u8).eq k n=false:=fun n hn=>by
  cases hc:(Kt.int .u8).eq k n with
  | false=>rfl
  | true=>exact absurd (kt_eq hc) hn
 unfold manyM at h
 simp only [lookN,e 12 h12,e 11 h11,e 5 h5,e 13 h13,e 9 h9,e 8 h8,e 10 h10,e 7 h7,e 6 h6,e 4 h4,e 3 h3,e 2 h2,e 1 h1] at h
 cases h
theorem ktT {k n:Int}:((Kt.int .u8).eq k n=true)=(k=n):=propext Kt.eq_iff
theorem ktF {k n:Int}:((Kt.int .u8).eq k n=false)=¬ k=n:=propext ⟨kt_ne,fun h=>by
 cases hc:(Kt.int .u8).eq k n with
 | false=>rfl
 | true=>exact absurd (kt_eq hc) h⟩
theorem bnd_mem {B:List Bnd} {i:Nat} (h:i<B.length):B.getD i Sh.bnd.nil∈B:=by
 rw [List.getD_eq_getElem?_getD,List.getElem?_eq_getElem h]
 exact List.getElem_mem h
theorem many_len {t:Tw} (hG:EvG t) {k:Int} {n:Nat} (h:t.kind=k) (hk:(manyM k).1=(n:Int)):t.kids.length=n:=by
 have:=hG.2.2 (by rw [h,hk]; omega)
 rw [h,hk] at this
 omega
theorem sizV_le {m:Nat}:∀ {l:List Vw},(∀ v∈l,v.digits.length≤m)→sizV l≤l.length * (m+2)
 | [],_=>by simp [sizV]
 | v::l,h=>by
  have h1:=sizV_le (l:=l) fun u hu=>h u (by simp [hu])
  have h2:=h v (by simp)
  simp only [sizV,List.length_cons,Nat.add_mul,Nat.one_mul]
  simp only [Nat.mul_add] at h1 ⊢
  omega
end Go.Proofs.YtpjjdngoblfleaaGreat
namespace Go.Proofs.YtpjjdngoblfleaaGreat
open Go.RowKit
set_option linter.unusedVariables false
set_option maxRecDepth 100000
theorem evalL_one {D:List Dat} {B:List Bnd} {s:Tw} {v:Vw} (h:evalT D B s=.ok v):evalL D B [s]=.ok [v]:=by
 rw [evalL,h,evalL]
theorem evalL_two {D:List Dat} {B:List Bnd} {s t:Tw} {v w:Vw} (h:evalT D B s=.ok v) (h1:evalT D B t=.ok w):evalL D B [s,t]=.ok [v,w]:=by
 rw [evalL,h,evalL_one h1]
theorem evG_one {k:Int} {s:Tw} (hk:manyM k=(1,true)):EvG (conT k [s]):=⟨fun h=>absurd h.2 (by show ¬ (1:Nat)=0; decide),by show (manyM k).2=true; rw [hk],fun _=>by show ((1:Nat):Int)=(manyM k).1; rw [hk]; rfl⟩
theorem evG_two {k:Int} {s t:Tw} (hk:manyM k=(2,true)):EvG (conT k [s,t]):=⟨fun h=>absurd h.2 (by show ¬ (2:Nat)=0; decide),by show (manyM k).2=true; rw [hk],fun _=>by show ((2:Nat):Int)=(manyM k).1; rw [hk]; rfl⟩
theorem evG_any {k:Int} {l:List Tw} (hk:manyM k=(-1,true)) (h1:¬ k=1):EvG (conT k l):=⟨fun h=>h1 h.1,by show (manyM k).2=true; rw [hk],fun h=>by
 have h:0≤(manyM k).1:=h
 rw [hk] at h; exact absurd h (by decide)⟩
theorem allV_one {v:Vw} {k:Int} (h:v.kind=k):allV [v] k=true:=allV_iff.2 fun u hu=>by
 obtain rfl:u=v:=by simpa using hu
 exact h
theorem allV_two {v w:Vw} {k:Int} (h:v.kind=k) (h1:w.kind=k):allV [v,w] k=true:=allV_iff.2 fun u hu=>by
 rcases List.mem_cons.1 hu with rfl | hu
 · exact h
 · obtain rfl:u=w:=by simpa using hu
   exact h1
theorem eachV_two (v w:Vw) (b:Bool):eachV [v,w] b=(decide (v.truth=b) && decide (w.truth=b)):=by
 cases h:eachV [v,w] b with
 | true =>
  have:=eachV_iff.1 h
  rw [decide_eq_true (this v (by simp)),decide_eq_true (this w (by simp))]; rfl
 | false =>
  by_cases h1:v.truth=b
  · by_cases h2:w.truth=b
    · have:eachV [v,w] b=true:=eachV_iff.2 fun u hu=>by
       rcases List.mem_cons.1 hu with rfl | hu
       · exact h1
       · obtain rfl:u=w:=by simpa using hu
         exact h2
      rw [h] at this; cases this
    · rw [decide_eq_false h2]; simp
  · rw [decide_eq_false h1]; rfl
section
variable {D : List Dat} {B : List Bnd} {s t : Tw} {v w : Vw}
theorem t_not (h:evalT D B s=.ok v) (hk:v.kind=2):evalT D B (conT 10 [s])=.ok (boolV (!v.truth)) :=
 ev_ok (evG_one (by decide)) (evalL_one h) (by rw [opW_10 rfl,allV_one hk]; rfl)
theorem t_and (h:evalT D B s=.ok v) (h1:evalT D B t=.ok w) (hk:v.kind=2) (hk1:w.kind=2):evalT D B (conT 11 [s,t])=.ok (boolV (v.truth && w.truth)) :=
 ev_ok (evG_any (by decide) (by decide)) (evalL_two h h1) (by rw [opW_11 rfl,allV_two hk hk1,eachV_two]; simp)
theorem t_or (h:evalT D B s=.ok v) (h1:evalT D B t=.ok w) (hk:v.kind=2) (hk1:w.kind=2):evalT D B (conT 12 [s,t])=.ok (boolV (v.truth || w.truth)) :=
 ev_ok (evG_any (by decide) (by decide)) (evalL_two h h1) (by rw [opW_12 rfl,allV_two hk hk1,eachV_two]; cases v.truth <;> cases w.truth <;> rfl)
theorem t_le (h:evalT D B s=.ok v) (h1:evalT D B t=.ok w) (hk:v.kind=1) (hk1:w.kind=1):evalT D B (conT 9 [s,t])=.ok (boolV (decide (cmpI (zV v.neg v.digits) (zV w.neg w.digits)≤0))) :=
 ev_ok (evG_two (by decide)) (evalL_two h h1) (by rw [opW_9 rfl,allV_two hk hk1]; rfl)
theorem t_add (h:evalT D B s=.ok v) (h1:evalT D B t=.ok w) (hk:v.kind=1) (hk1:w.kind=1):evalT D B (conT 5 [s,t])=.ok (numV (zV v.neg v.digits+zV w.neg w.digits)) :=
 ev_ok (evG_any (by decide) (by decide)) (evalL_two h h1) (by rw [opW_5 rfl,allV_two hk hk1]; simp [sumW])
end
theorem num_canon {D:List Dat} {v:Vw} (h:okW D v) (hk:v.kind=1):v=numV (zV v.neg v.digits):=by
 obtain ⟨-,⟨h1,h2⟩,-⟩:=okW_eq.1 h
 obtain ⟨h3,h4⟩:=rightZ_digs h1
 have h5:=noneB_flds h2 (by omega)
 cases v with
 | mk k b d x n l =>
  have hk:k=1:=hk
  have h3:b=zNeg (zV b d):=h3
  have h4:d=digs 1000000000 (zV b d).natAbs:=h4
  have h5:l=[]:=h5
  simp only [noneB,Vw.kind,Vw.truth,Vw.name,Vw.fields,Bool.and_eq_true,Bool.or_eq_true,decide_eq_true_eq] at h2
  obtain ⟨⟨-,h6⟩,h7⟩:=h2
  have h6:x=false:=by
   rcases h6 with h6 | h6
   · have:=of_decide_eq_true h6; omega
   · simpa using h6
  have h7:n=⟨#[]⟩:=by
   rcases h7 with h7 | h7
   · have:=of_decide_eq_true h7; omega
   · exact of_decide_eq_true h7.1
  show Vw.mk k b d x n l=Vw.mk 1 (zNeg (zV b d)) (digs 1000000000 (zV b d).natAbs) false ⟨#[]⟩ []
  rw [← h3,← h4,hk,h5,h6,h7]
theorem numV_val (z:Int):zV (numV z).neg (numV z).digits=z:=zV_digs z
theorem cntD_mem {D:List Dat} {d:Dat} (h:d∈D):cntK d.cons≤cntD D:=by
 induction D with
 | nil=>cases h
 | cons c B ih =>
  rw [cntD]
  rcases List.mem_cons.1 h with rfl | h
  · omega
  · have:=ih h; omega
theorem fitD_of {D:List Dat} (h:cntD D≤600):fitD D:=fun d hd=>by
 have h1:=cntD_mem hd
 have h2:=cntK_len d.cons
 omega
theorem con_same (s:ByteArray):∀ (D:List Dat) (k:Nat),conD D s=(conM D s k).map fun p=>((D.getD (p.1 - k) Sh.dat.nil).name,((D.getD (p.1 - k) Sh.dat.nil).cons).getD p.2 Sh.con.nil)
 | [],k=>rfl
 | d::D,k=>by
  unfold conD conM
  rw [List.findSome?_cons]
  cases h:d.cons.findIdx? (fun c=>decide (c.name=s)) with
  | none =>
   have hf:d.cons.find? (fun c=>decide (c.name=s))=none:=by
    rw [List.findIdx?_eq_none_iff] at h
    rw [List.find?_eq_none]
    intro x hx
    rw [h x hx]; decide
   have hc:¬ (0:Int)≤conIx d.cons s:=by
    unfold conIx anyB; rw [h]; decide
   rw [hf,if_neg hc]
   show conD D s=_
   rw [con_same s D (k+1)]
   cases hm:conM D s (k+1) with
   | none=>rfl
   | some p =>
    obtain ⟨a,b⟩:=p
    obtain ⟨h1,h2,-⟩:=conM_in hm
    show some _=some _
    have e:a - k=(a - (k+1))+1:=by omega
    dsimp only
    rw [e,List.getD_cons_succ]
  | some i =>
   have hc:conIx d.cons s=i:=by unfold conIx anyB; rw [h]
   obtain ⟨hi,h1,h2⟩:=List.findIdx?_eq_some_iff_getElem.1 h
   have hf:d.cons.find? (fun c=>decide (c.name=s))=some d.cons[i]:=by
    rw [List.find?_eq_some_iff_getElem]
    exact ⟨h1,i,hi,rfl,fun j hj=>by simpa using h2 j hj⟩
   rw [hf,if_pos (by rw [hc]; omega),hc]
   show some _=some _
   dsimp only
   rw [Nat.sub_self,List.getD_cons_zero,Int.toNat_natCast,List.getD_eq_getElem?_getD,List.getElem?_eq_getElem hi]
   rfl
theorem field_same {D:List Dat} {s u v:ByteArray} (ht:¬ s=bTag) (h:funD D s=some (u,v)) :
  (fieldM D s).2.2=true∧Dat.name (D.getD (fieldM D s).1.1 Sh.dat.nil)=u∧(fldsM D (fieldM D s).1).getD (fieldM D s).2.1.toNat Sh.str.nil=v:=by
 unfold funD at h
 rw [if_neg ht] at h
 split at h
 · cases h
 rename_i h2
 split at h
 · cases h
 rename_i h3
 have hb:byN s (s.size - 2)=46:=Classical.byContradiction fun c=>h3 (.inl c)
 have hd1:¬ byN s (s.size - 1)<48:=fun c=>h3 (.inr (.inl c))
 have hd2:¬ 57<byN s (s.size - 1):=fun c=>h3 (.inr (.inr c))
 have hl:lastTo s 46 s.size=(s.size:Int) - 2:=by
  rw [lastTo_miss (by omega) (by unfold byN at hd1; omega),lastTo_hit (by omega) (by
   have:s.size - 1 - 1=s.size - 2:=by omega
   rw [this]; unfold byN at hb; omega)]
  omega
 have ha:atS s (lastTo s 46 s.size+1)=byN s (s.size - 1):=by
  rw [hl]; unfold atS byN
  have:((s.size:Int) - 2+1).toNat=s.size - 1:=by omega
  rw [this]
 have hcut:cutS s (lastTo s 46 s.size)=s.extract 0 (s.size - 2):=by
  rw [hl]; unfold cutS
  have:((s.size:Int) - 2).toNat=s.size - 2:=by omega
  rw [this]
 have hfm:=fieldM_is (D:=D) (s:=s) (by omega) (by omega) (by rw [ha]; omega) (by rw [ha]; omega)
 rw [ha,hcut] at hfm
 rw [con_same (s.extract 0 (s.size - 2)) D 0] at h
 cases hc:conM D (s.extract 0 (s.size - 2)) 0 with
 | none=>rw [hc] at h; cases h
 | some p =>
  rw [hc] at h hfm
  simp only [Option.map_some,Nat.sub_zero] at h
  split at h
  · rename_i hlt
    cases h
    have e:((byN s (s.size - 1):Int) - 48).toNat=byN s (s.size - 1) - 48:=by omega
    rw [hfm]
    refine ⟨?_,rfl,?_⟩
    · simp only [Option.isSome_some,Option.getD_some,Bool.true_and,decide_eq_true_eq]
      unfold fldsM; omega
    · simp only [Option.getD_some]
      rw [e]; rfl
  · cases h
theorem int_bool:¬ bInt=bBool:=by decide
theorem dataB_int (D:List Dat):dataB D bInt=false:=by unfold dataB; rw [decide_eq_true rfl]; rfl
theorem dataB_bool (D:List Dat):dataB D bBool=false:=by unfold dataB; rw [decide_eq_true (rfl:bBool=bBool)]; simp
section
variable {D : List Dat} {v : Vw} {s : ByteArray}
theorem of_int (h:ofV D bInt v=true):v.kind=1:=by
 rw [ofV_eq,Bool.and_eq_true] at h
 obtain ⟨-,h⟩:=h
 by_cases h1:v.kind=1
 · exact h1
 · rw [if_neg h1] at h
   by_cases h2:v.kind=2
   · rw [if_pos h2,decide_eq_true_eq] at h; exact absurd h int_bool
   · rw [if_neg h2] at h
     by_cases h3:v.kind=3
     · rw [if_pos h3,dataB_int] at h; cases h
     · rw [if_neg h3] at h; cases h
theorem of_bool (h:ofV D bBool v=true):v.kind=2:=by
 rw [ofV_eq,Bool.and_eq_true] at h
 obtain ⟨-,h⟩:=h
 by_cases h1:v.kind=1
 · rw [if_pos h1,Bool.and_eq_true,decide_eq_true_eq] at h; exact absurd h.1.symm int_bool
 · rw [if_neg h1] at h
   by_cases h2:v.kind=2
   · exact h2
   · rw [if_neg h2] at h
     by_cases h3:v.kind=3
     · rw [if_pos h3,dataB_bool] at h; cases h
     · rw [if_neg h3] at h; cases h
theorem of_data (hi:¬ s=bInt) (hb:¬ s=bBool) (h:ofV D s v=true):v.kind=3:=by
 rw [ofV_eq,Bool.and_eq_true] at h
 obtain ⟨-,h⟩:=h
 by_cases h1:v.kind=1
 · rw [if_pos h1,Bool.and_eq_true,decide_eq_true_eq] at h; exact absurd h.1 hi
 · rw [if_neg h1] at h
   by_cases h2:v.kind=2
   · rw [if_pos h2,decide_eq_true_eq] at h; exact absurd h hb
   · rw [if_neg h2] at h
     by_cases h3:v.kind=3
     · exact h3
     · rw [if_neg h3] at h; cases h
theorem numV_of (D:List Dat) (z:Int):ofV D bInt (numV z)=true:=by
 rw [ofV_eq,if_pos (show (numV z).kind=1 from rfl),decide_eq_true (rfl:bInt=bInt)]
 exact (Bool.and_eq_true _ _).mpr ⟨rfl,(Bool.and_eq_true _ _).mpr ⟨rfl,rightZ_of z⟩⟩
theorem boolV_of (D:List Dat) (b:Bool):ofV D bBool (boolV b)=true:=by
 rw [ofV_eq]; rfl
theorem nilV_of (h:dataB D s=true):ofV D s nilV=true:=by
 rw [ofV_eq]
 show (noneB nilV && (dataB D s && _))=true
 rw [h]; rfl
theorem anyB_of {α:Type} {l:List α} {f:α→Bool} {x:α} (hx:x∈l) (h:f x=true):0≤anyB l f:=by
 unfold anyB
 cases hc:l.findIdx? f with
 | none =>
  rw [List.findIdx?_eq_none_iff] at hc
  rw [hc x hx] at h; cases h
 | some i=>exact Int.natCast_nonneg i
theorem some_of (hb:baseB D s=true) (h:ofV D s v=true):someV D v=true:=by
 unfold baseB at hb
 unfold someV
 simp only [Bool.or_eq_true,decide_eq_true_eq] at hb ⊢
 rcases hb with rfl | rfl | hb
 · exact .inl h
 · exact .inr (.inl h)
 · refine .inr (.inr ?_)
   unfold dataB at hb
   simp only [Bool.and_eq_true,decide_eq_true_eq] at hb
   obtain ⟨d,hd,he⟩:=anyB_get hb.2.2
   have he:d.name=s:=by simpa using he
   exact anyB_of hd (by rw [he]; exact h)
end
def bndOf (S:List Srt) (V:List Vw):List Bnd:=(S.zip V).map fun p=>⟨p.1.name,p.2⟩
theorem bndOf_len (S:List Srt) (V:List Vw) (h:V.length=S.length):(bndOf S V).length=S.length:=by
 unfold bndOf; simp; omega
theorem bndOf_at {S:List Srt} {V:List Vw} (h:V.length=S.length) {i:Nat} (hi:i<S.length):(bndOf S V).getD i Sh.bnd.nil=⟨(S.getD i Sh.srt.nil).name,V.getD i Sh.vl.nil⟩:=by
 unfold bndOf
 rw [List.getD_eq_getElem?_getD,List.getElem?_map,List.getElem?_eq_getElem (by simp; omega),List.getElem_zip,List.getD_eq_getElem?_getD,List.getElem?_eq_getElem hi,List.getD_eq_getElem?_getD,List.getElem?_eq_getElem (by omega)]
 rfl
theorem manyM_kids {k:Int} (h:¬ kidsN k=-2):manyM k=(kidsN k,true):=by
 unfold kidsN at h ⊢
 split
 · rename_i h1; rcases h1 with rfl | rfl | rfl | rfl <;> decide
 · rename_i h1; rw [if_neg h1] at h
   split
   · rename_i h2; rcases h2 with rfl | rfl | rfl <;> decide
   · rename_i h2; rw [if_neg h2] at h
     split
     · rename_i h3; rcases h3 with rfl | rfl | rfl <;> decide
     · rename_i h3; rw [if_neg h3] at h
       split
       · rename_i h4; rcases h4 with rfl | rfl | rfl <;> decide
       · rename_i h4; rw [if_neg h4] at h; exact absurd rfl h
theorem kidsN_cases {k:Int} (h:¬ kidsN k=-2):k=1∨k=2∨k=3∨k=4∨k=5∨k=6∨k=7∨k=8∨k=9∨k=10∨k=11∨k=12∨k=13:=by
 unfold kidsN at h
 split at h
 · omega
 · split at h
   · omega
   · split at h
     · omega
     · split at h
       · omega
       · exact absurd rfl h
def OfL (D:List Dat):List ByteArray→List Vw→Prop
 | [],[]=>True
 | s::m,v::l=>ofV D s v=true∧OfL D m l
 | _,_=>False
theorem OfL.len {D:List Dat}:∀ {m:List ByteArray} {l:List Vw},OfL D m l→l.length=m.length
 | [],[],_=>rfl
 | _::_,_::_,h=>by simp [h.2.len]
theorem OfL.all {D:List Dat} {s:ByteArray}:∀ {m:List ByteArray} {l:List Vw},OfL D m l→allEq m s=true→∀ v∈l,ofV D s v=true
 | [],[],_,_,v,hv=>by cases hv
 | x::m,u::l,h,ha,v,hv=>by
  unfold allEq at ha
  rw [List.all_cons,Bool.and_eq_true,decide_eq_true_eq] at ha
  rcases List.mem_cons.1 hv with rfl | hv
  · rw [← ha.1]; exact h.1
  · exact h.2.all (show allEq m s=true from ha.2) v hv
theorem OfL.at {D:List Dat}:∀ {m:List ByteArray} {l:List Vw} {i:Nat},OfL D m l→i<m.length→ofV D (m.getD i ⟨#[]⟩) (l.getD i Sh.vl.nil)=true
 | x::m,u::l,0,h,_=>h.1
 | x::m,u::l,i+1,h,hi=>by
  rw [List.getD_cons_succ,List.getD_cons_succ]
  exact h.2.at (by simpa using hi)
theorem ofVL_get {D:List Dat}:∀ {m:List ByteArray} {l:List Vw} {i:Nat},ofVL D m l=true→i<m.length→i<l.length→ofV D (m.getD i ⟨#[]⟩) (l.getD i Sh.vl.nil)=true
 | x::m,u::l,0,h,_,_=>by rw [ofVL,Bool.and_eq_true] at h; exact h.1
 | x::m,u::l,i+1,h,hi,hl=>by
  rw [ofVL,Bool.and_eq_true] at h
  rw [List.getD_cons_succ,List.getD_cons_succ]
  exact ofVL_get h.2 (by simpa using hi) (by simpa using hl)
section
variable {D : List Dat} {S : List Srt} {V : List Vw}
theorem var_sound (hl:V.length=S.length) (hV:∀ i,i<S.length→ofV D (Srt.sort (S.getD i Sh.srt.nil)) (V.getD i Sh.vl.nil)=true) (nm s:ByteArray) :
  ∀ i,i≤S.length→varS D (S.take i) nm=.ok s→∃ v,varE D nm ((bndOf S V).take i)=.ok v∧ofV D s v=true
 | 0,_,h=>by cases h
 | i+1,hi,h=>by
  have hb:i<(bndOf S V).length:=by rw [bndOf_len S V hl]; omega
  rw [varS_snoc D Sh.srt.nil (by omega)] at h
  rw [varE_snoc D nm Sh.bnd.nil hb,bndOf_at hl (by omega)]
  by_cases hn:(S.getD i Sh.srt.nil).name=nm
  · rw [if_pos hn] at h ⊢
    split at h
    · rename_i hbase
      cases h
      rw [if_pos (some_of hbase (hV i (by omega)))]
      exact ⟨_,rfl,hV i (by omega)⟩
    · cases h
  · rw [if_neg hn] at h ⊢
    exact var_sound hl hV nm s i (by omega) h
theorem app_sound {t:Tw} {l:List Vw} {w:Vw} {u s:ByteArray} (hl:l=[w]) (hw:ofV D u w=true) (h:funS D t.name u=.ok s):(appV D t l).2=true∧ofV D s (appV D t l).1=true:=by
 unfold funS at h
 cases hf:funD D t.name with
 | none=>rw [hf] at h; cases h
 | some p =>
  obtain ⟨a,b⟩:=p
  rw [hf] at h
  dsimp only at h
  split at h
  · rename_i hc
    cases h
    simp only [Bool.and_eq_true,Bool.or_eq_true,decide_eq_true_eq] at hc
    obtain ⟨hd,ha,hbase⟩:=hc
    have hui:¬ u=bInt:=fun e=>by rw [e,dataB_int] at hd; cases hd
    have hub:¬ u=bBool:=fun e=>by rw [e,dataB_bool] at hd; cases hd
    have hk:=of_data hui hub hw
    have h3:allV l 3=true:=by rw [hl]; exact allV_iff.2 fun x hx=>by simp at hx; rw [hx]; exact hk
    have e0:l.getD 0 Sh.vl.nil=w:=by rw [hl]; rfl
    have hw':=hw
    rw [ofV_eq,Bool.and_eq_true,if_neg (by omega),if_neg (by omega),if_pos hk,Bool.and_eq_true] at hw'
    obtain ⟨-,-,hw'⟩:=hw'
    have hcon:¬ w.name=⟨#[]⟩→∃ p,conM D w.name 0=some p∧(D.getD p.1 Sh.dat.nil).name=u∧(fldsM D p).length=w.fields.length∧ofVL D (fldsM D p) w.fields=true:=by
     intro hn
     rw [if_neg hn] at hw'
     split at hw'
     · cases hw'
     · rename_i p hp
       simp only [Bool.and_eq_true,decide_eq_true_eq] at hw'
       exact ⟨p,hp,hw'.1,hw'.2.1,hw'.2.2⟩
    by_cases ht:t.name=bTag
    · have hfi:s=bInt:=by
       unfold funD at hf
       rw [if_pos ht] at hf
       cases hf; rfl
      subst hfi
      by_cases hn:w.name=⟨#[]⟩
      · rw [appV_tag0 h3 ht (by rw [e0]; exact hn)]
        exact ⟨rfl,numV_of D _⟩
      · obtain ⟨p,hp,-⟩:=hcon hn
        rw [appV_tag h3 ht (by rw [e0]; exact hn),e0,hp]
        exact ⟨rfl,numV_of D _⟩
    · obtain ⟨g1,g2,g3⟩:=field_same ht hf
      have hua:a=u:=ha.resolve_left ht
      have hzero:ofV D s (if (zeroW ((fldsM D (fieldM D t.name).1).getD (fieldM D t.name).2.1.toNat Sh.str.nil)).kind=0 then nilV else zeroW ((fldsM D (fieldM D t.name).1).getD (fieldM D t.name).2.1.toNat Sh.str.nil))=true:=by
       rw [g3]
       unfold baseB at hbase
       simp only [Bool.or_eq_true,decide_eq_true_eq] at hbase
       rcases hbase with rfl | rfl | hbase
       · exact numV_of D 0
       · exact boolV_of D false
       · have h1:¬ s=bInt:=fun e=>by rw [e,dataB_int] at hbase; cases hbase
         have h2:¬ s=bBool:=fun e=>by rw [e,dataB_bool] at hbase; cases hbase
         unfold zeroW
         rw [if_neg h2,if_neg h1]
         exact nilV_of hbase
      by_cases hn:w.name=⟨#[]⟩
      · rw [appV_zero h3 ht g1 (.inl (by rw [e0]; exact hn))]
        exact ⟨rfl,hzero⟩
      · obtain ⟨p,hp,hpn,hlen,hof⟩:=hcon hn
        have hpe:(conM D (Vw.name (l.getD 0 Sh.vl.nil)) 0).getD (0,0)=p:=by rw [e0,hp]; rfl
        have h4:Dat.name (D.getD ((conM D (Vw.name (l.getD 0 Sh.vl.nil)) 0).getD (0,0)).1 Sh.dat.nil)=Dat.name (D.getD (fieldM D t.name).1.1 Sh.dat.nil):=by rw [hpe,g2,hua]; exact hpn
        by_cases h5:(conM D (Vw.name (l.getD 0 Sh.vl.nil)) 0).getD (0,0)=(fieldM D t.name).1
        · rw [appV_own h3 ht g1 (by rw [e0]; exact hn) h4 h5]
          refine ⟨rfl,?_⟩
          rw [hpe] at h5
          obtain ⟨-,-,f3,f4⟩:=fieldM_ok g1
          rw [h5] at hlen hof
          have:=ofVL_get (i:=(fieldM D t.name).2.1.toNat) hof (by omega) (by omega)
          rw [e0]
          have e1:(fldsM D (fieldM D t.name).1).getD (fieldM D t.name).2.1.toNat ⟨#[]⟩=s:=g3
          rw [e1] at this
          exact this
        · rw [appV_zero h3 ht g1 (.inr ⟨h4,h5⟩)]
          exact ⟨rfl,hzero⟩
  · cases h
theorem ite_ok {c:Prop} [Decidable c] {a s:ByteArray} {e:Int} (h:(if c then Except.ok a else Except.error e)=Except.ok s):c∧a=s:=by
 split at h
 · rename_i hc; cases h; exact ⟨hc,rfl⟩
 · cases h
theorem op_sound {t:Tw} {m:List ByteArray} {l:List Vw} {s:ByteArray} (hk:¬ kidsN t.kind=-2) (h1:¬ t.kind=1) (hn:kidsN t.kind<0∨kidsN t.kind=m.length) (hr:¬ ((t.kind=2∨t.kind=6)∧rightZ t.neg t.digits=false)) (hof:OfL D m l) (h:partS D t.kind t.name m=.ok s) :
  (opW D t l).2=true∧ofV D s (opW D t l).1=true:=by
 have hlen:=hof.len
 have hints:allEq m bInt=true→allV l 1=true:=fun ha=>allV_iff.2 fun v hv=>of_int (hof.all ha v hv)
 have hbools:allEq m bBool=true→allV l 2=true:=fun ha=>allV_iff.2 fun v hv=>of_bool (hof.all ha v hv)
 have hright:(t.kind=2∨t.kind=6)→rightZ t.neg t.digits=true:=fun hc=>by
  cases hq:rightZ t.neg t.digits with
  | true=>rfl
  | false=>exact absurd ⟨hc,hq⟩ hr
 unfold partS at h
 rcases kidsN_cases hk with e | e | e | e | e | e | e | e | e | e | e | e | e
 · exact absurd e h1
 · rw [e] at h; cases h
   rw [opW_2 e]; exact ⟨hright (.inl e),numV_of D _⟩
 · rw [e] at h
   simp at h
   have h:=ite_ok h
   rw [opW_3 e,← h.2]; exact ⟨rfl,boolV_of D _⟩
 · rw [e] at h
   simp at h
   have h:=ite_ok h
   rw [opW_4 e,← h.2]; exact ⟨rfl,boolV_of D _⟩
 · rw [e] at h
   simp at h
   have h:=ite_ok h
   rw [opW_5 e,← h.2]; exact ⟨hints h.1,numV_of D _⟩
 · rw [e] at h
   simp at h
   have h:=ite_ok h
   rw [opW_6 e,← h.2]
   exact ⟨by rw [hints h.1,hright (.inr e)]; rfl,numV_of D _⟩
 · rw [e] at h
   have h:funS D t.name (m.getD 0 ⟨#[]⟩)=.ok s:=by simpa using h
   have hm:m.length=1:=by
    rw [e] at hn
    have:kidsN 7=1:=by decide
    omega
   match m,l,hlen,hof,hm with
   | [u],[w],_,hof,_ =>
    rw [opW_7 e]
    exact app_sound rfl hof.1 h
 · rw [e] at h
   have hm:m.length=2:=by
    rw [e] at hn
    have:kidsN 8=2:=by decide
    omega
   match m,l,hlen,hof,hm with
   | [a,b],[v,w],_,hof,_ =>
    simp at h
    obtain ⟨⟨ha,hb⟩,hs⟩:=ite_ok h
    subst ha
    rw [opW_8 e,← hs]
    refine ⟨?_,boolV_of D _⟩
    by_cases hi:a=bInt
    · subst hi
      rw [show allV [v,w] 1=true from allV_iff.2 fun x hx=>by
       simp at hx
       rcases hx with rfl | rfl
       · exact of_int hof.1
       · exact of_int hof.2.1]
      rfl
    · rw [show allV [v,w] 3=true from allV_iff.2 fun x hx=>by
       simp at hx
       rcases hx with rfl | rfl
       · exact of_data hi hb hof.1
       · exact of_data hi hb hof.2.1]
      simp
 · rw [e] at h
   simp at h
   have h:=ite_ok h
   rw [opW_9 e,← h.2]; exact ⟨hints h.1,boolV_of D _⟩
 · rw [e] at h
   simp at h
   have h:=ite_ok h
   rw [opW_10 e,← h.2]; exact ⟨hbools h.1,boolV_of D _⟩
 · rw [e] at h
   simp at h
   have h:=ite_ok h
   rw [opW_11 e,← h.2]; exact ⟨hbools h.1,boolV_of D _⟩
 · rw [e] at h
   simp at h
   have h:=ite_ok h
   rw [opW_12 e,← h.2]; exact ⟨hbools h.1,boolV_of D _⟩
 · rw [e] at h
   simp at h
   have h:=ite_ok h
   rw [opW_13 e,← h.2]; exact ⟨hbools h.1,boolV_of D _⟩
theorem sortL_sz:∀ {l:List Tw} {m:List ByteArray},sortL D S l=.ok m→m.length=l.length
 | [],m,h=>by rw [sortL] at h; cases h; rfl
 | t::l,m,h=>by
  rw [sortL] at h
  split at h
  · split at h
    · rename_i hm
      cases h
      simp [sortL_sz hm]
    · cases h
  · cases h
mutual
theorem ev_sound (hl:V.length=S.length) (hV:∀ i,i<S.length→ofV D (Srt.sort (S.getD i Sh.srt.nil)) (V.getD i Sh.vl.nil)=true):∀ {t:Tw} {s:ByteArray},sortT D S t=.ok s→∃ v,evalT D (bndOf S V) t=.ok v∧ofV D s v=true
 | .mk k nm neg dg kids,s,h=>by
  rw [sortT] at h
  split at h
  · cases h
  rename_i hk
  split at h
  · cases h
  rename_i hn
  have hn:kidsN k<0∨kidsN k=kids.length:=Classical.byContradiction hn
  split at h
  · cases h
  rename_i hr
  have hm:=manyM_kids hk
  split at h
  · rename_i h1
    have h0:kids.length=0:=by
     rw [h1] at hn
     have:kidsN 1=0:=by decide
     omega
    rw [ev_var (t:=.mk k nm neg dg kids) h1 h0]
    have:=var_sound hl hV nm s S.length (Nat.le_refl _) (by rw [List.take_length]; exact h)
    rw [show S.length=(bndOf S V).length from (bndOf_len S V hl).symm,List.take_length] at this
    exact this
  · rename_i h1
    split at h
    · rename_i m hm'
      obtain ⟨l,hev,hof⟩:=evL_sound hl hV hm'
      have hG:EvG (.mk k nm neg dg kids):=⟨fun c=>h1 c.1,by show (manyM k).2=true; rw [hm],fun h0=>by
       have h0:0≤(manyM k).1:=h0
       show (kids.length:Int)=(manyM k).1
       rw [hm] at h0 ⊢
       exact (hn.resolve_left (by dsimp only at h0; omega)).symm⟩
      obtain ⟨o1,o2⟩:=op_sound (t:=.mk k nm neg dg kids) hk h1 (by rw [sortL_sz hm']; exact hn) hr hof h
      exact ⟨_,ev_ok hG hev (Prod.ext rfl o1),o2⟩
    · cases h
theorem evL_sound (hl:V.length=S.length) (hV:∀ i,i<S.length→ofV D (Srt.sort (S.getD i Sh.srt.nil)) (V.getD i Sh.vl.nil)=true):∀ {l:List Tw} {m:List ByteArray},sortL D S l=.ok m→∃ vs,evalL D (bndOf S V) l=.ok vs∧OfL D m vs
 | [],m,h=>by rw [sortL] at h; cases h; exact ⟨[],by rw [evalL],trivial⟩
 | t::l,m,h=>by
  rw [sortL] at h
  split at h
  · rename_i s hs
    split at h
    · rename_i m' hm
      cases h
      obtain ⟨v,h1,h2⟩:=ev_sound hl hV hs
      obtain ⟨vs,h3,h4⟩:=evL_sound hl hV hm
      exact ⟨v::vs,by rw [evalL,h1,h3],h2,h4⟩
    · cases h
  · cases h
end
end
theorem bndOf_next {S:List Srt} {V:List Vw} (h:V.length=S.length) {i:Nat} (hi:i<S.length):(bndOf S V).take (i+1)=(bndOf S V).take i++[⟨(S.getD i Sh.srt.nil).name,V.getD i Sh.vl.nil⟩]:=by
 have hb:i<(bndOf S V).length:=by rw [bndOf_len S V h]; exact hi
 have:=bndOf_at h hi
 rw [List.getD_eq_getElem?_getD,List.getElem?_eq_getElem hb] at this
 rw [List.take_add_one,List.getElem?_eq_getElem hb]
 rw [Option.getD_some] at this
 rw [this]; rfl
mutual
theorem cntT_fit:∀ (t:Tw),cntT t≤400000→t.fitT
 | .mk k n b d l,h=>by
  unfold cntT at h
  have h1:=cntTL_len l
  exact ⟨by omega,by omega,by omega,cntTL_fit l (by omega)⟩
theorem cntTL_fit:∀ (l:List Tw),cntTL l≤400000→fitTL l
 | [],_=>trivial
 | v::l,h=>by
  unfold cntTL at h
  exact ⟨cntT_fit v (by omega),cntTL_fit l (by omega)⟩
end
end Go.Proofs.YtpjjdngoblfleaaGreat
namespace Go.Proofs.YtpjjdngoblfleaaGreat
open Go.RowKit
set_option linter.unusedVariables false
set_option maxRecDepth 100000
def litM (k:Int):Int × Bool:=lookN (.int .u8) k 0 [8,9,7,1,4,3] [2,2,1,0,0,0]
mutual
def litT:Tw→Bool
 | .mk k n b d l=>if k=10 then decide (l.length=1) && litH l else (litM k).2 && decide ((l.length:Int)=(litM k).1)
def litH:List Tw→Bool
 | []=>false
 | t::_=>decide (t.kind=1∨t.kind=7∨t.kind=8) && litT t
end
mutual
def pusT:Tw→Bool
 | .mk k n b d l=>if k=11∨k=12 then pusL l else litT (.mk k n b d l)
def pusL:List Tw→Bool
 | []=>true
 | t::l=>pusT t && pusL l
end
theorem litT_eq (t:Tw):litT t=if t.kind=10 then decide (t.kids.length=1) && litH t.kids else (litM t.kind).2 && decide ((t.kids.length:Int)=(litM t.kind).1):=by cases t; rw [litT]; rfl
theorem pusT_eq (t:Tw):pusT t=if t.kind=11∨t.kind=12 then pusL t.kids else litT t:=by cases t; rw [pusT]; rfl
section
variable {D : List Dat} {S : List Srt} {V : List Vw}
theorem sort_inv {t:Tw} {s:ByteArray} (h:sortT D S t=.ok s):¬ kidsN t.kind=-2∧(kidsN t.kind<0∨kidsN t.kind=t.kids.length)∧(t.kind=1∨∃ m,sortL D S t.kids=.ok m∧partS D t.kind t.name m=.ok s):=by
 rw [sortT_eq] at h
 split at h
 · cases h
 rename_i h1
 split at h
 · cases h
 rename_i h2
 split at h
 · cases h
 refine ⟨h1,Classical.byContradiction h2,?_⟩
 split at h
 · rename_i hk; exact .inl hk
 · split at h
   · rename_i m hm; exact .inr ⟨m,hm,h⟩
   · cases h
theorem sort_mk {k:Int} {l:List Tw} {m:List ByteArray} {s:ByteArray} (h1:¬ kidsN k=-2) (h2:kidsN k<0∨kidsN k=l.length) (h3:¬ (k=2∨k=6)) (h4:¬ k=1) (hl:sortL D S l=.ok m) (hp:partS D k ⟨#[]⟩ m=.ok s):sortT D S (conT k l)=.ok s:=by
 rw [sortT_eq]
 show (if kidsN k=-2 then _ else if ¬ (kidsN k<0∨kidsN k=l.length) then _ else if (k=2∨k=6)∧rightZ (conT k l).neg (conT k l).digits=false then _ else if k=1 then _ else match sortL D S l with | .ok l=>partS D k ⟨#[]⟩ l | .error e=>.error e)=_
 rw [if_neg h1,if_neg (fun c=>c h2),if_neg (c:=(k=2∨k=6)∧rightZ (conT k l).neg (conT k l).digits=false) (fun c=>h3 c.1),if_neg h4,hl]
 exact hp
theorem sortL_all {s:ByteArray}:∀ {l:List Tw} {m:List ByteArray},sortL D S l=.ok m→allEq m s=true→∀ t∈l,sortT D S t=.ok s
 | [],m,h,ha,t,ht=>by cases ht
 | u::l,m,h,ha,t,ht=>by
  rw [sortL] at h
  split at h
  · rename_i x hx
    split at h
    · rename_i m' hm
      cases h
      unfold allEq at ha
      rw [List.all_cons,Bool.and_eq_true,decide_eq_true_eq] at ha
      rcases List.mem_cons.1 ht with rfl | ht
      · rw [hx,ha.1]
      · exact sortL_all hm (show allEq m' s=true from ha.2) t ht
    · cases h
  · cases h
theorem sortL_mk {s:ByteArray}:∀ {l:List Tw},(∀ t∈l,sortT D S t=.ok s)→∃ m,sortL D S l=.ok m∧allEq m s=true
 | [],_=>⟨[],by rw [sortL],rfl⟩
 | u::l,h=>by
  obtain ⟨m,h1,h2⟩:=sortL_mk (l:=l) fun t ht=>h t (by simp [ht])
  refine ⟨s::m,by rw [sortL,h u (by simp),h1],?_⟩
  unfold allEq at h2 ⊢
  rw [List.all_cons,h2,decide_eq_true rfl]; rfl
theorem sort_bool {k:Int} {l:List Tw} (hk:k=3∨k=4∨k=10∨k=11∨k=12∨k=13) (h2:kidsN k<0∨kidsN k=l.length) (h:∀ t∈l,sortT D S t=.ok bBool):sortT D S (conT k l)=.ok bBool:=by
 obtain ⟨m,h3,h4⟩:=sortL_mk h
 have h1:¬ kidsN k=-2:=by rcases hk with rfl | rfl | rfl | rfl | rfl | rfl <;> decide
 refine sort_mk h1 h2 (by omega) (by omega) h3 ?_
 unfold partS
 rw [if_neg (by omega),if_neg (by omega),if_neg (by omega),if_neg (by omega),if_neg (by omega),if_pos h4]
theorem sort_le {a b:Tw} (ha:sortT D S a=.ok bInt) (hb:sortT D S b=.ok bInt):sortT D S (conT 9 [a,b])=.ok bBool :=
 sort_mk (m:=[bInt,bInt]) (by decide) (.inr (show kidsN 9=((2:Nat):Int) by decide)) (by decide) (by decide) (by rw [sortL,ha,sortL,hb,sortL]) (by
  unfold partS
  rw [if_neg (by decide),if_neg (by decide),if_neg (by decide),if_neg (by decide),if_pos (by decide),if_pos (by decide)])
theorem sort_one:sortT D S oneT=.ok bInt:=by
 rw [sortT_eq]
 show (if kidsN 2=-2 then _ else if ¬ (kidsN 2<0∨kidsN 2=((0:Nat):Int)) then _ else if ((2:Int)=2∨(2:Int)=6)∧rightZ (zNeg 1) (digs 1000000000 (1:Int).natAbs)=false then _ else if (2:Int)=1 then _ else match sortL D S [] with | .ok l=>partS D 2 ⟨#[]⟩ l | .error e=>.error e)=_
 rw [if_neg (by decide),if_neg (by decide),if_neg (by rw [rightZ_of]; decide),if_neg (by decide),sortL]
 rfl
theorem sort_sum {a b:Tw} (ha:sortT D S a=.ok bInt) (hb:sortT D S b=.ok bInt):sortT D S (conT 5 [a,b])=.ok bInt :=
 sort_mk (m:=[bInt,bInt]) (by decide) (.inl (by decide)) (by decide) (by decide) (by rw [sortL,ha,sortL,hb,sortL]) (by
  unfold partS
  rw [if_neg (by decide),if_pos (by decide),if_pos (by decide)])
theorem sort_above {a b:Tw} (ha:sortT D S a=.ok bInt) (hb:sortT D S b=.ok bInt):sortT D S (aboveT a b)=.ok bBool:=sort_le (sort_sum ha sort_one) hb
theorem kid_mem {l:List Tw} {i:Nat} (h:i<l.length):l.getD i Sh.tm.nil∈l:=by
 rw [List.getD_eq_getElem?_getD,List.getElem?_eq_getElem h]
 exact List.getElem_mem h
inductive BoolT (D:List Dat) (S:List Srt) (t:Tw):Prop
 | atom (hk:t.kind=1∨t.kind=7) (hl:(t.kids.length:Int)=kidsN t.kind)
 | con (hk:t.kind=3∨t.kind=4) (hl:t.kids=[])
 | eq (a b:Tw) (hk:t.kind=8) (hl:t.kids=[a,b]) (s:ByteArray) (ha:sortT D S a=.ok s) (hb:sortT D S b=.ok s) (hs:¬ s=bBool)
 | le (a b:Tw) (hk:t.kind=9) (hl:t.kids=[a,b]) (ha:sortT D S a=.ok bInt) (hb:sortT D S b=.ok bInt)
 | not (a:Tw) (hk:t.kind=10) (hl:t.kids=[a]) (ha:sortT D S a=.ok bBool)
 | iff (a b:Tw) (hk:t.kind=13) (hl:t.kids=[a,b]) (ha:sortT D S a=.ok bBool) (hb:sortT D S b=.ok bBool)
 | join (hk:t.kind=11∨t.kind=12) (h:∀ a∈t.kids,sortT D S a=.ok bBool)
theorem one_kid {l:List Tw} (h:l.length=1):∃ a,l=[a]:=by
 match l,h with
 | [a],_=>exact ⟨a,rfl⟩
theorem two_kids {l:List Tw} (h:l.length=2):∃ a b,l=[a,b]:=by
 match l,h with
 | [a,b],_=>exact ⟨a,b,rfl⟩
theorem bool_inv {t:Tw} (h:sortT D S t=.ok bBool):BoolT D S t:=by
 obtain ⟨h1,h2,h3⟩:=sort_inv h
 rcases h3 with hk | ⟨m,hm,hp⟩
 · exact .atom (.inl hk) (by rw [hk] at h2 ⊢; have : kidsN 1 = 0 := by decide
                             omega)
 unfold partS at hp
 rcases kidsN_cases h1 with e | e | e | e | e | e | e | e | e | e | e | e | e
 · exact .atom (.inl e) (by rw [e] at h2 ⊢; have : kidsN 1 = 0 := by decide
                            omega)
 · rw [e] at hp; cases hp
 · refine .con (.inl e) (List.eq_nil_of_length_eq_zero ?_)
   rw [e] at h2; have:kidsN 3=0:=by decide
   omega
 · refine .con (.inr e) (List.eq_nil_of_length_eq_zero ?_)
   rw [e] at h2; have:kidsN 4=0:=by decide
   omega
 · have hp:(if allEq m bInt then Except.ok bInt else Except.error (23:Int))=Except.ok bBool:=by rw [e] at hp; exact hp
   exact absurd (ite_ok hp).2 int_bool
 · have hp:(if allEq m bInt then Except.ok bInt else Except.error (23:Int))=Except.ok bBool:=by rw [e] at hp; exact hp
   exact absurd (ite_ok hp).2 int_bool
 · exact .atom (.inr e) (by rw [e] at h2 ⊢; have : kidsN 7 = 1 := by decide
                            omega)
 · have hl:t.kids.length=2:=by
    rw [e] at h2; have:kidsN 8=2:=by decide
    omega
   obtain ⟨a,b,hab⟩:=two_kids hl
   rw [hab,sortL] at hm
   split at hm
   · rename_i s hs
     rw [sortL] at hm
     split at hm
     · rename_i m' hm'
       split at hm'
       · rename_i s' hs'
         rw [sortL] at hm'
         cases hm'; cases hm
         have hp:(if decide (s=s') && !decide (s=bBool) then Except.ok bBool else Except.error (23:Int))=Except.ok bBool:=by rw [e] at hp; exact hp
         have h6:=(ite_ok hp).1
         simp only [Bool.and_eq_true,decide_eq_true_eq,Bool.not_eq_true',decide_eq_false_iff_not] at h6
         obtain ⟨h4,h5⟩:=h6
         subst h4
         exact .eq a b e hab s hs hs' h5
       · cases hm'
     · cases hm
   · cases hm
 · have hl:t.kids.length=2:=by
    rw [e] at h2; have:kidsN 9=2:=by decide
    omega
   obtain ⟨a,b,hab⟩:=two_kids hl
   have hp:(if allEq m bInt then Except.ok bBool else Except.error (23:Int))=Except.ok bBool:=by rw [e] at hp; exact hp
   have hall:=sortL_all hm (ite_ok hp).1
   rw [hab] at hall
   exact .le a b e hab (hall a (by simp)) (hall b (by simp))
 · have hl:t.kids.length=1:=by
    rw [e] at h2; have:kidsN 10=1:=by decide
    omega
   obtain ⟨a,hab⟩:=one_kid hl
   have hp:(if allEq m bBool then Except.ok bBool else Except.error (23:Int))=Except.ok bBool:=by rw [e] at hp; exact hp
   have hall:=sortL_all hm (ite_ok hp).1
   rw [hab] at hall
   exact .not a e hab (hall a (by simp))
 · have hp:(if allEq m bBool then Except.ok bBool else Except.error (23:Int))=Except.ok bBool:=by rw [e] at hp; exact hp
   exact .join (.inl e) (sortL_all hm (ite_ok hp).1)
 · have hp:(if allEq m bBool then Except.ok bBool else Except.error (23:Int))=Except.ok bBool:=by rw [e] at hp; exact hp
   exact .join (.inr e) (sortL_all hm (ite_ok hp).1)
 · have hl:t.kids.length=2:=by
    rw [e] at h2; have:kidsN 13=2:=by decide
    omega
   obtain ⟨a,b,hab⟩:=two_kids hl
   have hp:(if allEq m bBool then Except.ok bBool else Except.error (23:Int))=Except.ok bBool:=by rw [e] at hp; exact hp
   have hall:=sortL_all hm (ite_ok hp).1
   rw [hab] at hall
   exact .iff a b e hab (hall a (by simp)) (hall b (by simp))
theorem whole_is {t:Tw}:wholeB D S t=true↔sortT D S t=.ok bInt:=by
 unfold wholeB
 cases h:sortT D S t with
 | error e=>simp
 | ok s=>simp
theorem lit_le (a b:Tw):litT (conT 9 [a,b])=true:=by rw [litT_eq]; rfl
theorem pus_le (a b:Tw):pusT (conT 9 [a,b])=true:=by rw [pusT_eq]; exact lit_le a b
theorem lit_not {t:Tw} (hk:t.kind=1∨t.kind=7∨t.kind=8) (h:litT t=true):litT (conT 10 [t])=true:=by
 rw [litT_eq]
 show (decide ([t].length=1) && litH [t])=true
 rw [litH,h,decide_eq_true hk]; rfl
theorem pus_two {k:Int} (hk:k=11∨k=12) {a b:Tw} (ha:pusT a=true) (hb:pusT b=true):pusT (conT k [a,b])=true:=by
 rw [pusT_eq]
 show (if k=11∨k=12 then pusL [a,b] else _)=true
 rw [if_pos hk,pusL,pusL,pusL,ha,hb]; rfl
theorem pus_all {k:Int} (hk:k=11∨k=12) {l:List Tw} (h:pusL l=true):pusT (conT k l)=true:=by
 rw [pusT_eq]
 show (if k=11∨k=12 then pusL l else _)=true
 rw [if_pos hk,h]
theorem atom_lit {t:Tw} (hk:t.kind=1∨t.kind=7∨t.kind=8∨t.kind=9) (hl:(t.kids.length:Int)=kidsN t.kind):litT t=true:=by
 rw [litT_eq,if_neg (by omega)]
 rcases hk with e | e | e | e <;> rw [e] at hl ⊢
 · rw [show litM 1=(0,true) by decide,hl]; decide
 · rw [show litM 7=(1,true) by decide,hl]; decide
 · rw [show litM 8=(2,true) by decide,hl]; decide
 · rw [show litM 9=(2,true) by decide,hl]; decide
theorem bool_canon {v:Vw} (h:ofV D bBool v=true):v=boolV v.truth:=by
 have hk:=of_bool h
 obtain ⟨-,⟨h1,h2⟩,-⟩:=okW_eq.1 (ofV_ok h)
 have h5:=noneB_flds h2 (by omega)
 cases v with
 | mk k b d x n l =>
  have hk:k=2:=hk
  have h5:l=[]:=h5
  simp only [noneB,Vw.kind,Vw.neg,Vw.digits,Vw.truth,Vw.name,Vw.fields,Bool.and_eq_true,Bool.or_eq_true] at h2
  obtain ⟨⟨h6,-⟩,h7⟩:=h2
  have h6:d=[]∧b=false:=by
   rcases h6 with h6 | ⟨h6,h8⟩
   · have:=of_decide_eq_true h6; omega
   · exact ⟨List.eq_nil_of_length_eq_zero (of_decide_eq_true h6),by simpa using h8⟩
  have h7:n=⟨#[]⟩:=by
   rcases h7 with h7 | h7
   · have:=of_decide_eq_true h7; omega
   · exact of_decide_eq_true h7.1
  show Vw.mk k b d x n l=Vw.mk 2 false [] x ⟨#[]⟩ []
  rw [hk,h5,h6.1,h6.2,h7]
theorem evG_of {t:Tw} {s:ByteArray} (h:sortT D S t=.ok s) (h1:¬ t.kind=1):EvG t:=by
 obtain ⟨h2,h3,-⟩:=sort_inv h
 have hm:=manyM_kids h2
 exact ⟨fun c=>h1 c.1,by rw [hm],fun h0=>by
  rw [hm] at h0 ⊢
  exact (h3.resolve_left (by dsimp only at h0; omega)).symm⟩
theorem ev_inv {B:List Bnd} {t:Tw} {l:List Vw} {v:Vw} (hG:EvG t) (hk:evalL D B t.kids=.ok l) (h:evalT D B t=.ok v):v=(opW D t l).1:=by
 rw [ev_kids hG,hk] at h
 dsimp only at h
 split at h
 · cases h; rfl
 · cases h
theorem szL_mem {l:List Tw} {a:Tw} (h:a∈l):a.size≤szL l:=by
 induction l with
 | nil=>cases h
 | cons t l ih =>
  rw [szL]
  rcases List.mem_cons.1 h with rfl | h
  · omega
  · have:=ih h; omega
theorem eachV_map (xs:List Bool) (b:Bool):eachV (xs.map boolV) b=xs.all (·==b):=by
 rw [Bool.eq_iff_iff,eachV_iff,List.all_eq_true]
 constructor
 · intro h x hx
   exact beq_iff_eq.mpr (h (boolV x) (List.mem_map_of_mem hx))
 · intro h v hv
   obtain ⟨x,hx,rfl⟩:=List.mem_map.1 hv
   exact beq_iff_eq.mp (h x hx)
def PushSt (D:List Dat) (S:List Srt) (t:Tw) (is:Bool):Prop:=pusT (pushT D S t is)=true∧sortT D S (pushT D S t is)=.ok bBool
theorem pushL_st {is:Bool}:∀ {l:List Tw},(∀ a∈l,PushSt D S a is)→pusL (pushL D S l is)=true∧∀ a∈pushL D S l is,sortT D S a=.ok bBool
 | [],_=>⟨by rw [pushL,pusL],fun a ha=>by rw [pushL] at ha; cases ha⟩
 | t::l,h=>by
  obtain ⟨h1,h2⟩:=h t (by simp)
  obtain ⟨g1,g2⟩:=pushL_st (l:=l) fun a ha=>h a (by simp [ha])
  refine ⟨by rw [pushL,pusL,h1,g1]; rfl,fun a ha=>?_⟩
  rw [pushL] at ha
  rcases List.mem_cons.1 ha with rfl | ha
  · exact h2
  · exact g2 a ha
theorem sort_pair {k:Int} (hk:k=11∨k=12) {c d:Tw} (hc:sortT D S c=.ok bBool) (hd:sortT D S d=.ok bBool):sortT D S (conT k [c,d])=.ok bBool :=
 sort_bool (by omega) (.inl (by rcases hk with e | e <;> rw [e] <;> decide)) fun e he=>by
  simp at he
  rcases he with rfl | rfl
  · exact hc
  · exact hd
theorem push_st:∀ (n:Nat) (t:Tw) (is:Bool),t.size≤n→sortT D S t=.ok bBool→PushSt D S t is
 | 0,t,is,hn,h=>absurd t.size_pos (by omega)
 | n+1,t,is,hn,h=>by
  have hsz:=t.size_eq
  have asis:litT t=true→¬ (t.kind=11∨t.kind=12)→pushT D S t true=t→PushSt D S t true:=fun h1 h2 h3=>by
   unfold PushSt
   rw [h3,pusT_eq,if_neg h2]; exact ⟨h1,h⟩
  have den:litT t=true→(t.kind=1∨t.kind=7∨t.kind=8)→pushT D S t false=conT 10 [t]→PushSt D S t false:=fun h1 h2 h3=>by
   unfold PushSt
   rw [h3]
   exact ⟨by rw [pusT_eq]; exact lit_not h2 h1,sort_bool (by decide) (.inr rfl) fun a ha=>by simp at ha; rw [ha]; exact h⟩
  have hpe:=pushT_eq D S t is
  cases bool_inv h with
  | atom hk hkl =>
   have hlit:litT t=true:=atom_lit (by omega) hkl
   cases is with
   | true=>exact asis hlit (by omega) (by rw [hpe,if_neg (by omega),if_neg (by omega),if_neg (by omega),if_neg (by omega),if_pos rfl])
   | false=>exact den hlit (by omega) (by
     rw [hpe,if_neg (by omega),if_neg (by omega),if_neg (by omega),if_neg (by omega),if_neg (by decide)]
     unfold deniedT
     rw [if_neg (by omega),if_neg (by omega)])
  | con hk hk0 =>
   rw [if_pos hk] at hpe
   unfold PushSt
   rw [hpe]
   split
   · exact ⟨by decide,sort_bool (by decide) (.inr (by decide)) (fun a ha=>by cases ha)⟩
   · exact ⟨by decide,sort_bool (by decide) (.inr (by decide)) (fun a ha=>by cases ha)⟩
  | eq a b hk hab s ha hb hs =>
   have hlit:litT t=true:=atom_lit (by omega) (by rw [hab,hk]; rfl)
   cases is with
   | true=>exact asis hlit (by omega) (by rw [hpe,if_neg (by omega),if_neg (by omega),if_neg (by omega),if_neg (by omega),if_pos rfl])
   | false =>
    have k0:kidT t 0=a:=by unfold kidT; rw [hab]; rfl
    have k1:kidT t 1=b:=by unfold kidT; rw [hab]; rfl
    by_cases hw:wholeB D S a=true
    · have hai:=whole_is.1 hw
      have hsi:s=bInt:=by rw [ha] at hai; cases hai; rfl
      subst hsi
      have e2:pushT D S t false=conT 12 [aboveT a b,aboveT b a]:=by
       rw [hpe,if_neg (by omega),if_neg (by omega),if_neg (by omega),if_neg (by omega),if_neg (by decide)]
       unfold deniedT
       rw [if_neg (by omega),k0,k1,if_pos ⟨hk,hw⟩]
      unfold PushSt
      rw [e2]
      exact ⟨pus_two (.inr rfl) (pus_le _ _) (pus_le _ _),sort_pair (.inr rfl) (sort_above ha hb) (sort_above hb ha)⟩
    · exact den hlit (by omega) (by
       rw [hpe,if_neg (by omega),if_neg (by omega),if_neg (by omega),if_neg (by omega),if_neg (by decide)]
       unfold deniedT
       rw [if_neg (by omega),k0,if_neg (fun c=>hw c.2)])
  | le a b hk hab ha hb =>
   have hlit:litT t=true:=atom_lit (by omega) (by rw [hab,hk]; rfl)
   cases is with
   | true=>exact asis hlit (by omega) (by rw [hpe,if_neg (by omega),if_neg (by omega),if_neg (by omega),if_neg (by omega),if_pos rfl])
   | false =>
    have k0:kidT t 0=a:=by unfold kidT; rw [hab]; rfl
    have k1:kidT t 1=b:=by unfold kidT; rw [hab]; rfl
    have e2:pushT D S t false=aboveT b a:=by
     rw [hpe,if_neg (by omega),if_neg (by omega),if_neg (by omega),if_neg (by omega),if_neg (by decide)]
     unfold deniedT
     rw [if_pos hk,k0,k1]
    unfold PushSt
    rw [e2]
    exact ⟨pus_le _ _,sort_above hb ha⟩
  | not a hk hab ha =>
   have hs:a.size≤n:=by have:=szL_mem (l:=t.kids) (a:=a) (by rw [hab]; simp); omega
   have e2:pushT D S t is=pushT D S a (!is):=by
    rw [hpe,if_neg (by omega),if_pos hk,hab,pushL]; rfl
   unfold PushSt
   rw [e2]
   exact push_st n a (!is) hs ha
  | iff a b hk hab ha hb =>
   have hsa:a.size≤n:=by have:=szL_mem (l:=t.kids) (a:=a) (by rw [hab]; simp); omega
   have hsb:b.size≤n:=by have:=szL_mem (l:=t.kids) (a:=b) (by rw [hab]; simp); omega
   obtain ⟨y1,y2⟩:=push_st n a true hsa ha
   obtain ⟨z1,z2⟩:=push_st n b true hsb hb
   obtain ⟨n1,n2⟩:=push_st n a false hsa ha
   obtain ⟨m1,m2⟩:=push_st n b false hsb hb
   have e2:pushT D S t is=iffT [pushT D S a true,pushT D S b true] [pushT D S a false,pushT D S b false] is:=by
    rw [hpe,if_neg (by omega),if_neg (by omega),if_pos hk,hab]
    simp only [pushL]
   unfold PushSt
   rw [e2]
   cases is with
   | true=>exact ⟨pus_two (.inl rfl) (pus_two (.inr rfl) n1 z1) (pus_two (.inr rfl) m1 y1),sort_pair (.inl rfl) (sort_pair (.inr rfl) n2 z2) (sort_pair (.inr rfl) m2 y2)⟩
   | false=>exact ⟨pus_two (.inl rfl) (pus_two (.inr rfl) y1 z1) (pus_two (.inr rfl) n1 m1),sort_pair (.inl rfl) (sort_pair (.inr rfl) y2 z2) (sort_pair (.inr rfl) n2 m2)⟩
  | join hk hall =>
   obtain ⟨g1,g2⟩:=pushL_st (D:=D) (S:=S) (is:=is) (l:=t.kids) fun a ha=>push_st n a is (by have:=szL_mem ha; omega) (hall a ha)
   have e2:pushT D S t is=conT (if decide (t.kind=11)=is then 11 else 12) (pushL D S t.kids is):=by
    rw [hpe,if_neg (by omega),if_neg (by omega),if_neg (by omega),if_pos hk]
   have hk':(if decide (t.kind=11)=is then (11:Int) else 12)=11∨(if decide (t.kind=11)=is then (11:Int) else 12)=12:=by split <;> simp
   unfold PushSt
   rw [e2]
   exact ⟨pus_all hk' g1,sort_bool (by omega) (.inl (by rcases hk' with e | e <;> rw [e] <;> decide)) g2⟩
def PushOk (D:List Dat) (S:List Srt) (B:List Bnd) (t:Tw) (is:Bool):Prop :=
 pusT (pushT D S t is)=true∧sortT D S (pushT D S t is)=.ok bBool∧∃ x,evalT D B t=.ok (boolV x)∧evalT D B (pushT D S t is)=.ok (boolV (x==is))
theorem pushL_ok {B:List Bnd} {is:Bool}:∀ {l:List Tw},(∀ a∈l,PushOk D S B a is)→pusL (pushL D S l is)=true∧(∀ a∈pushL D S l is,sortT D S a=.ok bBool)∧∃ xs:List Bool,evalL D B l=.ok (xs.map boolV)∧evalL D B (pushL D S l is)=.ok ((xs.map (·==is)).map boolV)
 | [],_=>⟨by rw [pushL,pusL],(fun a ha=>by rw [pushL] at ha; cases ha),[],by rw [evalL]; rfl,by rw [pushL,evalL]; rfl⟩
 | t::l,h=>by
  obtain ⟨h1,h2,x,h3,h4⟩:=h t (by simp)
  obtain ⟨g1,g2,xs,g3,g4⟩:=pushL_ok (l:=l) fun a ha=>h a (by simp [ha])
  refine ⟨by rw [pushL,pusL,h1,g1]; rfl,fun a ha=>?_,x::xs,by rw [evalL,h3,g3]; rfl,by rw [pushL,evalL,h4,g4]; rfl⟩
  rw [pushL] at ha
  rcases List.mem_cons.1 ha with rfl | ha
  · exact h2
  · exact g2 a ha
theorem t_all {B:List Bnd} {l:List Tw} {xs:List Bool} (h:evalL D B l=.ok (xs.map boolV)):evalT D B (conT 11 l)=.ok (boolV (xs.all (·==true))) :=
 ev_ok (evG_any (by decide) (by decide)) h (by
  rw [opW_11 rfl,eachV_map]
  exact Prod.ext rfl (allV_iff.2 fun v hv=>by
   obtain ⟨x,-,rfl⟩:=List.mem_map.1 hv
   rfl))
theorem t_any {B:List Bnd} {l:List Tw} {xs:List Bool} (h:evalL D B l=.ok (xs.map boolV)):evalT D B (conT 12 l)=.ok (boolV (!xs.all (·==false))) :=
 ev_ok (evG_any (by decide) (by decide)) h (by
  rw [opW_12 rfl,eachV_map]
  exact Prod.ext rfl (allV_iff.2 fun v hv=>by
   obtain ⟨x,-,rfl⟩:=List.mem_map.1 hv
   rfl))
theorem t_above {B:List Bnd} {a b:Tw} {v w:Vw} (ha:evalT D B a=.ok v) (hb:evalT D B b=.ok w) (kv:v.kind=1) (kw:w.kind=1):evalT D B (aboveT a b)=.ok (boolV (decide (cmpI (zV v.neg v.digits+1) (zV w.neg w.digits)≤0))):=by
 have h1:evalT D B oneT=.ok (numV 1):=ev_ok ⟨fun h=>absurd h.1 (by decide),by decide,fun _=>by decide⟩ (by show evalL D B []=.ok []; rw [evalL]) (by
  rw [opW_2 rfl]
  show (numV (zV (zNeg 1) (digs 1000000000 (1:Int).natAbs)),rightZ (zNeg 1) (digs 1000000000 (1:Int).natAbs))=_
  rw [rightZ_of,zV_digs])
 have h2:=t_add ha h1 kv rfl
 rw [numV_val] at h2
 have h3:=t_le h2 hb rfl kw
 rw [numV_val] at h3
 exact h3
theorem all_flip (xs:List Bool):(xs.map (·==false)).all (·==false)=xs.all (·==true):=by
 induction xs with
 | nil=>rfl
 | cons x xs ih=>rw [List.map_cons,List.all_cons,List.all_cons,ih]; cases x <;> rfl
theorem all_flip' (xs:List Bool):(xs.map (·==false)).all (·==true)=xs.all (·==false):=by
 induction xs with
 | nil=>rfl
 | cons x xs ih=>rw [List.map_cons,List.all_cons,List.all_cons,ih]; cases x <;> rfl
theorem all_same (xs:List Bool) (b:Bool):(xs.map (·==true)).all (·==b)=xs.all (·==b):=by
 induction xs with
 | nil=>rfl
 | cons x xs ih=>rw [List.map_cons,List.all_cons,List.all_cons,ih]; cases x <;> rfl
theorem push_ok (hl:V.length=S.length) (hV:∀ i,i<S.length→ofV D (Srt.sort (S.getD i Sh.srt.nil)) (V.getD i Sh.vl.nil)=true):∀ (n:Nat) (t:Tw) (is:Bool),t.size≤n→sortT D S t=.ok bBool→PushOk D S (bndOf S V) t is
 | 0,t,is,hn,h=>absurd t.size_pos (by omega)
 | n+1,t,is,hn,h=>by
  obtain ⟨v,hev,hof⟩:=ev_sound hl hV h
  have hcan:=bool_canon hof
  rw [hcan] at hev
  have hsz:=t.size_eq
  -- what stands as it is
  have asis:litT t=true→¬ (t.kind=11∨t.kind=12)→pushT D S t true=t→PushOk D S (bndOf S V) t true:=fun h1 h2 h3=>by
   refine ⟨?_,?_,v.truth,hev,?_⟩
   · rw [h3,pusT_eq,if_neg h2]; exact h1
   · rw [h3]; exact h
   · rw [h3,hev]; simp
  have den:litT t=true→(t.kind=1∨t.kind=7∨t.kind=8)→pushT D S t false=conT 10 [t]→PushOk D S (bndOf S V) t false:=fun h1 h2 h3=>by
   refine ⟨?_,?_,v.truth,hev,?_⟩
   · rw [h3,pusT_eq]; exact lit_not h2 h1
   · rw [h3]; exact sort_bool (by decide) (.inr rfl) fun a ha=>by simp at ha; rw [ha]; exact h
   · rw [h3,t_not hev rfl]
     show Except.ok (boolV (!v.truth))=_
     cases v.truth <;> rfl
  have hpe:=pushT_eq D S t is
  cases bool_inv h with
  | atom hk hkl =>
   have hlit:litT t=true:=atom_lit (by omega) hkl
   cases is with
   | true=>exact asis hlit (by omega) (by rw [hpe,if_neg (by omega),if_neg (by omega),if_neg (by omega),if_neg (by omega),if_pos rfl])
   | false=>exact den hlit (by omega) (by
     rw [hpe,if_neg (by omega),if_neg (by omega),if_neg (by omega),if_neg (by omega),if_neg (by decide)]
     unfold deniedT
     rw [if_neg (by omega),if_neg (by omega)])
  | con hk hk0 =>
   rw [if_pos hk] at hpe
   have hx:v.truth=decide (t.kind=3):=by
    have hG:=evG_of h (by omega)
    have:=ev_inv hG (by rw [hk0,evalL]) hev
    rcases hk with e | e
    · rw [opW_3 e] at this
      rw [e,show v.truth=true from congrArg Vw.truth this]; rfl
    · rw [opW_4 e] at this
      rw [e,show v.truth=false from congrArg Vw.truth this]; rfl
   have key:∀ b:Bool,pusT (conT (if b=true then 3 else 4) [])=true∧sortT D S (conT (if b=true then 3 else 4) [])=.ok bBool∧evalT D (bndOf S V) (conT (if b=true then 3 else 4) [])=.ok (boolV b):=fun b=>by
    cases b with
    | true=>exact ⟨by decide,sort_bool (by decide) (.inr (by decide)) (fun a ha=>by cases ha),ev_ok (l:=[]) ⟨fun h=>absurd h.1 (by decide),by decide,fun _=>by decide⟩ (by show evalL _ _ []=_; rw [evalL]) (opW_3 rfl)⟩
    | false=>exact ⟨by decide,sort_bool (by decide) (.inr (by decide)) (fun a ha=>by cases ha),ev_ok (l:=[]) ⟨fun h=>absurd h.1 (by decide),by decide,fun _=>by decide⟩ (by show evalL _ _ []=_; rw [evalL]) (opW_4 rfl)⟩
   have e2:pushT D S t is=conT (if (v.truth==is)=true then 3 else 4) []:=by
    rw [hpe,hx]
    cases decide (t.kind=3) <;> cases is <;> rfl
   obtain ⟨k1,k2,k3⟩:=key (v.truth==is)
   unfold PushOk
   rw [e2]
   exact ⟨k1,k2,v.truth,hev,k3⟩
  | eq a b hk hab s ha hb hs =>
   have hlit:litT t=true:=atom_lit (by omega) (by rw [hab,hk]; rfl)
   obtain ⟨va,ea,oa⟩:=ev_sound hl hV ha
   obtain ⟨vb,eb,ob⟩:=ev_sound hl hV hb
   cases is with
   | true=>exact asis hlit (by omega) (by rw [hpe,if_neg (by omega),if_neg (by omega),if_neg (by omega),if_neg (by omega),if_pos rfl])
   | false =>
    have k0:kidT t 0=a:=by unfold kidT; rw [hab]; rfl
    have k1:kidT t 1=b:=by unfold kidT; rw [hab]; rfl
    by_cases hw:wholeB D S a=true
    · have hai:=whole_is.1 hw
      have hsi:s=bInt:=by rw [ha] at hai; cases hai; rfl
      subst hsi
      have e2:pushT D S t false=conT 12 [aboveT a b,aboveT b a]:=by
       rw [hpe,if_neg (by omega),if_neg (by omega),if_neg (by omega),if_neg (by omega),if_neg (by decide)]
       unfold deniedT
       rw [if_neg (by omega),k0,k1,if_pos ⟨hk,hw⟩]
      have ca:=num_canon (ofV_ok oa) (of_int oa)
      have cb:=num_canon (ofV_ok ob) (of_int ob)
      have hx:v.truth=sameV va vb:=by
       have:=ev_inv (evG_of h (by omega)) (by rw [hab]; exact evalL_two ea eb) hev
       rw [opW_8 hk] at this
       exact congrArg Vw.truth this
      refine ⟨by rw [e2]; exact pus_two (.inr rfl) (pus_le _ _) (pus_le _ _),?_,v.truth,hev,?_⟩
      · rw [e2]
        exact sort_bool (by decide) (.inl (by decide)) fun c hc=>by
         simp at hc
         rcases hc with rfl | rfl
         · exact sort_above ha hb
         · exact sort_above hb ha
      · rw [e2,t_or (t_above ea eb (of_int oa) (of_int ob)) (t_above eb ea (of_int ob) (of_int oa)) rfl rfl,hx]
        show Except.ok (boolV (decide _ || decide _))=_
        congr 2
        generalize hza:zV va.neg va.digits=za at *
        generalize hzb:zV vb.neg vb.digits=zb at *
        by_cases hz:za=zb
        · rw [show sameV va vb=true from sameV_iff.2 (by rw [ca,cb,hz])]
          subst hz
          rw [cmpI_gt (by omega)]
          decide
        · have hs':sameV va vb=false:=by
           cases hc:sameV va vb with
           | false=>rfl
           | true =>
            have:=sameV_iff.1 hc
            rw [this,hzb] at hza
            exact absurd hza.symm hz
          rw [hs']
          rcases Int.lt_or_gt_of_ne hz with h1 | h1
          · have:cmpI (za+1) zb≤0:=by unfold cmpI; split <;> (try split) <;> omega
            rw [decide_eq_true this]; rfl
          · have:cmpI (zb+1) za≤0:=by unfold cmpI; split <;> (try split) <;> omega
            rw [decide_eq_true this]; simp
    · exact den hlit (by omega) (by
       rw [hpe,if_neg (by omega),if_neg (by omega),if_neg (by omega),if_neg (by omega),if_neg (by decide)]
       unfold deniedT
       rw [if_neg (by omega),k0,if_neg (fun c=>hw c.2)])
  | le a b hk hab ha hb =>
   have hlit:litT t=true:=atom_lit (by omega) (by rw [hab,hk]; rfl)
   obtain ⟨va,ea,oa⟩:=ev_sound hl hV ha
   obtain ⟨vb,eb,ob⟩:=ev_sound hl hV hb
   cases is with
   | true=>exact asis hlit (by omega) (by rw [hpe,if_neg (by omega),if_neg (by omega),if_neg (by omega),if_neg (by omega),if_pos rfl])
   | false =>
    have k0:kidT t 0=a:=by unfold kidT; rw [hab]; rfl
    have k1:kidT t 1=b:=by unfold kidT; rw [hab]; rfl
    have e2:pushT D S t false=aboveT b a:=by
     rw [hpe,if_neg (by omega),if_neg (by omega),if_neg (by omega),if_neg (by omega),if_neg (by decide)]
     unfold deniedT
     rw [if_pos hk,k0,k1]
    have hx:v.truth=decide (cmpI (zV va.neg va.digits) (zV vb.neg vb.digits)≤0):=by
     have:=ev_inv (evG_of h (by omega)) (by rw [hab]; exact evalL_two ea eb) hev
     rw [opW_9 hk] at this
     exact congrArg Vw.truth this
    refine ⟨by rw [e2]; exact pus_le _ _,by rw [e2]; exact sort_above hb ha,v.truth,hev,?_⟩
    rw [e2,t_above eb ea (of_int ob) (of_int oa),hx]
    congr 2
    generalize zV va.neg va.digits=za
    generalize zV vb.neg vb.digits=zb
    by_cases hz:za≤zb
    · have h1:cmpI za zb≤0:=by unfold cmpI; split <;> (try split) <;> omega
      have h2:¬ cmpI (zb+1) za≤0:=by rw [cmpI_gt (by omega)]; decide
      rw [decide_eq_true h1,decide_eq_false h2]; rfl
    · have h1:¬ cmpI za zb≤0:=by rw [cmpI_gt (by omega)]; decide
      have h2:cmpI (zb+1) za≤0:=by unfold cmpI; split <;> (try split) <;> omega
      rw [decide_eq_false h1,decide_eq_true h2]; rfl
  | not a hk hab ha =>
   have hs:a.size≤n:=by have:=szL_mem (l:=t.kids) (a:=a) (by rw [hab]; simp); omega
   obtain ⟨h1,h2,x,h3,h4⟩:=push_ok hl hV n a (!is) hs ha
   have e2:pushT D S t is=pushT D S a (!is):=by
    rw [hpe,if_neg (by omega),if_pos hk,hab,pushL]; rfl
   have hx:v.truth=!x:=by
    have:=ev_inv (evG_of h (by omega)) (by rw [hab]; exact evalL_one h3) hev
    rw [opW_10 hk] at this
    exact congrArg Vw.truth this
   refine ⟨by rw [e2]; exact h1,by rw [e2]; exact h2,v.truth,hev,?_⟩
   rw [e2,h4,hx]
   cases x <;> cases is <;> rfl
  | iff a b hk hab ha hb =>
   have hsa:a.size≤n:=by have:=szL_mem (l:=t.kids) (a:=a) (by rw [hab]; simp); omega
   have hsb:b.size≤n:=by have:=szL_mem (l:=t.kids) (a:=b) (by rw [hab]; simp); omega
   obtain ⟨y1,y2,x,y3,y4⟩:=push_ok hl hV n a true hsa ha
   obtain ⟨z1,z2,y,z3,z4⟩:=push_ok hl hV n b true hsb hb
   obtain ⟨n1,n2,x',n3,n4⟩:=push_ok hl hV n a false hsa ha
   obtain ⟨m1,m2,y',m3,m4⟩:=push_ok hl hV n b false hsb hb
   have ex:x'=x:=by rw [y3] at n3; cases n3; rfl
   have ey:y'=y:=by rw [z3] at m3; cases m3; rfl
   subst ex ey
   have hx:v.truth=(x'==y'):=by
    have:=ev_inv (evG_of h (by omega)) (by rw [hab]; exact evalL_two y3 z3) hev
    rw [opW_13 hk] at this
    exact congrArg Vw.truth this
   have e2:pushT D S t is=iffT [pushT D S a true,pushT D S b true] [pushT D S a false,pushT D S b false] is:=by
    rw [hpe,if_neg (by omega),if_neg (by omega),if_pos hk,hab]
    simp only [pushL]
   have two:∀ {c d:Tw},sortT D S c=.ok bBool→sortT D S d=.ok bBool→sortT D S (conT 12 [c,d])=.ok bBool:=fun hc hd=>sort_bool (by decide) (.inl (by decide)) fun e he=>by
    simp at he
    rcases he with rfl | rfl
    · exact hc
    · exact hd
   have two':∀ {c d:Tw},sortT D S c=.ok bBool→sortT D S d=.ok bBool→sortT D S (conT 11 [c,d])=.ok bBool:=fun hc hd=>sort_bool (by decide) (.inl (by decide)) fun e he=>by
    simp at he
    rcases he with rfl | rfl
    · exact hc
    · exact hd
   unfold PushOk
   rw [e2]
   cases is with
   | true =>
    refine ⟨pus_two (.inl rfl) (pus_two (.inr rfl) n1 z1) (pus_two (.inr rfl) m1 y1),two' (two n2 z2) (two m2 y2),v.truth,hev,?_⟩
    refine (t_and (t_or n4 z4 rfl rfl) (t_or m4 y4 rfl rfl) rfl rfl).trans ?_
    rw [hx]
    cases x' <;> cases y' <;> rfl
   | false =>
    refine ⟨pus_two (.inl rfl) (pus_two (.inr rfl) y1 z1) (pus_two (.inr rfl) n1 m1),two' (two y2 z2) (two n2 m2),v.truth,hev,?_⟩
    refine (t_and (t_or y4 z4 rfl rfl) (t_or n4 m4 rfl rfl) rfl rfl).trans ?_
    rw [hx]
    cases x' <;> cases y' <;> rfl
  | join hk hall =>
   obtain ⟨g1,g2,xs,g3,g4⟩:=pushL_ok (D:=D) (S:=S) (B:=bndOf S V) (is:=is) (l:=t.kids) fun a ha=>push_ok hl hV n a is (by have:=szL_mem ha; omega) (hall a ha)
   have hinv:=ev_inv (evG_of h (by omega)) g3 hev
   have e2:pushT D S t is=conT (if decide (t.kind=11)=is then 11 else 12) (pushL D S t.kids is):=by
    rw [hpe,if_neg (by omega),if_neg (by omega),if_neg (by omega),if_pos hk]
   have hk':(if decide (t.kind=11)=is then (11:Int) else 12)=11∨(if decide (t.kind=11)=is then (11:Int) else 12)=12:=by split <;> simp
   unfold PushOk
   rw [e2]
   refine ⟨pus_all hk' g1,sort_bool (by omega) (.inl (by rcases hk' with e | e <;> rw [e] <;> decide)) g2,v.truth,hev,?_⟩
   rcases hk with e | e
   · rw [opW_11 e,eachV_map] at hinv
     have hx:v.truth=xs.all (·==true):=congrArg Vw.truth hinv
     rw [hx,e]
     cases is with
     | true =>
      refine (t_all g4).trans ?_
      rw [all_same]; simp
     | false =>
      refine (t_any g4).trans ?_
      rw [all_flip]
      cases xs.all (·==true) <;> rfl
   · rw [opW_12 e,eachV_map] at hinv
     have hx:v.truth=!xs.all (·==false):=congrArg Vw.truth hinv
     rw [hx,e]
     cases is with
     | true =>
      refine (t_any g4).trans ?_
      rw [all_same]; simp
     | false =>
      refine (t_all g4).trans ?_
      rw [all_flip']
      cases xs.all (·==false) <;> rfl
end
end Go.Proofs.YtpjjdngoblfleaaGreat
