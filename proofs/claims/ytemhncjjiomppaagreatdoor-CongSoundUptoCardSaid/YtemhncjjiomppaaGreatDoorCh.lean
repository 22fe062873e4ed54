/- Facts that come to true: so does what Same and Apply tell. -/
import Derived.Test.YtemhncjjiomppaaGreatDoorCe
import Derived.Test.YtemhncjjiomppaaGreatDoorNw
set_option linter.unusedSimpArgs false
namespace Go.Proofs.YtemhncjjiomppaaGreatDoor
open Go.RowKit
set_option linter.unusedVariables false
set_option maxRecDepth 100000
section
variable {D : List Dat} {B : List Bnd}
def QdW (D:List Dat) (B:List Bnd) (t:Tw):Prop:=∃ v,evalT D B t=.ok v∧v.kind=2∧v.truth=true
theorem QiF:∀ {l:List Tw} {m:List Vw},evalL D B l=.ok m→∀ i,i<l.length→evalT D B (l.getD i Sh.tm.nil)=.ok (m.getD i Sh.vl.nil)
 | [],m,h,i,hi=>absurd hi (Nat.not_lt_zero i)
 | t::l,m,h,i,hi=>by
  rw [evalL] at h
  split at h
  · cases h
  · rename_i v hv
    split at h
    · cases h
    · rename_i n hn
      cases h
      cases i with
      | zero=>exact hv
      | succ i=>exact QiF hn i (by simpa using hi)
theorem QtI {t:Tw} (h:QdW D B t) (hk:t.kind=8) (hl:t.kids.length=2):∃ v,evalT D B (t.kids.getD 0 Sh.tm.nil)=.ok v∧evalT D B (t.kids.getD 1 Sh.tm.nil)=.ok v:=by
 obtain ⟨v,hv,-,hvt⟩:=h
 have hg:EvG t:=⟨fun c=>by omega,by rw [hk]; rfl,fun _=>by rw [hk,hl]; rfl⟩
 rw [QiH hg] at hv
 split at hv
 · cases hv
 · rename_i l hl1
   split at hv
   · rw [Qp4 hk] at hv
     have h0:=QiF hl1 0 (by omega)
     have h1:=QiF hl1 1 (by omega)
     simp only [Except.ok.injEq] at hv
     subst hv
     have e:l.getD 0 Sh.vl.nil=l.getD 1 Sh.vl.nil:=Qci.1 hvt
     exact ⟨_,h0,by rw [e]; exact h1⟩
   · cases hv
theorem Qka {L:List Tw} (hL:∀ t∈L,QaZ t∧QdW D B t) {n:Int} {a b:Tw} (h:Qgs L n=some (a,b)):(QaZ a∧QaZ b)∧∃ v,evalT D B a=.ok v∧evalT D B b=.ok v:=by
 unfold Qgs at h
 split at h
 · rename_i hn
   split at h
   · rename_i hk
     simp only [Option.some.injEq,Prod.mk.injEq] at h
     obtain ⟨rfl,rfl⟩:=h
     have hm:L.getD n.toNat Sh.tm.nil∈L:=by
      rw [List.getD_eq_getElem?_getD,List.getElem?_eq_getElem (by omega)]
      exact List.getElem_mem _
     have hr:=((Qiy _).1 (hL _ hm).1).2
     have hin:∀ i,i<2→(L.getD n.toNat Sh.tm.nil).kids.getD i Sh.tm.nil∈(L.getD n.toNat Sh.tm.nil).kids:=by
      obtain ⟨-,hk⟩:=hk
      generalize L.getD n.toNat Sh.tm.nil=f at hk
      intro i hi
      rw [List.getD_eq_getElem?_getD,List.getElem?_eq_getElem (by omega)]
      exact List.getElem_mem _
     exact ⟨⟨Qbs hr (hin 0 (by decide)),Qbs hr (hin 1 (by decide))⟩,QtI (hL _ hm).2 hk.1 hk.2⟩
   · cases h
 · cases h
theorem QuP {a b:Tw}:keyS a=keyS b↔keyB a=keyB b:=by simp [keyS]
theorem Qiz {a b:Tw} (ha:QaZ a) (hb:QaZ b) (h:keyS a=keyS b):a=b:=(Qsm (Qix a ha) (Qix b hb)).1 (QuP.1 h)
theorem QfD {L:List Tw} (hL:∀ t∈L,QaZ t∧QdW D B t):∀ {l:List Int} {a b:Tw} {v:Vw},QaZ a→QaZ b→Qb2 L (keyS a) l=some (keyS b)→evalT D B a=.ok v→evalT D B b=.ok v
 | [],a,b,v,ha,hb,h,he=>by
  simp only [Qb2,Option.some.injEq] at h
  rw [← Qiz ha hb h]; exact he
 | n::l,a,b,v,ha,hb,h,he=>by
  simp only [Qb2] at h
  split at h
  · cases h
  · rename_i k hk
    unfold Qbp at hk
    split at hk
    · cases hk
    · rename_i p q hpq
      obtain ⟨⟨kp,kq⟩,u,hu,hu1⟩:=Qka hL hpq
      split at hk
      · rename_i hc
        cases hk
        have e:=Qiz ha kp hc
        subst e
        rw [he] at hu; cases hu
        exact QfD hL kq hb h hu1
      · split at hk
        · rename_i hc
          cases hk
          have e:=Qiz ha kq hc
          subst e
          rw [he] at hu1; cases hu1
          exact QfD hL kp hb h hu
        · cases hk
theorem QqL {a b:Tw} {v:Vw} (ha:evalT D B a=.ok v) (hb:evalT D B b=.ok v) (hk:v.kind=1∨v.kind=3):QdW D B (eqT a b):=by
 refine ⟨Qao (sameV v v),QcP (l:=[v,v]) ⟨fun c=>absurd c.1 (by show ¬ (8:Int)=1; decide),rfl,fun _=>rfl⟩ (Qgm ha hb) ?_,rfl,Qci.2 rfl⟩
 rw [Qp4 rfl]
 have:(allV [v,v] 1 || allV [v,v] 3)=true:=by
  rcases hk with h | h
  · rw [Qfy h h]; rfl
  · rw [Qfy h h,Bool.or_true]
 rw [this]; rfl
variable {S : List Srt} {V : List Vw}
theorem Qph {L:List Tw} (hl:V.length=S.length) (hV:∀ i,i<S.length→ofV D (Srt.sort (S.getD i Sh.srt.nil)) (V.getD i Sh.vl.nil)=true)
  (hL:∀ t∈L,QaZ t∧QdW D (QcQ S V) t) {a b x:Tw} {l:List Int} {s:ByteArray} (ka:QaZ a) (kb:QaZ b) (h:Qbd L a b l=.ok x) (ha:Qap D S a=.ok s) (hs:¬ s=QaM):QdW D (QcQ S V) x:=by
 obtain ⟨rfl,hw⟩:=Qpj h
 obtain ⟨v,hv,ho⟩:=QiG hl hV ha
 refine QqL hv (QfD hL ka kb hw hv) ?_
 by_cases hi:s=bInt
 · subst hi; exact .inl (QjL ho)
 · exact .inr (QfZ hi hs ho)
theorem Qtx {a:Tw} {v:Vw} {u s nm:ByteArray} (he:evalT D B a=.ok v) (ho:ofV D u v=true) (hf:funS D nm u=.ok s):∃ w,evalT D B (appT nm a)=.ok w∧ofV D s w=true∧w=(appV D (appT nm a) [v]).1:=by
 obtain ⟨h1,h2⟩:=QkF (t:=appT nm a) (l:=[v]) rfl ho hf
 refine ⟨_,QcP (l:=[v]) ⟨fun c=>absurd c.1 (by show ¬ (7:Int)=1; decide),rfl,fun _=>rfl⟩ (Qgn he) ?_,h2,rfl⟩
 rw [Qr5 rfl,← h1]
theorem Qgr {p q:Tw} {v:Vw} (hp:evalT D B p=.ok v) (hq:evalT D B q=.ok v) (hk:v.kind=2):evalT D B (Qam p q)=.ok (Qao true):=by
 have h:=t_or (t_not hp hk) hq rfl hk
 have e:(Vw.truth (Qao !v.truth) || v.truth)=true:=by
  show (!v.truth || v.truth)=true
  cases v.truth <;> rfl
 rw [e] at h
 exact h
theorem QoM {L:List Tw} (hl:V.length=S.length) (hV:∀ i,i<S.length→ofV D (Srt.sort (S.getD i Sh.srt.nil)) (V.getD i Sh.vl.nil)=true)
  (hL:∀ t∈L,QaZ t∧QdW D (QcQ S V) t) {n:Int} {nm:ByteArray} {y:Tw} (h:Qax D S L n nm=.ok y):QdW D (QcQ S V) y:=by
 unfold Qax at h
 split at h
 · cases h
 · rename_i a b he
   obtain ⟨⟨ka,kb⟩,v,hv,hv1⟩:=Qka hL (QiK he).1
   split at h
   · rename_i hs
     obtain ⟨ha,hb,hab,hd⟩:=hs
     obtain ⟨s,hs,hs1⟩:=Qjp rfl ha
     rw [hs] at hd hab h
     obtain ⟨v',hv',ho⟩:=QiG hl hV hs
     rw [hv] at hv'; cases hv'
     split at h
     · cases h
     · rename_i f t hf
       split at h
       · rename_i hft
         split at h
         · rename_i hto
           have hfs:funS D nm s=.ok t:=by
            unfold funS
            rw [hf]
            dsimp only
            refine if_pos ?_
            rw [show QaR D s=true from hd,Bool.true_and,Bool.and_eq_true]
            refine ⟨?_,?_⟩
            · rw [Bool.or_eq_true]
              rcases hft with c | c
              · exact .inl (decide_eq_true c)
              · exact .inr (decide_eq_true c)
            · unfold QcR
              rcases hto with c | c | c
              · rw [decide_eq_true c]; rfl
              · rw [decide_eq_true c]; simp
              · rw [c]; simp
           obtain ⟨w,hw,how,ew⟩:=Qtx hv ho hfs
           obtain ⟨w',hw',-,ew'⟩:=Qtx hv1 ho hfs
           have eww:w'=w:=by rw [ew,ew']; rfl
           subst eww
           split at h
           · rename_i hb
             cases h
             have hk:=Qp6 (hb ▸ how)
             exact ⟨_,t_and (Qgr hw hw' hk) (Qgr hw' hw hk) rfl rfl,rfl,rfl⟩
           · rename_i hb
             cases h
             refine QqL hw hw' ?_
             by_cases hi:t=bInt
             · subst hi; exact .inl (QjL how)
             · exact .inr (QfZ hi hb how)
         · cases h
       · cases h
   · cases h
end
end Go.Proofs.YtemhncjjiomppaaGreatDoor
