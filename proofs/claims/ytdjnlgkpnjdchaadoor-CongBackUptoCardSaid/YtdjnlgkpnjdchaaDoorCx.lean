/- A path of equalities: what it tells, turned round, one behind the other. -/
import Derived.Test.YtdjnlgkpnjdchaaDoorKx
namespace Go.Proofs.YtdjnlgkpnjdchaaDoor
open Go.RowKit
set_option linter.unusedVariables false
set_option maxRecDepth 100000
def edgeW (L:List Tw) (n:Int):Option (Tw × Tw) :=
 if 0≤n∧n<L.length then
  if (L.getD n.toNat Sh.tm.nil).kind=8∧(L.getD n.toNat Sh.tm.nil).kids.length=2 then some ((L.getD n.toNat Sh.tm.nil).kids.getD 0 Sh.tm.nil,(L.getD n.toNat Sh.tm.nil).kids.getD 1 Sh.tm.nil) else none
 else none
def alongW (L:List Tw) (k:ByteArray) (n:Int):Option ByteArray:=match edgeW L n with
 | none=>none
 | some (a,b)=>if k=keyS a then some (keyS b) else if k=keyS b then some (keyS a) else none
def walkW (L:List Tw):ByteArray→List Int→Option ByteArray
 | k,[]=>some k
 | k,n::l=>match alongW L k n with
  | none=>none
  | some k'=>walkW L k' l
def eqT (a b:Tw):Tw:=.mk 8 ⟨#[]⟩ false [] [a,b]
def sameW (L:List Tw) (a b:Tw) (at_:List Int):Except Int Tw:=match walkW L (keyS a) at_ with
 | some k=>if k=keyS b then .ok (eqT a b) else .error 31
 | none=>.error 31
theorem along_back {L:List Tw} {k k':ByteArray} {n:Int} (h:alongW L k n=some k'):alongW L k' n=some k:=by
 unfold alongW at h ⊢
 split at h
 · cases h
 · rename_i a b he
   split at h
   · rename_i hk
     cases h
     by_cases hab:keyS b=keyS a
     · rw [if_pos hab,hk,hab]
     · rw [if_neg hab,if_pos rfl,hk]
   · split at h
     · rename_i hk
       cases h
       rw [if_pos rfl,hk]
     · cases h
theorem walk_app {L:List Tw}:∀ {l m:List Int} {k:ByteArray},walkW L k (l++m)=match walkW L k l with
  | none=>none
  | some k'=>walkW L k' m
 | [],m,k=>rfl
 | n::l,m,k=>by
  simp only [List.cons_append,walkW]
  cases alongW L k n with
  | none=>rfl
  | some k'=>exact walk_app (l:=l)
theorem walk_back {L:List Tw}:∀ {l:List Int} {k k':ByteArray},walkW L k l=some k'→walkW L k' l.reverse=some k
 | [],k,k',h=>by
  simp only [walkW] at h
  cases h
  rfl
 | n::l,k,k',h=>by
  simp only [walkW] at h
  cases ha:alongW L k n with
  | none=>rw [ha] at h; cases h
  | some k1 =>
   rw [ha] at h
   rw [List.reverse_cons,walk_app,walk_back h]
   simp only [walkW,along_back ha]
theorem same_ok {L:List Tw} {a b x:Tw} {l:List Int} (h:sameW L a b l=.ok x):x=eqT a b∧walkW L (keyS a) l=some (keyS b):=by
 unfold sameW at h
 split at h
 · rename_i k hk
   split at h
   · rename_i hb
     cases h
     exact ⟨rfl,by rw [hk,hb]⟩
   · cases h
 · cases h
theorem same_no {L:List Tw} {a b:Tw} {l:List Int} {e:Int} (h:sameW L a b l=.error e):e=31:=by
 unfold sameW at h
 split at h
 · split at h
   · cases h
   · cases h; rfl
 · cases h; rfl
theorem same_of {L:List Tw} {a b:Tw} {l:List Int} (h:walkW L (keyS a) l=some (keyS b)):sameW L a b l=.ok (eqT a b):=by
 unfold sameW
 rw [h]
 exact if_pos rfl
theorem back_law {L:List Tw} {a b x:Tw} {l:List Int} (h:sameW L a b l=.ok x):sameW L b a l.reverse=.ok (eqT b a):=same_of (walk_back (same_ok h).2)
theorem edge_law {L:List Tw} {a b x:Tw} {l:List Int} (h:sameW L a b l=.ok x):sameW [x] a b [0]=.ok x:=by
 obtain ⟨rfl,-⟩:=same_ok h
 refine same_of ?_
 show (match alongW [eqT a b] (keyS a) 0 with | none=>none | some k'=>walkW [eqT a b] k' [])=_
 have:alongW [eqT a b] (keyS a) 0=some (keyS b):=by
  unfold alongW
  rw [show edgeW [eqT a b] 0=some (a,b) from rfl]
  exact if_pos rfl
 rw [this]
 rfl
theorem two_law {L:List Tw} {a b c x:Tw} {l m:List Int} (h:sameW L a b l=.ok x):errE (sameW L b c m)=errE (sameW L a c (l++m)):=by
 have hw:=(same_ok h).2
 unfold sameW
 rw [walk_app,hw]
 dsimp only
 cases walkW L (keyS b) m with
 | none=>rfl
 | some k=>dsimp only; by_cases hk:k=keyS c <;> simp [hk,errE]
end Go.Proofs.YtdjnlgkpnjdchaaDoor
