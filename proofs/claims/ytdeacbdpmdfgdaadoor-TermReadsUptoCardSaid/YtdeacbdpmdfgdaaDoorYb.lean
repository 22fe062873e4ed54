/- The reader of terms, of any text: what it takes of a text, in plain words. -/
import Derived.Test.YtdeacbdpmdfgdaaDoorYa
import Derived.Test.YtdeacbdpmdfgdaaDoorKv
namespace Go.Proofs.YtdeacbdpmdfgdaaDoor
open Go.RowKit
set_option linter.unusedVariables false
set_option maxRecDepth 100000
def hA (s:List UInt8):List UInt8 × List UInt8:=(cutB 32 s).getD ([],[])
def hB (s:List UInt8):List UInt8 × List UInt8:=(cutB 58 (hA s).2).getD ([],[])
def hK (s:List UInt8):Nat:=(numW 255 (hA s).1).getD 0
def hN (s:List UInt8):Nat:=(numW 2147483647 (hB s).1).getD 0
def hR (s:List UInt8):List UInt8:=(hB s).2.drop (hN s+1)
def hC (s:List UInt8):List UInt8 × List UInt8:=(cutB 32 (hR s)).getD ([],[])
def hD (s:List UInt8):List UInt8:=(negW (hC s).1).2
def hL (s:List UInt8):List Nat:=(limbW (hD s).length (hD s)).getD []
def hE (s:List UInt8):List UInt8 × List UInt8:=(cutB 59 (hC s).2).getD ([],[])
def hM (s:List UInt8):Nat:=(numW 2147483647 (hE s).1).getD 0
structure HdOk (s:List UInt8):Prop where
 a:(cutB 32 s).isSome=true
 b:(cutB 58 (hA s).2).isSome=true
 k:(numW 255 (hA s).1).isSome=true
 n:(numW 2147483647 (hB s).1).isSome=true
 r:hN s<(hB s).2.length∧(hB s).2.getD (hN s) 0=32
 c:(cutB 32 (hR s)).isSome=true
 l:(limbW (hD s).length (hD s)).isSome=true
 e:(cutB 59 (hC s).2).isSome=true
 m:(numW 2147483647 (hE s).1).isSome=true
theorem some_get {α:Type} {o:Option α} (d:α) (h:o.isSome=true):o=some (o.getD d):=by
 cases o with
 | none=>cases h
 | some x=>rfl
def headTw (s:List UInt8) (l:List Tw):Tw:=.mk (hK s) ⟨⟨(hB s).2.take (hN s)⟩⟩ (negW (hC s).1).1 (hL s) l
theorem readT_ok {f:Nat} {s:List UInt8} (h:HdOk s):readT (f+1) s=match readL f (hM s) (hE s).2 with
  | some (l,r)=>some (headTw s l,r)
  | none=>none:=by
 have e1:cutB 32 s=some (hA s):=some_get _ h.a
 have e2:cutB 58 (hA s).2=some (hB s):=some_get _ h.b
 have e3:numW 255 (hA s).1=some (hK s):=some_get _ h.k
 have e4:numW 2147483647 (hB s).1=some (hN s):=some_get _ h.n
 have e5:cutB 32 ((hB s).2.drop (hN s+1))=some (hC s):=some_get _ h.c
 have e6:limbW (negW (hC s).1).2.length (negW (hC s).1).2=some (hL s):=some_get _ h.l
 have e7:cutB 59 (hC s).2=some (hE s):=some_get _ h.e
 have e8:numW 2147483647 (hE s).1=some (hM s):=some_get _ h.m
 rw [readT,e1]
 dsimp only
 rw [e2]
 dsimp only
 rw [e3,e4]
 dsimp only
 rw [if_pos h.r,e5]
 dsimp only
 rw [e6,e7]
 dsimp only
 rw [e8]
 rfl
theorem readT_no {f:Nat} {s:List UInt8} (h:¬ HdOk s):readT (f+1) s=none:=by
 cases hr:readT (f+1) s with
 | none=>rfl
 | some x =>
  refine absurd ?_ h
  rw [readT] at hr
  split at hr
  · cases hr
  rename_i kd r1 e1
  have q1:hA s=(kd,r1):=by unfold hA; rw [e1]; rfl
  split at hr
  · cases hr
  rename_i lg r2 e2
  have q2:hB s=(lg,r2):=by unfold hB; rw [q1,e2]; rfl
  split at hr
  · rename_i k n e3 e4
    have q4:hN s=n:=by unfold hN; rw [q2,e4]; rfl
    split at hr
    · rename_i hc
      split at hr
      · cases hr
      rename_i dg r4 e5
      have q5:hR s=r2.drop (n+1):=by unfold hR; rw [q2,q4]
      have q6:hC s=(dg,r4):=by unfold hC; rw [q5,e5]; rfl
      split at hr
      · rename_i ds mn r5 e6 e7
        have q7:hE s=(mn,r5):=by unfold hE; rw [q6,e7]; rfl
        have q8:hD s=(negW dg).2:=by unfold hD; rw [q6]
        split at hr
        · rename_i m e8
          refine ⟨by rw [e1]; rfl,by rw [q1,e2]; rfl,by rw [q1,e3]; rfl,by rw [q2,e4]; rfl,by rw [q2,q4]; exact hc,by rw [q5,e5]; rfl,by rw [q8,e6]; rfl,by rw [q6,e7]; rfl,by rw [q7,e8]; rfl⟩
        · cases hr
      · cases hr
    · cases hr
  · cases hr
theorem head_len {s:List UInt8} (h:HdOk s):(hE s).2.length+4≤s.length:=by
 obtain ⟨e1,-⟩:=cut_len (some_get ([],[]) h.a)
 obtain ⟨e2,-⟩:=cut_len (some_get ([],[]) h.b)
 obtain ⟨e5,-⟩:=cut_len (some_get ([],[]) h.c)
 obtain ⟨e7,-⟩:=cut_len (some_get ([],[]) h.e)
 have l1:=congrArg List.length e1
 have l2:=congrArg List.length e2
 have l5:=congrArg List.length e5
 have l7:=congrArg List.length e7
 have l3:(hR s).length=(hB s).2.length - (hN s+1):=List.length_drop ..
 simp only [List.length_append,List.length_cons] at l1 l2 l5 l7
 change s.length=(hA s).1.length+((hA s).2.length+1) at l1
 change (hA s).2.length=(hB s).1.length+((hB s).2.length+1) at l2
 change (hR s).length=(hC s).1.length+((hC s).2.length+1) at l5
 change (hC s).2.length=(hE s).1.length+((hE s).2.length+1) at l7
 omega
mutual
theorem readT_len:∀ {f:Nat} {s r:List UInt8} {t:Tw},readT f s=some (t,r)→r.length<s.length
 | 0,s,r,t,h=>by rw [readT] at h; cases h
 | f+1,s,r,t,h=>by
  by_cases hh:HdOk s
  · rw [readT_ok hh] at h
    have h1:=head_len hh
    split at h
    · rename_i l r' hl
      cases h
      have:=readL_len hl
      omega
    · cases h
  · rw [readT_no hh] at h; cases h
theorem readL_len:∀ {f m:Nat} {s r:List UInt8} {l:List Tw},readL f m s=some (l,r)→r.length≤s.length
 | f,0,s,r,l,h=>by
  cases f <;> (rw [readL] at h; cases h; exact Nat.le_refl _)
 | 0,m+1,s,r,l,h=>by rw [readL] at h; cases h
 | f+1,m+1,s,r,l,h=>by
  rw [readL] at h
  split at h
  · cases h
  · rename_i t r1 h1
    split at h
    · cases h
    · rename_i l' r' h2
      cases h
      have:=readT_len h1
      have:=readL_len h2
      omega
end
theorem readL_zero (f:Nat) (s:List UInt8):readL f 0 s=some ([],s):=by cases f <;> rw [readL]
def FuelAt (N:Nat):Prop:=(∀ (s:List UInt8) (f f':Nat),s.length≤N→s.length<f→s.length<f'→readT f s=readT f' s)∧(∀ (m:Nat) (s:List UInt8) (f f':Nat),s.length≤N→s.length+1<f→s.length+1<f'→readL f m s=readL f' m s)
theorem fuel_at (N:Nat) (ih0:∀ M,N=M+1→FuelAt M):FuelAt N:=by
  have hT:∀ (s:List UInt8) (f f':Nat),s.length≤N→s.length<f→s.length<f'→readT f s=readT f' s:=by
   intro s f f' hN hf hf'
   obtain ⟨g,rfl⟩:∃ g,f=g+1:=⟨f - 1,by omega⟩
   obtain ⟨g',rfl⟩:∃ g',f'=g'+1:=⟨f' - 1,by omega⟩
   by_cases hh:HdOk s
   · have h1:=head_len hh
     rw [readT_ok hh,readT_ok hh,(ih0 (N - 1) (by omega)).2 (hM s) (hE s).2 g g' (by omega) (by omega) (by omega)]
   · rw [readT_no hh,readT_no hh]
  refine ⟨hT,fun m=>?_⟩
  induction m with
  | zero=>intro s f f' _ _ _; rw [readL_zero,readL_zero]
  | succ m ih =>
   intro s f f' hN hf hf'
   obtain ⟨g,rfl⟩:∃ g,f=g+1:=⟨f - 1,by omega⟩
   obtain ⟨g',rfl⟩:∃ g',f'=g'+1:=⟨f' - 1,by omega⟩
   rw [readL,readL,hT s g g' hN (by omega) (by omega)]
   cases hr:readT g' s with
   | none=>rfl
   | some p =>
    obtain ⟨t,r⟩:=p
    have h1:=readT_len hr
    dsimp only
    rw [ih r g g' (by omega) (by omega) (by omega)]
theorem fuels:∀ N,FuelAt N
 | 0=>fuel_at 0 fun M h=>by cases h
 | N+1=>fuel_at (N+1) fun M h=>by cases h; exact fuels N
def rdO (s:List UInt8):Option (Tw × List UInt8):=readT (s.length+1) s
def rdL (m:Nat) (s:List UInt8):Option (List Tw × List UInt8):=readL (s.length+2) m s
theorem rdO_ok {s:List UInt8} (h:HdOk s):rdO s=match rdL (hM s) (hE s).2 with
  | some (l,r)=>some (headTw s l,r)
  | none=>none:=by
 have h1:=head_len h
 rw [rdO,readT_ok h,rdL,(fuels s.length).2 (hM s) (hE s).2 s.length ((hE s).2.length+2) (by omega) (by omega) (by omega)]
theorem rdO_no {s:List UInt8} (h:¬ HdOk s):rdO s=none:=readT_no h
theorem rdL_zero (s:List UInt8):rdL 0 s=some ([],s):=readL_zero _ _
theorem rdL_succ (m:Nat) (s:List UInt8):rdL (m+1) s=match rdO s with
  | none=>none
  | some (t,r)=>match rdL m r with
   | none=>none
   | some (l,r')=>some (t::l,r'):=by
 rw [rdL,readL,rdO]
 cases hr:readT (s.length+1) s with
 | none=>rfl
 | some p =>
  obtain ⟨t,r⟩:=p
  have h1:=readT_len hr
  dsimp only
  rw [rdL,(fuels r.length).2 m r (s.length+1) (r.length+2) (Nat.le_refl _) (by omega) (by omega)]
  rfl
theorem limb_fuel:∀ (N:Nat) (l:List UInt8) (f f':Nat),l.length≤N→l.length≤f→l.length≤f'→limbW f l=limbW f' l
 | N,[],f,f',_,_,_=>by
  have h:∀ f,limbW f []=some []:=fun f=>by cases f <;> rw [limbW]
  rw [h,h]
 | 0,x::l,f,f',h,_,_=>by simp at h
 | N+1,x::l,f,f',h,hf,hf'=>by
  rw [List.length_cons] at h hf hf'
  obtain ⟨g,rfl⟩:∃ g,f=g+1:=⟨f - 1,by omega⟩
  obtain ⟨g',rfl⟩:∃ g',f'=g'+1:=⟨f' - 1,by omega⟩
  rw [limbW,limbW]
  cases hc:cutB 46 (x::l) with
  | none=>rfl
  | some p =>
   obtain ⟨d,r⟩:=p
   obtain ⟨e,-⟩:=cut_len hc
   have e1:=congrArg List.length e
   rw [List.length_cons,List.length_append,List.length_cons] at e1
   dsimp only
   rw [limb_fuel N r g g' (by omega) (by omega) (by omega)]
def limbO (l:List UInt8):Option (List Nat):=limbW l.length l
theorem limbO_nil:limbO []=some []:=rfl
theorem limbO_cut {l:List UInt8} (h:¬ l=[]):limbO l=match cutB 46 l with
  | none=>none
  | some (d,r)=>match numW 4294967295 d,limbO r with
   | some n,some k=>some (n::k)
   | _,_=>none:=by
 cases l with
 | nil=>exact absurd rfl h
 | cons x l =>
  rw [limbO,List.length_cons,limbW]
  cases hc:cutB 46 (x::l) with
  | none=>rfl
  | some p =>
   obtain ⟨d,r⟩:=p
   obtain ⟨e,-⟩:=cut_len hc
   have e1:=congrArg List.length e
   rw [List.length_cons,List.length_append,List.length_cons] at e1
   dsimp only
   rw [limbO,limb_fuel l.length r l.length r.length (by omega) (by omega) (Nat.le_refl _)]
   rfl
theorem num_le {m n:Nat} {l:List UInt8} (h:numW m l=some n):n≤m:=by
 unfold numW at h
 split at h
 · rename_i hc; cases h; exact hc.2
 · cases h
structure LimbAt (D:List UInt8) (ds:List Nat) (rem:List UInt8):Prop where
 eq:limbO D=match limbO rem with
  | some k=>some (ds++k)
  | none=>none
 len:rem.length+ds.length≤D.length
 lt:∀ x∈ds,x<4294967296
theorem limbAt_zero (D:List UInt8):LimbAt D [] D:=⟨by cases limbO D <;> rfl,by simp,fun x hx=>by cases hx⟩
theorem limbAt_no1 {D rem:List UInt8} {ds:List Nat} (h:LimbAt D ds rem) (h0:¬ rem=[]) (hc:cutB 46 rem=none):limbO D=none:=by
 rw [h.eq,limbO_cut h0,hc]
theorem limbAt_no2 {D rem:List UInt8} {ds:List Nat} (h:LimbAt D ds rem) (h0:¬ rem=[]) {p:List UInt8 × List UInt8} (hc:cutB 46 rem=some p) (hn:numW 4294967295 p.1=none):limbO D=none:=by
 rw [h.eq,limbO_cut h0,hc]
 obtain ⟨d,r⟩:=p
 dsimp only at hn ⊢
 rw [hn]
theorem limbAt_step {D rem:List UInt8} {ds:List Nat} (h:LimbAt D ds rem) (h0:¬ rem=[]) {p:List UInt8 × List UInt8} {n:Nat} (hc:cutB 46 rem=some p) (hn:numW 4294967295 p.1=some n):LimbAt D (ds++[n]) p.2∧p.2.length<rem.length:=by
 obtain ⟨d,r⟩:=p
 obtain ⟨e,-⟩:=cut_len hc
 have e1:=congrArg List.length e
 rw [List.length_append,List.length_cons] at e1
 have:=h.len
 refine ⟨⟨?_,by rw [List.length_append]; simp only [List.length_cons,List.length_nil]; omega,fun x hx=>?_⟩,by dsimp only; omega⟩
 · rw [h.eq,limbO_cut h0,hc]
   dsimp only at hn ⊢
   rw [hn]
   cases limbO r with
   | none=>rfl
   | some k=>simp
 · rcases List.mem_append.1 hx with hx | hx
   · exact h.lt x hx
   · cases List.mem_singleton.1 hx
     have:=num_le hn
     omega
theorem limbAt_end {D:List UInt8} {ds:List Nat} (h:LimbAt D ds []):limbO D=some ds:=by
 rw [h.eq,limbO_nil]; simp
structure KidAt (m:Nat) (R:List UInt8) (l:List Tw) (r:List UInt8):Prop where
 eq:rdL m R=match rdL (m - l.length) r with
  | some (k,q)=>some (l++k,q)
  | none=>none
 le:l.length≤m
 len:r.length+l.length≤R.length
theorem kidAt_zero (m:Nat) (R:List UInt8):KidAt m R [] R:=⟨by
 show rdL m R=match rdL m R with
  | some (k,q)=>some (([]:List Tw)++k,q)
  | none=>none
 cases rdL m R <;> rfl,Nat.zero_le _,by simp⟩
theorem kidAt_no {m:Nat} {R r:List UInt8} {l:List Tw} (h:KidAt m R l r) (hl:l.length<m) (hr:rdO r=none):rdL m R=none:=by
 rw [h.eq,show m - l.length=(m - l.length - 1)+1 by omega,rdL_succ,hr]
theorem kidAt_step {m:Nat} {R r:List UInt8} {l:List Tw} (h:KidAt m R l r) (hl:l.length<m) {p:Tw × List UInt8} (hr:rdO r=some p):KidAt m R (l++[p.1]) p.2∧p.2.length<r.length:=by
 obtain ⟨t,q⟩:=p
 have h1:=readT_len hr
 have h2:=h.len
 refine ⟨⟨?_,by simp only [List.length_append,List.length_cons,List.length_nil]; omega,by simp only [List.length_append,List.length_cons,List.length_nil]; omega⟩,h1⟩
 rw [h.eq,show m - l.length=(m - l.length - 1)+1 by omega,rdL_succ,hr]
 simp only [List.length_append,List.length_cons,List.length_nil]
 rw [show m - (l.length+(0+1))=m - l.length - 1 by omega]
 cases rdL (m - l.length - 1) q with
 | none=>rfl
 | some x=>simp
theorem kidAt_end {m:Nat} {R r:List UInt8} {l:List Tw} (h:KidAt m R l r) (hl:¬ l.length<m):rdL m R=some (l,r):=by
 rw [h.eq,show m - l.length=0 by omega,rdL_zero]; simp
end Go.Proofs.YtdeacbdpmdfgdaaDoor
