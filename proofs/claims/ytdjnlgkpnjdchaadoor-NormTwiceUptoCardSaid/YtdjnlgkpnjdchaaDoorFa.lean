/- The layer norm: its words, the small functions. -/
import Derived.Test.YtdjnlgkpnjdchaaDoorTf
namespace Go.Proofs.YtdjnlgkpnjdchaaDoor
open Go.RowKit
set_option linter.unusedVariables false
set_option maxRecDepth 100000
def conT (k:Int) (l:List Tw):Tw:=.mk k ⟨#[]⟩ false [] l
def oneT:Tw:=.mk 2 ⟨#[]⟩ (zNeg 1) (digs 1000000000 (1:Int).natAbs) []
def aboveT (a b:Tw):Tw:=conT 9 [conT 5 [a,oneT],b]
def wholeB (D:List Dat) (S:List Srt) (t:Tw):Bool:=match sortT D S t with
 | .ok s=>decide (s=bInt)
 | .error _=>false
mutual
theorem sortT_err {D:List Dat} {S:List Srt}:∀ {t:Tw} {e:Int},sortT D S t=.error e→e≠0
 | .mk k n b d l,e,h=>by
  rw [sortT] at h
  split at h
  · cases h; decide
  split at h
  · cases h; decide
  split at h
  · cases h; decide
  split at h
  · unfold varS at h
    split at h
    · split at h
      · cases h
      · cases h; decide
    · cases h; decide
  · cases hl:sortL D S l with
    | error e'=>rw [hl] at h; cases h; exact sortL_err hl
    | ok m =>
     rw [hl] at h
     dsimp only at h
     unfold partS funS at h
     repeat' split at h
     all_goals first | (cases h; decide) | cases h
theorem sortL_err {D:List Dat} {S:List Srt}:∀ {l:List Tw} {e:Int},sortL D S l=.error e→e≠0
 | [],e,h=>by cases h
 | t::l,e,h=>by
  simp only [sortL] at h
  cases ht:sortT D S t with
  | error e'=>rw [ht] at h; cases h; exact sortT_err ht
  | ok s =>
   rw [ht] at h
   cases hl:sortL D S l with
   | error e'=>rw [hl] at h; cases h; exact sortL_err hl
   | ok m=>rw [hl] at h; cases h
end
def kidT (t:Tw) (i:Nat):Tw:=t.kids.getD i Sh.tm.nil
def forP (D:List Dat) (S:List Srt) (t:Tw):PV:=.agg (wrapF (.dt .dat D::.dt .srt S::tmC t))
def forOf:PV→Option (List Dat × List Srt × Tw)
 | .agg l=>match leafs l with
  | some (x::y::m)=>match dtOf .dat x,dtOf .srt y,toTm m with
   | some D,some S,some t=>some (D,S,t)
   | _,_,_=>none
  | _=>none
 | _=>none
theorem leaf_sub {l:List PV} {m M:List Lf} (hm:leafs l=some m) (hs:SubL m M):SubB (.agg l) (.agg (wrapF M)):=by
 obtain ⟨h1,h2⟩:=leafs_at hm
 refine ⟨fun H B v hv=>?_⟩
 obtain ⟨vs,rfl,h3⟩:=PRs.of_agg hv
 refine PRs.agg ⟨by rw [h3.1,← h1,wrapF_len,hs.len],fun i u y hu hy=>?_⟩
 rw [wrapF_at] at hy
 cases hc:M[i]? with
 | none=>rw [hc] at hy; cases hy
 | some z =>
  rw [hc] at hy
  cases hy
  obtain ⟨x,h4,h5⟩:=hs.at hc
  exact .f (h5 _ _ (h3.2 i u _ hu (h2 i x h4)).rd)
theorem for_sub {x:PV} {D:List Dat} {S:List Srt} {t:Tw} (h:forOf x=some (D,S,t)):SubB x (forP D S t):=by
 unfold forOf at h
 split at h
 · split at h
   · rename_i hm
     split at h
     · rename_i h1 h2 h3
       cases h
       exact leaf_sub hm (.cons (dtOf_rd h1) (.cons (dtOf_rd h2) (toTm_sub h3)))
     · cases h
   · cases h
 · cases h
def soP (D:List Dat) (S:List Srt):PV:=.agg [.f (.dt .dat D),.f (.dt .srt S)]
def sWhole:Spec
 | [.agg [.f x,.f y],z]=>match dtOf .dat x,dtOf .srt y,tmOf z with
  | some D,some S,some t=>some (some t.fitT,.nm Bool (wholeB D S t) bV)
  | _,_,_=>none
 | _=>none
theorem so_sub {x y:Lf} {D:List Dat} {S:List Srt} (h1:dtOf .dat x=some D) (h2:dtOf .srt y=some S):SubB (.agg [.f x,.f y]) (soP D S) :=
 leaf_sub (l:=[.f x,.f y]) (m:=[x,y]) (M:=[.dt .dat D,.dt .srt S]) rfl (.cons (dtOf_rd h1) (.cons (dtOf_rd h2) .nil))
theorem cWhole {E:Env} (hU:Up E):Contract Tryd.prog E 100 sWhole:=by
 refine contract_D [(49,sSort)] [] Tryd.ntmps100 Tryd.func100 (by kernel_rfl) (by kernel_rfl) hU ⟨cSort hU,trivial⟩ trivial ?_
 intro xs p r hs hp
 unfold sWhole at hs
 split at hs
 · rename_i x y z
   split at hs
   · rename_i D S t h1 h2 h3
     cases hs
     have hf:=hp _ rfl
     refine ⟨[soP D S,tmP t],[],.cons (so_sub h1 h2).sub (.cons (tm_sub h3).sub .nil),rfl,fun _ hsh=>?_⟩
     refine cast_rfl (p:=(Tw.mk t.kind t.name t.neg t.digits t.kids).fitT∧∀ (z1:Except Int ByteArray),z1=sortT D S (Tw.mk t.kind t.name t.neg t.digits t.kids)→ifB (errE z1==(0:Int)) (true=true∧Sub (bV ((valE (ByteArray.mk #[]) z1).toList==(ByteArray.mk #[(105:UInt8),(110:UInt8),(116:UInt8)]).toList)) (bV (wholeB D S t))) (true=true∧Sub (bV false) (bV (wholeB D S t)))) ?kr ?_
     case kr=>kernel_rfl
     refine ⟨?s0,fun z1=>fun hz1=>ifB_iff.2 ⟨fun hb0=>⟨rfl,?m0⟩,fun hb0=>⟨rfl,?m1⟩⟩⟩
     all_goals try rw [Tw.eta] at *
     all_goals try simp only [bs_l,beq_iff_eq,beq_eq_false_iff_ne,ne_eq] at *
     case s0=>exact hf
     case m0 =>
      refine (subB_b ?_).sub
      unfold wholeB
      rw [← hz1]
      obtain e | s:=z1
      · exact absurd hb0 (sortT_err hz1.symm)
      · rfl
     case m1 =>
      refine (subB_b ?_).sub
      unfold wholeB
      rw [← hz1]
      obtain e | s:=z1
      · rfl
      · exact absurd rfl hb0
   · cases hs
 · cases hs
def sKid:Spec
 | [x,.f (.v (.int .i64 k))]=>match forOf x with
  | some (D,S,t)=>some (some (0≤k∧k<t.kids.length),.one (forP D S (kidT t k.toNat)))
  | none=>none
 | _=>none
theorem cKid {E:Env} (hU:Up E):Contract Tryd.prog E 98 sKid:=by
 refine contract_D [] [] Tryd.ntmps98 Tryd.func98 (by kernel_rfl) (by kernel_rfl) hU trivial trivial ?_
 intro xs p r hs hp
 unfold sKid at hs
 split at hs
 · rename_i x k
   split at hs
   · rename_i D S t h1
     cases hs
     have hk:=hp _ rfl
     refine ⟨[forP D S t,.f (.v (.int .i64 k))],[],.cons (for_sub h1).sub (.cons (.refl _) .nil),rfl,fun _ hsh=>?_⟩
     refine cast_rfl (p:=((0:Int)≤k∧k<(↑t.kids.length:Int))∧true=true∧Sub (PV.agg ([PV.f (Lf.dt Sh.dat D),PV.f (Lf.dt Sh.srt S)]++wrapF (tmC (t.kids.getD k.toNat Sh.tm.nil)))) (PV.agg ([PV.f (Lf.dt Sh.dat D),PV.f (Lf.dt Sh.srt S)]++wrapF (tmC (kidT t k.toNat))))) ?kr ?_
     case kr=>kernel_rfl
     refine ⟨?s0,⟨rfl,?m0⟩⟩
     case s0=>exact hk
     case m0=>exact .refl _
   · cases hs
 · cases hs
def sConT:Spec
 | [.f (.v (.int .u8 k)),.f x]=>match dtOf .tm x with
  | some l=>some (none,.nm Tw (conT k l) tmP)
  | none=>none
 | _=>none
theorem dt_sub {s:Sh} {x:Lf} {l:List s.T} (h:dtOf s x=some l):SubB (.f x) (.f (.dt s l)):=⟨fun H B v hv=>.f (dtOf_rd h _ _ hv.rd)⟩
theorem cConT {E:Env} (hU:Up E):Contract Tryd.prog E 102 sConT:=by
 refine contract_D [] [] Tryd.ntmps102 Tryd.func102 (by kernel_rfl) (by kernel_rfl) hU trivial trivial ?_
 intro xs p r hs hp
 unfold sConT at hs
 split at hs
 · rename_i k x
   split at hs
   · rename_i l h1
     cases hs
     refine ⟨[.f (.v (.int .u8 k)),.f (.dt .tm l)],[],.cons (.refl _) (.cons (dt_sub h1).sub .nil),rfl,fun _ hsh=>?_⟩
     refine cast_rfl (p:=true=true∧Sub (PV.agg [PV.f (Lf.v (Value.int IntKind.u8 k)),sV (ByteArray.mk #[]),bV false,PV.f (Lf.v (Value.slice none 0 0)),PV.f (Lf.dt Sh.tm l)]) (PV.agg [PV.f (Lf.v (Value.int IntKind.u8 (conT k l).kind)),sV ((conT k l).name),bV ((conT k l).neg),PV.f (Lf.lr (conT k l).digits 0),PV.f (Lf.dt Sh.tm (conT k l).kids)])) ?kr ?_
     case kr=>kernel_rfl
     refine ⟨rfl,?m0⟩
     case m0=>exact (tm_sub (t:=conT k l) rfl).sub
   · cases hs
 · cases hs
def sAnd (k:Int):Spec
 | [.f x]=>match dtOf .tm x with
  | some l=>some (none,.nm Tw (conT k l) tmP)
  | none=>none
 | _=>none
theorem cAnd {E:Env} (hU:Up E):Contract Tryd.prog E 104 (sAnd 11):=by
 refine contract_D [(102,sConT)] [] Tryd.ntmps104 Tryd.func104 (by kernel_rfl) (by kernel_rfl) hU ⟨cConT hU,trivial⟩ trivial ?_
 intro xs p r hs hp
 unfold sAnd at hs
 split at hs
 · rename_i x
   split at hs
   · rename_i l h1
     cases hs
     refine ⟨[.f (.dt .tm l)],[],.cons (dt_sub h1).sub .nil,rfl,fun _ hsh=>?_⟩
     refine cast_rfl (p:=∀ (z1:Tw),z1=conT (11:Int) l→true=true∧Sub (PV.agg (wrapF (tmC z1))) (PV.agg [PV.f (Lf.v (Value.int IntKind.u8 (conT (11:Int) l).kind)),sV ((conT (11:Int) l).name),bV ((conT (11:Int) l).neg),PV.f (Lf.lr (conT (11:Int) l).digits 0),PV.f (Lf.dt Sh.tm (conT (11:Int) l).kids)])) ?kr ?_
     case kr=>kernel_rfl
     refine fun z1=>fun hz1=>⟨rfl,?m0⟩
     case m0=>subst hz1; exact .refl _
   · cases hs
 · cases hs
theorem cOr {E:Env} (hU:Up E):Contract Tryd.prog E 105 (sAnd 12):=by
 refine contract_D [(102,sConT)] [] Tryd.ntmps105 Tryd.func105 (by kernel_rfl) (by kernel_rfl) hU ⟨cConT hU,trivial⟩ trivial ?_
 intro xs p r hs hp
 unfold sAnd at hs
 split at hs
 · rename_i x
   split at hs
   · rename_i l h1
     cases hs
     refine ⟨[.f (.dt .tm l)],[],.cons (dt_sub h1).sub .nil,rfl,fun _ hsh=>?_⟩
     refine cast_rfl (p:=∀ (z1:Tw),z1=conT (12:Int) l→true=true∧Sub (PV.agg (wrapF (tmC z1))) (PV.agg [PV.f (Lf.v (Value.int IntKind.u8 (conT (12:Int) l).kind)),sV ((conT (12:Int) l).name),bV ((conT (12:Int) l).neg),PV.f (Lf.lr (conT (12:Int) l).digits 0),PV.f (Lf.dt Sh.tm (conT (12:Int) l).kids)])) ?kr ?_
     case kr=>kernel_rfl
     refine fun z1=>fun hz1=>⟨rfl,?m0⟩
     case m0=>subst hz1; exact .refl _
   · cases hs
 · cases hs
def sAbove:Spec
 | [x,y]=>match tmOf x,tmOf y with
  | some t,some u=>some (none,.nm Tw (aboveT t u) tmP)
  | _,_=>none
 | _=>none
theorem cAbove {E:Env} (hU:Up E):Contract Tryd.prog E 144 sAbove:=by
 refine contract_D [(102,sConT),(45,sOf)] [] Tryd.ntmps144 Tryd.func144 (by kernel_rfl) (by kernel_rfl) hU ⟨cConT hU,cOf hU,trivial⟩ trivial ?_
 intro xs p r hs hp
 unfold sAbove at hs
 split at hs
 · rename_i x y
   split at hs
   · rename_i t u h1 h2
     cases hs
     refine ⟨[tmP t,tmP u],[],.cons (tm_sub h1).sub (.cons (tm_sub h2).sub .nil),rfl,fun _ hsh=>?_⟩
     refine cast_rfl (p:=((-9223372036854775808:Int)≤(1:Int)∧(1:Int)≤(9223372036854775807:Int))∧∀ (z1:Int),z1=(1:Int)→∀ (z2:Tw),z2=conT (5:Int) [Tw.mk t.kind t.name t.neg t.digits t.kids,Tw.mk (2:Int) (ByteArray.mk #[]) (zNeg z1) (digs 1000000000 z1.natAbs) []]→∀ (z3:Tw),z3=conT (9:Int) [Tw.mk z2.kind z2.name z2.neg z2.digits z2.kids,Tw.mk u.kind u.name u.neg u.digits u.kids]→true=true∧Sub (PV.agg (wrapF (tmC z3))) (PV.agg [PV.f (Lf.v (Value.int IntKind.u8 (aboveT t u).kind)),sV ((aboveT t u).name),bV ((aboveT t u).neg),PV.f (Lf.lr (aboveT t u).digits 0),PV.f (Lf.dt Sh.tm [Tw.mk (5:Int) (ByteArray.mk #[]) false [] [t,Tw.mk (2:Int) (ByteArray.mk #[]) (zNeg (1:Int)) (digs 1000000000 (Int.natAbs (1:Int))) []],u])])) ?kr ?_
     case kr=>kernel_rfl
     refine ⟨?s0,fun z1=>fun hz1=>fun z2=>fun hz2=>fun z3=>fun hz3=>⟨rfl,?m0⟩⟩
     case s0=>omega
     all_goals simp only [Tw.eta] at *
     case m0 =>
      show Sub (tmP z3) (tmP (aboveT t u))
      rw [hz3,hz2,hz1]; exact .refl _
   · cases hs
 · cases hs
theorem short_is {k:IntKind} {l:List Int} (h:shortP (.f (.is k l))):l.length≤9223372036854775807:=by
 have h':l.length≤maxLen:=h.1
 unfold maxLen at h'
 omega
def sumC (l:List Int):Int:=l.foldl (fun n k=>min (n+k) 20001) 0
theorem sumC_snoc (l:List Int) {i:Nat} (h:i<l.length):sumC (l.take (i+1))=min (sumC (l.take i)+l.getD i 0) 20001:=by
 unfold sumC
 rw [List.take_add_one,List.getElem?_eq_getElem h,List.foldl_append,List.getD_eq_getElem?_getD,List.getElem?_eq_getElem h]; rfl
theorem sumC_bnd {l:List Int} (h:∀ k∈l,0≤k∧k≤4611686018427387904):∀ i,0≤sumC (l.take i)∧sumC (l.take i)≤20001
 | 0=>by simp [sumC]
 | i+1=>by
  have ih:=sumC_bnd h i
  by_cases hi:i<l.length
  · have h1:=sumC_snoc l hi
    have h2:=h (l.getD i 0) (by rw [List.getD_eq_getElem?_getD,List.getElem?_eq_getElem hi]; exact List.getElem_mem hi)
    omega
  · rw [List.take_of_length_le (by omega)] at ih ⊢
    exact ih
def isOf:Lf→Option (List Int)
 | .is .i64 l=>some l
 | .row 1 M=>intsOf .i64 M
 | _=>none
theorem isOf_sub {x:Lf} {l:List Int} (h:isOf x=some l):SubB (.f x) (.f (.is .i64 l)):=by
 unfold isOf at h
 split at h
 · cases h; exact .refl _
 · rename_i M
   obtain ⟨h1,h2⟩:=intsOf_at h
   exact ⟨fun H B v hv=>.f (rd_view (f:=.row 1 M) (f':=.is .i64 l) (k:=1) (n:=M.length) (get:=fun i=>M.getD i []) rfl (by rw [Lf.view,h1]) trivial (Nat.le_refl _) (fun i hi=>(h2 i hi).symm) hv.rd)⟩
 · cases h
def sumOk (l:List Int):Prop:=∀ k∈l,0≤k∧k≤4611686018427387904
def sSum:Spec
 | [.f x]=>match isOf x with
  | some l=>some (some (sumOk l),.nm Int (sumC l) iV)
  | none=>none
 | _=>none
theorem cSum {E:Env} (hU:Up E):Contract Tryd.prog E 99 sSum:=by
 refine contract_D [] [] Tryd.ntmps99 Tryd.func99 (by kernel_rfl) (by kernel_rfl) hU trivial trivial ?_
 intro xs p r hs hp
 unfold sSum at hs
 split at hs
 · rename_i x
   split at hs
   · rename_i l hx
     cases hs
     have hl:sumOk l:=hp _ rfl
     refine ⟨[.f (.is .i64 l)],[(3,.s ⟨Nat,fun i=>⟨[(3,iV (sumC (l.take i))),(6,.f (.is .i64 l)),(7,iV l.length),(8,iV i)],[]⟩,fun i=>i≤l.length,fun i=>l.length - i⟩)],.cons (isOf_sub hx).sub .nil,rfl,fun _ hsh=>?_⟩
     have hlen:=short_is hsh.1
     refine cast_rfl (p:=∃ (x1:Nat),(True∧SubB (iV 0) (iV (sumC (List.take x1 l)))∧SubB (PV.f (Lf.is IntKind.i64 l)) (PV.f (Lf.is IntKind.i64 l))∧SubB (iV (↑l.length:Int)) (iV (↑l.length:Int))∧SubB (iV 0) (iV (↑x1:Int))∧True)∧x1≤l.length∧True∧∀ (z2:Nat),z2≤l.length→True→ifB (decide ((↑z2:Int)<(↑l.length:Int))) (((0:Int)≤(↑z2:Int)∧(↑z2:Int)<(↑l.length:Int))∧∃ (x3:Nat),(True∧SubB (iV (min (IntKind.i64.wrap (sumC (List.take z2 l)+l.getD (↑z2:Int).toNat (0:Int))) (20001:Int))) (iV (sumC (List.take x3 l)))∧SubB (PV.f (Lf.is IntKind.i64 l)) (PV.f (Lf.is IntKind.i64 l))∧SubB (iV (↑l.length:Int)) (iV (↑l.length:Int))∧SubB (iV (IntKind.i64.wrap ((↑z2:Int)+(1:Int)))) (iV (↑x3:Int))∧True)∧x3≤l.length∧True∧(l.length - x3).succ.le (l.length - z2)) (true=true∧Sub (iV (sumC (List.take z2 l))) (iV (sumC l)))) ?kr ?_
     case kr=>kernel_rfl
     refine ⟨?x0,⟨⟨trivial,⟨?m0,⟨.refl _,⟨.refl _,⟨?m1,trivial⟩⟩⟩⟩⟩,⟨?s0,⟨trivial,fun z2=>fun hq0=>fun _=>ifB_iff.2 ⟨fun hb1=>⟨?s1,⟨?x1,⟨⟨trivial,⟨?m2,⟨.refl _,⟨.refl _,⟨?m3,trivial⟩⟩⟩⟩⟩,⟨?s2,⟨trivial,?m4⟩⟩⟩⟩⟩,fun hb1=>⟨rfl,?m5⟩⟩⟩⟩⟩⟩
     case x0=>exact 0
     case x1=>exact z2+1
     all_goals try simp only [decide_eq_true_eq,decide_eq_false_iff_not,Int.toNat_natCast] at *
     case m0=>exact .refl _
     case m1=>exact .refl _
     case s0=>exact Nat.zero_le _
     case m5 =>
      rw [List.take_of_length_le (by omega)]
      exact .refl _
     all_goals have hz:z2<l.length:=by omega
     case s1=>omega
     case m2 =>
      have h1:=sumC_bnd hl z2
      have h2:=hl (l.getD z2 0) (by rw [List.getD_eq_getElem?_getD,List.getElem?_eq_getElem hz]; exact List.getElem_mem hz)
      exact subB_i (by rw [wJ _ (by omega) (by omega),sumC_snoc l hz])
     case m3=>exact subB_i (by rw [wJ _ (by omega) (by omega)]; rfl)
     case s2=>omega
     case m4 =>
      have:l.length - (z2+1)<l.length - z2:=by omega
      exact this
   · cases hs
 · cases hs
def sClone:Spec
 | [.f (.lr d m)]=>some (some (d.length≤40000000),.one (.f (.lr d d.length)))
 | _=>none
theorem noNil {P:Program} {E:Env}:Contract2 P E nilKey (fun _ _=>none):=fun _ _ _ h=>by cases h
theorem is_lr {d:List Nat} (h:∀ x∈d,x<4294967296):SubB (.f (.is .u32 ([]++d.map Int.ofNat))) (.f (.lr d d.length)):=⟨fun H B v hv=>.f (rd_view (f:=.is .u32 ([]++d.map Int.ofNat)) (k:=1) (n:=d.length) (get:=fun i=>[.v (.int .u32 (([]++d.map Int.ofNat).getD i 0))]) (by rw [Lf.view,List.nil_append,List.length_map]) rfl ⟨Nat.le_refl _,h⟩ (Nat.le_refl _) (fun i hi=>by
  have hi:i<d.length:=hi
  rw [List.nil_append,List.getD_eq_getElem?_getD,List.getD_eq_getElem?_getD,List.getElem?_map,List.getElem?_eq_getElem hi]; rfl) hv.rd)⟩
theorem cClone {E:Env} (hU:Up E):Contract Tryd.prog E 101 sClone:=by
 refine contract_D [] [(nilKey,fun _ _=>none)] Tryd.ntmps101 Tryd.func101 (by kernel_rfl) (by kernel_rfl) hU trivial ⟨noNil,trivial⟩ ?_
 intro xs p r hs hp
 unfold sClone at hs
 split at hs
 · rename_i d m
   cases hs
   have hd:=hp _ rfl
   refine ⟨[.f (.lr d m)],[],.cons (.refl _) .nil,rfl,fun hg hsh=>?_⟩
   have hgd:∀ x∈d,x<4294967296:=hg.1.1.2
   refine cast_rfl (p:=(d.length=0→true=true∧Sub (PV.f (Lf.v (Value.slice none 0 0))) (PV.f (Lf.lr d d.length)))∧(0+d.length≤9223372036854775807∧(0+d.length) * 4≤140737488355328)∧true=true∧Sub (PV.f (Lf.is IntKind.u32 ([]++List.map Int.ofNat d))) (PV.f (Lf.lr d d.length))) ?kr ?_
   case kr=>kernel_rfl
   refine ⟨fun hq0=>⟨rfl,?m0⟩,⟨?s0,⟨rfl,?m1⟩⟩⟩
   case m0 =>
    obtain rfl:d=[]:=List.length_eq_zero_iff.1 hq0
    exact ⟨fun H v hv=>.f (hv.rd.val rfl ▸ nil_rd (k:=1) rfl ⟨Nat.le_refl _,fun x hx=>by cases hx⟩)⟩
   case s0=>omega
   case m1=>exact (is_lr hgd).sub
 · cases hs
end Go.Proofs.YtdjnlgkpnjdchaaDoor
