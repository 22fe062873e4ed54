/- The reader of terms: what stands ahead of a sign, a number, a name. -/
import Derived.Test.YtdeacbdpmdfgdaaDoorKr
import Derived.Test.YtdeacbdpmdfgdaaDoorKc
import Derived.Test.YtdeacbdpmdfgdaaDoorEz
import Derived.Test.YtdeacbdpmdfgdaaDoorText
import Derived.Test.YtdeacbdpmdfgdaaDoorKd
namespace Go.Proofs.YtdeacbdpmdfgdaaDoor
open Go.RowKit
set_option linter.unusedVariables false
set_option maxRecDepth 100000
def EM:Env:=fun K w H=>EZ K w H∧∃ m,H 0 0=some (.int .i64 m)
theorem EM.up:Up EM:=⟨fun c H w' H' he ⟨h,m,hm⟩=>⟨EZ.up.go c H w' H' he h,m,he.le _ _ _ hm⟩,fun K K' w H hs ⟨h,hm⟩=>⟨EZ.up.more K K' w H hs h,hm⟩⟩
theorem EM.tab:∀ K w H,EM K w H→Tab w:=fun K w H h=>EZ.tab K w H h.1
theorem EM.max:∀ K w H,EM K w H→∃ m,H 0 0=some (.int .i64 m):=fun _ _ _ h=>h.2
def bA (l:List UInt8):ByteArray:=⟨l.toArray⟩
def sCut:Spec
 | [.f (.v (.string s)),.f (.v (.string p))]=>some (some (s.size<4294967281),.one (.tup [sV (bA (Lib.cut s.data.toList p.data.toList).1),sV (bA (Lib.cut s.data.toList p.data.toList).2.1),bV (Lib.cut s.data.toList p.data.toList).2.2]))
 | _=>none
theorem ext_same {w w':World} {H:Hp} (hb:Below w.heap.size w w') (hfro:Fro H w):Ext w H w' H:=⟨hb,H.le_refl,fun b j v hv=>(hb.cell (p:=⟨b,j,none⟩) (hfro.lt hv)).trans (hfro b j v hv),fun b j v h1 h2=>by rw [h1] at h2; cases h2⟩
theorem prs3 {H:Hp} {B:Hd} {u v w:Value} {x y z:PV} (h:PR H B u x) (h1:PR H B v y) (h2:PR H B w z):PR H B (.tuple #[u,v,w]) (.tup [x,y,z]):=.tup rfl fun i a b ha hb=>by
 match i,ha,hb with
 | 0,ha,hb=>cases ha; cases hb; exact h
 | 1,ha,hb=>cases ha; cases hb; exact h1
 | 2,ha,hb=>cases ha; cases hb; exact h2
 | i+3,ha,hb=>simp at hb
theorem prs2 {H:Hp} {B:Hd} {u v:Value} {x y:PV} (h:PR H B u x) (h1:PR H B v y):PR H B (.tuple #[u,v]) (.tup [x,y]):=.tup rfl fun i a b ha hb=>by
 match i,ha,hb with
 | 0,ha,hb=>cases ha; cases hb; exact h
 | 1,ha,hb=>cases ha; cases hb; exact h1
 | i+2,ha,hb=>simp at hb
theorem cCut {E:Env} (hM:∀ K w H,E K w H→∃ m,H 0 0=some (.int .i64 m)):Contract Tryd.prog E 71 sCut:=by
 intro xs p r hs hp w H vs hfro hE hvs
 unfold sCut at hs
 split at hs
 · rename_i s p
   cases hs
   have hn:=hp _ rfl
   obtain ⟨v0,v1,rfl⟩:∃ v0 v1,vs=[v0,v1]:=by
    match vs,hvs.1 with
    | [v0,v1],_=>exact ⟨v0,v1,rfl⟩
   have q0:=(hvs.2 0 _ _ rfl rfl).val
   have q1:=(hvs.2 1 _ _ rfl rfl).val
   subst q0 q1
   obtain ⟨m,hm⟩:=hM _ _ _ hE
   refine (Tryd.strings_Cut s p m w hn (hfro _ _ _ hm)).mono ?_
   rintro e w' ⟨rfl,n,rfl⟩
   exact ⟨H,_,rfl,ext_same ⟨rfl,rfl,rfl,Nat.le_refl _,fun _ _=>rfl⟩ hfro,prs3 (.f (.v _ rfl)) (.f (.v _ rfl)) (.f (.v _ rfl))⟩
 · cases hs
def sCutPk:Spec
 | [.f (.v (.string s)),.f (.v (.string p))]=>some (none,.one (.tup [sV (bA (Lib.trimPrefix s.data.toList p.data.toList)),bV (Lib.hasPrefix s.data.toList p.data.toList)]))
 | _=>none
theorem cCutPk {E:Env}:Contract Tryd.prog E 70 sCutPk:=by
 intro xs p r hs hp w H vs hfro hE hvs
 unfold sCutPk at hs
 split at hs
 · rename_i s p
   cases hs
   obtain ⟨v0,v1,rfl⟩:∃ v0 v1,vs=[v0,v1]:=by
    match vs,hvs.1 with
    | [v0,v1],_=>exact ⟨v0,v1,rfl⟩
   have q0:=(hvs.2 0 _ _ rfl rfl).val
   have q1:=(hvs.2 1 _ _ rfl rfl).val
   subst q0 q1
   refine (Tryd.strings_CutPrefix s p w).mono ?_
   rintro e w' ⟨rfl,rfl⟩
   exact ⟨H,_,rfl,ext_same (Below.refl _ _) hfro,prs2 (.f (.v _ rfl)) (.f (.v _ rfl))⟩
 · cases hs
theorem fold_ge:∀ (l:List UInt8) (a:Nat),a≤l.foldl (fun n c=>n * 10+(c.toNat - 48)) a
 | [],a=>Nat.le_refl _
 | c::l,a=>by
  rw [List.foldl_cons]
  have:=fold_ge l (a * 10+(c.toNat - 48))
  omega
theorem parse_fold:∀ (l:List UInt8) (a:Nat),(∀ c∈l,digC c=true)→l.foldl (fun n c=>n * 10+(c.toNat - 48)) a≤18446744073709551615→Lib.parseUintM 18446744073709551615 a l=.ok (l.foldl (fun n c=>n * 10+(c.toNat - 48)) a)
 | [],a,_,_=>rfl
 | c::l,a,hd,h=>by
  have hc:=hd c (by simp)
  unfold digC at hc
  simp only [Bool.and_eq_true,decide_eq_true_eq] at hc
  rw [List.foldl_cons] at h ⊢
  have hg:=fold_ge l (a * 10+(c.toNat - 48))
  rw [Lib.parseUintM,if_pos ⟨hc.1,hc.2⟩,if_neg (by omega),if_neg (by omega)]
  exact parse_fold l _ (fun x hx=>hd x (by simp [hx])) h
theorem parse_dec {n:Nat} (h:n≤18446744073709551615):Lib.parseUintB 64 (Lib.decDigits n)=.ok n:=by
 unfold Lib.parseUintB
 rw [if_neg (decC_ne n),show (2 ^ 64 - 1:Nat)=18446744073709551615 from rfl]
 have hv:=valC_dec n
 unfold valC at hv
 rw [parse_fold _ 0 (decC_all n) (by rw [hv]; exact h),hv]
def sFmtU:Spec
 | [.f (.v (.int .u64 n)),.f (.v (.int .i64 b))]=>match decide (b=10) with
  | true=>some (some (0≤n∧n≤18446744073709551615),.one (sV (numS n.toNat)))
  | false=>none
 | _=>none
theorem cFmtI {E:Env} (hT:∀ K w H,E K w H→Tab w):Contract Tryd.prog E 106 sFmtU:=by
 intro xs p r hs hp w H vs hfro hE hvs
 unfold sFmtU at hs
 split at hs
 · rename_i n b
   split at hs
   · rename_i hb
     cases hs
     obtain ⟨h0,h1⟩:=hp _ rfl
     obtain rfl:=of_decide_eq_true hb
     obtain ⟨v0,v1,rfl⟩:∃ v0 v1,vs=[v0,v1]:=by
      match vs,hvs.1 with
      | [v0,v1],_=>exact ⟨v0,v1,rfl⟩
     have q0:=(hvs.2 0 _ _ rfl rfl).val
     have q1:=(hvs.2 1 _ _ rfl rfl).val
     subst q0 q1
     have hc:=formatUint_any n.toNat w (by omega) (hT _ _ _ hE)
     rw [Int.toNat_of_nonneg h0] at hc
     refine hc.mono ?_
     rintro e w' ⟨rfl,hbel⟩
     exact ⟨H,_,rfl,ext_same hbel hfro,.f (.v _ rfl)⟩
   · cases hs
 · cases hs
theorem cFmtU {E:Env} (hU:Up E) (hT:∀ K w H,E K w H→Tab w):Contract Tryd.prog E 91 sFmtU:=by
 refine contract_D [(106,sFmtU)] [] Tryd.ntmps91 Tryd.func91 (by kernel_rfl) (by kernel_rfl) hU ⟨cFmtI hT,trivial⟩ trivial ?_
 intro xs p r hs hp
 unfold sFmtU at hs
 split at hs
 · rename_i n b
   split at hs
   · rename_i hb
     cases hs
     obtain ⟨h0,h1⟩:=hp _ rfl
     obtain rfl:=of_decide_eq_true hb
     refine ⟨[.f (.v (.int .u64 n)),.f (.v (.int .i64 10))],[],.cons (.refl _) (.cons (.refl _) .nil),rfl,fun _ hsh=>?_⟩
     have hh:=h0
     refine cast_rfl (p:=((0:Int)≤n∧n≤(18446744073709551615:Int))∧true=true∧Sub (sV (numS n.toNat)) (sV (numS n.toNat))) ?kr ?_
     case kr=>kernel_rfl
     refine ⟨?s0,⟨rfl,?m0⟩⟩
     case s0=>exact ⟨h0,h1⟩
     case m0=>exact .refl _
   · cases hs
 · cases hs
theorem cut_eq {c:UInt8}:∀ {l:List UInt8},Lib.cut l [c]=match cutB c l with
  | some (a,b)=>(a,b,true)
  | none=>(l,[],false)
 | l=>by
  have key:∀ l:List UInt8,match cutB c l with
    | some (a,_)=>Lib.index l [c]=a.length
    | none=>Lib.index l [c]=-1:=by
   intro l
   induction l with
   | nil=>rfl
   | cons x l ih =>
    by_cases hx:x=c
    · subst hx
      simp [cutB,Lib.index]
    · have hp:List.isPrefixOf [c] (x::l)=false:=by simp [List.isPrefixOf,Ne.symm hx]
      rw [cutB,if_neg hx,Lib.index,hp]
      cases hc:cutB c l with
      | none =>
       rw [hc] at ih
       dsimp only at ih ⊢
       rw [ih]; rfl
      | some p =>
       obtain ⟨a,b⟩:=p
       rw [hc] at ih
       dsimp only at ih ⊢
       rw [ih]
       have:((a.length:Int)==-1)=false:=by simp
       rw [this]
       simp
  have h:=key l
  unfold Lib.cut
  cases hc:cutB c l with
  | none =>
   rw [hc] at h
   dsimp only at h ⊢
   rw [h]; rfl
  | some p =>
   obtain ⟨a,b⟩:=p
   rw [hc] at h
   dsimp only at h ⊢
   obtain ⟨rfl,-⟩:=cut_len hc
   rw [h,if_pos (by omega),Int.toNat_natCast]
   simp
end Go.Proofs.YtdeacbdpmdfgdaaDoor
namespace Go.Proofs.YtdeacbdpmdfgdaaDoor
open Go.RowKit
set_option linter.unusedVariables false
set_option maxRecDepth 100000
def cutA (c:UInt8) (s:ByteArray):List UInt8 × List UInt8:=(cutB c s.data.toList).getD ([],[])
def sgnA (p:ByteArray):UInt8:=p.data.toList.getD 0 0
theorem cut_is {p s:ByteArray} {a b:List UInt8} (hp:p.data.toList=[sgnA p]) (hc:cutB (sgnA p) s.data.toList=some (a,b)):Lib.cut s.data.toList p.data.toList=((cutA (sgnA p) s).1,(cutA (sgnA p) s).2,true):=by
 rw [hp,cut_eq]
 unfold cutA
 rw [hc]
 rfl
theorem numS_val (n:Nat):valC (numS n).data.toList=n:=valC_dec n
theorem ex_take (s:ByteArray) (k:Nat):s.extract 0 k=bA (s.data.toList.take k):=by
 apply ByteArray.ext
 apply Array.ext'
 simp [bA,ByteArray.data_extract]
theorem ext_listU (s:ByteArray) (a b:Nat):(s.extract a b).data.toList=(s.data.toList.take b).drop a:=by
 rw [ByteArray.data_extract,Array.toList_extract,List.extract_eq_take_drop,List.drop_take]
theorem ex_drop (s:ByteArray) (k:Nat):s.extract k s.size=bA (s.data.toList.drop k):=by
 apply ByteArray.ext
 apply Array.ext'
 rw [ext_listU,List.take_of_length_le (by rw [Array.length_toList]; exact Nat.le_refl _)]
 rfl
end Go.Proofs.YtdeacbdpmdfgdaaDoor
