/- The layer term: Of, of a text that a term has. -/
import Derived.Test.YtemhncjjiomppaaGreatDoorKr
import Derived.Test.YtemhncjjiomppaaGreatDoorKc
import Derived.Test.YtemhncjjiomppaaGreatDoorEz
import Derived.Test.YtemhncjjiomppaaGreatDoorText
import Derived.Test.YtemhncjjiomppaaGreatDoorKd
import Derived.Test.YtemhncjjiomppaaGreatDoorFa
import Derived.Test.YtemhncjjiomppaaGreatDoorCc
namespace Go.Proofs.YtemhncjjiomppaaGreatDoor
open Go.RowKit
set_option linter.unusedVariables false
set_option maxRecDepth 100000
def EM:Env:=fun K w H=>EZ K w H∧∃ m,H 0 0=some (.int .i64 m)
theorem EM.up:Up EM:=⟨fun c H w' H' he ⟨h,m,hm⟩=>⟨EZ.up.go c H w' H' he h,m,he.le _ _ _ hm⟩,fun K K' w H hs ⟨h,hm⟩=>⟨EZ.up.more K K' w H hs h,hm⟩⟩
theorem EM.tab:∀ K w H,EM K w H→Tab w:=fun K w H h=>EZ.tab K w H h.1
theorem EM.max:∀ K w H,EM K w H→∃ m,H 0 0=some (.int .i64 m):=fun _ _ _ h=>h.2
def bA (l:List UInt8):ByteArray:=⟨l.toArray⟩
def sCut:Spec
 | [.f (.v (.string s)),.f (.v (.string p))]=>some (some (s.size<4294967281),.one (.tup [sV (bA (Lib.cut s.data.toList p.data.toList).1),sV (bA (Lib.cut s.data.toList p.data.toList).2.1),bV (Lib.cut s.data.toList p.data.toList).2.2]))
 | _=>none
theorem QdC {w w':World} {H:Hp} (hb:Below w.heap.size w w') (hfro:Fro H w):Ext w H w' H:=⟨hb,H.le_refl,fun b j v hv=>(hb.cell (p:=⟨b,j,none⟩) (hfro.lt hv)).trans (hfro b j v hv),fun b j v h1 h2=>by rw [h1] at h2; cases h2⟩
theorem prs3 {H:Hp} {B:Hd} {u v w:Value} {x y z:PV} (h:PR H B u x) (h1:PR H B v y) (h2:PR H B w z):PR H B (.tuple #[u,v,w]) (.tup [x,y,z]):=.tup rfl fun i a b ha hb=>by
 match i,ha,hb with
 | 0,ha,hb=>cases ha; cases hb; exact h
 | 1,ha,hb=>cases ha; cases hb; exact h1
 | 2,ha,hb=>cases ha; cases hb; exact h2
 | i+3,ha,hb=>simp at hb
theorem prs2 {H:Hp} {B:Hd} {u v:Value} {x y:PV} (h:PR H B u x) (h1:PR H B v y):PR H B (.tuple #[u,v]) (.tup [x,y]):=.tup rfl fun i a b ha hb=>by
 match i,ha,hb with
 | 0,ha,hb=>cases ha; cases hb; exact h
 | 1,ha,hb=>cases ha; cases hb; exact h1
 | i+2,ha,hb=>simp at hb
theorem cCut {E:Env} (hM:∀ K w H,E K w H→∃ m,H 0 0=some (.int .i64 m)):Contract Tryz.prog E 76 sCut:=by
 intro xs p r hs hp w H vs hfro hE hvs
 unfold sCut at hs
 split at hs
 · rename_i s p
   cases hs
   have hn:=hp _ rfl
   obtain ⟨v0,v1,rfl⟩:∃ v0 v1,vs=[v0,v1]:=by
    match vs,hvs.1 with
    | [v0,v1],_=>exact ⟨v0,v1,rfl⟩
   have q0:=(hvs.2 0 _ _ rfl rfl).val
   have q1:=(hvs.2 1 _ _ rfl rfl).val
   subst q0 q1
   obtain ⟨m,hm⟩:=hM _ _ _ hE
   refine (Tryz.strings_Cut s p m w hn (hfro _ _ _ hm)).mono ?_
   rintro e w' ⟨rfl,n,rfl⟩
   exact ⟨H,_,rfl,QdC ⟨rfl,rfl,rfl,Nat.le_refl _,fun _ _=>rfl⟩ hfro,prs3 (.f (.v _ rfl)) (.f (.v _ rfl)) (.f (.v _ rfl))⟩
 · cases hs
def QjP:Spec
 | [.f (.v (.string s)),.f (.v (.string p))]=>some (none,.one (.tup [sV (bA (Lib.trimPrefix s.data.toList p.data.toList)),bV (Lib.hasPrefix s.data.toList p.data.toList)]))
 | _=>none
theorem cCutPk {E:Env}:Contract Tryz.prog E 75 QjP:=by
 intro xs p r hs hp w H vs hfro hE hvs
 unfold QjP at hs
 split at hs
 · rename_i s p
   cases hs
   obtain ⟨v0,v1,rfl⟩:∃ v0 v1,vs=[v0,v1]:=by
    match vs,hvs.1 with
    | [v0,v1],_=>exact ⟨v0,v1,rfl⟩
   have q0:=(hvs.2 0 _ _ rfl rfl).val
   have q1:=(hvs.2 1 _ _ rfl rfl).val
   subst q0 q1
   refine (Tryz.strings_CutPrefix s p w).mono ?_
   rintro e w' ⟨rfl,rfl⟩
   exact ⟨H,_,rfl,QdC (Below.refl _ _) hfro,prs2 (.f (.v _ rfl)) (.f (.v _ rfl))⟩
 · cases hs
theorem QkF:∀ (l:List UInt8) (a:Nat),a≤l.foldl (fun n c=>n * 10+(c.toNat - 48)) a
 | [],a=>Nat.le_refl _
 | c::l,a=>by
  rw [List.foldl_cons]
  have:=QkF l (a * 10+(c.toNat - 48))
  omega
theorem QeD:∀ (l:List UInt8) (a:Nat),(∀ c∈l,digC c=true)→l.foldl (fun n c=>n * 10+(c.toNat - 48)) a≤18446744073709551615→Lib.parseUintM 18446744073709551615 a l=.ok (l.foldl (fun n c=>n * 10+(c.toNat - 48)) a)
 | [],a,_,_=>rfl
 | c::l,a,hd,h=>by
  have hc:=hd c (by simp)
  unfold digC at hc
  simp only [Bool.and_eq_true,decide_eq_true_eq] at hc
  rw [List.foldl_cons] at h ⊢
  have hg:=QkF l (a * 10+(c.toNat - 48))
  rw [Lib.parseUintM,if_pos ⟨hc.1,hc.2⟩,if_neg (by omega),if_neg (by omega)]
  exact QeD l _ (fun x hx=>hd x (by simp [hx])) h
theorem Qj5 {n:Nat} (h:n≤18446744073709551615):Lib.parseUintB 64 (Lib.decDigits n)=.ok n:=by
 unfold Lib.parseUintB
 rw [if_neg (Qc9 n),show (2 ^ 64 - 1:Nat)=18446744073709551615 from rfl]
 have hv:=Qbx n
 unfold valC at hv
 rw [QeD _ 0 (Qbk n) (by rw [hv]; exact h),hv]
def QgU:Spec
 | [.f (.v (.string s)),.f (.v (.int .i64 b)),.f (.v (.int .i64 z))]=>match decide (b=10),decide (z=64) with
  | true,true=>some (some (s.size≤9223372036854775806∧∃ n:Nat,n≤18446744073709551615∧s=numS n),.one (.tup [.f (.v (.int .u64 (valC s.data.toList))),.f (.v .nilIface)]))
  | _,_=>none
 | _=>none
theorem QnR {E:Env}:Contract Tryz.prog E 112 QgU:=by
 intro xs p r hs hp w H vs hfro hE hvs
 unfold QgU at hs
 split at hs
 · rename_i s b z
   split at hs
   · rename_i hb hz
     cases hs
     obtain ⟨hn,n,hn1,rfl⟩:=hp _ rfl
     obtain rfl:=of_decide_eq_true hb
     obtain rfl:=of_decide_eq_true hz
     obtain ⟨v0,v1,v2,rfl⟩:∃ v0 v1 v2,vs=[v0,v1,v2]:=by
      match vs,hvs.1 with
      | [v0,v1,v2],_=>exact ⟨v0,v1,v2,rfl⟩
     have q0:=(hvs.2 0 _ _ rfl rfl).val
     have q1:=(hvs.2 1 _ _ rfl rfl).val
     have q2:=(hvs.2 2 _ _ rfl rfl).val
     subst q0 q1 q2
     refine (Tryz.strconv_ParseUint_10_at64_ok (numS n) hn n (by exact Qj5 hn1) w).mono ?_
     rintro e w' ⟨rfl,hw⟩
     have hv:valC (numS n).data.toList=n:=Qbx n
     rw [hv]
     have hbel:Below w.heap.size w w':=by
      rcases hw with rfl | rfl
      · exact Below.refl _ _
      · exact Lib.bytesWorld_below _ _ _
     exact ⟨H,_,rfl,QdC hbel hfro,prs2 (.f (.v _ rfl)) (.f (.v _ rfl))⟩
   · cases hs
 · cases hs
def QiI:Spec
 | [.f (.v (.int .u64 n)),.f (.v (.int .i64 b))]=>match decide (b=10) with
  | true=>some (some (0≤n∧n≤18446744073709551615),.one (sV (numS n.toNat)))
  | false=>none
 | _=>none
theorem cFmtI {E:Env} (hT:∀ K w H,E K w H→Tab w):Contract Tryz.prog E 158 QiI:=by
 intro xs p r hs hp w H vs hfro hE hvs
 unfold QiI at hs
 split at hs
 · rename_i n b
   split at hs
   · rename_i hb
     cases hs
     obtain ⟨h0,h1⟩:=hp _ rfl
     obtain rfl:=of_decide_eq_true hb
     obtain ⟨v0,v1,rfl⟩:∃ v0 v1,vs=[v0,v1]:=by
      match vs,hvs.1 with
      | [v0,v1],_=>exact ⟨v0,v1,rfl⟩
     have q0:=(hvs.2 0 _ _ rfl rfl).val
     have q1:=(hvs.2 1 _ _ rfl rfl).val
     subst q0 q1
     have hc:=Qep n.toNat w (by omega) (hT _ _ _ hE)
     rw [Int.toNat_of_nonneg h0] at hc
     refine hc.mono ?_
     rintro e w' ⟨rfl,hbel⟩
     exact ⟨H,_,rfl,QdC hbel hfro,.f (.v _ rfl)⟩
   · cases hs
 · cases hs
theorem cFmtU {E:Env} (hU:Up E) (hT:∀ K w H,E K w H→Tab w):Contract Tryz.prog E 113 QiI:=by
 refine Qak [(158,QiI)] [] Tryz.ntmps113 Tryz.func113 (by kernel_rfl) (by kernel_rfl) hU ⟨cFmtI hT,trivial⟩ trivial ?_
 intro xs p r hs hp
 unfold QiI at hs
 split at hs
 · rename_i n b
   split at hs
   · rename_i hb
     cases hs
     obtain ⟨h0,h1⟩:=hp _ rfl
     obtain rfl:=of_decide_eq_true hb
     refine ⟨[.f (.v (.int .u64 n)),.f (.v (.int .i64 10))],[],.cons (.refl _) (.cons (.refl _) .nil),rfl,fun _ hsh=>?_⟩
     have hh:=h0
     refine Qah (p:=((0:Int)≤n∧n≤(18446744073709551615:Int))∧true=true∧Sub (sV (numS n.toNat)) (sV (numS n.toNat))) ?kr ?_
     case kr=>kernel_rfl
     refine ⟨?s0,⟨rfl,?m0⟩⟩
     case s0=>exact ⟨h0,h1⟩
     case m0=>exact .refl _
   · cases hs
 · cases hs
theorem QmM {c:UInt8}:∀ {l:List UInt8},Lib.cut l [c]=match cutB c l with
  | some (a,b)=>(a,b,true)
  | none=>(l,[],false)
 | l=>by
  have key:∀ l:List UInt8,match cutB c l with
    | some (a,_)=>Lib.index l [c]=a.length
    | none=>Lib.index l [c]=-1:=by
   intro l
   induction l with
   | nil=>rfl
   | cons x l ih =>
    by_cases hx:x=c
    · subst hx
      simp [cutB,Lib.index]
    · have hp:List.isPrefixOf [c] (x::l)=false:=by simp [List.isPrefixOf,Ne.symm hx]
      rw [cutB,if_neg hx,Lib.index,hp]
      cases hc:cutB c l with
      | none =>
       rw [hc] at ih
       dsimp only at ih ⊢
       rw [ih]; rfl
      | some p =>
       obtain ⟨a,b⟩:=p
       rw [hc] at ih
       dsimp only at ih ⊢
       rw [ih]
       have:((a.length:Int)==-1)=false:=by simp
       rw [this]
       simp
  have h:=key l
  unfold Lib.cut
  cases hc:cutB c l with
  | none =>
   rw [hc] at h
   dsimp only at h ⊢
   rw [h]; rfl
  | some p =>
   obtain ⟨a,b⟩:=p
   rw [hc] at h
   dsimp only at h ⊢
   obtain ⟨rfl,-⟩:=QkU hc
   rw [h,if_pos (by omega),Int.toNat_natCast]
   simp
end Go.Proofs.YtemhncjjiomppaaGreatDoor
namespace Go.Proofs.YtemhncjjiomppaaGreatDoor
open Go.RowKit
set_option linter.unusedVariables false
set_option maxRecDepth 100000
def cutA (c:UInt8) (s:ByteArray):List UInt8 × List UInt8:=(cutB c s.data.toList).getD ([],[])
def sgnA (p:ByteArray):UInt8:=p.data.toList.getD 0 0
theorem QmL {p s:ByteArray} {a b:List UInt8} (hp:p.data.toList=[sgnA p]) (hc:cutB (sgnA p) s.data.toList=some (a,b)):Lib.cut s.data.toList p.data.toList=((cutA (sgnA p) s).1,(cutA (sgnA p) s).2,true):=by
 rw [hp,QmM]
 unfold cutA
 rw [hc]
 rfl
theorem Qh5 (n:Nat):valC (numS n).data.toList=n:=Qbx n
theorem Qng {n:Nat} (h:n≤9223372036854775807):(numS n).size≤9223372036854775806:=by
 have h1:=Qc8 20 n (by omega)
 show (Lib.decDigits n).length≤_
 omega
theorem QnB (s:ByteArray) (k:Nat):s.extract 0 k=bA (s.data.toList.take k):=by
 apply ByteArray.ext
 apply Array.ext'
 simp [bA,ByteArray.data_extract]
theorem QkK (s:ByteArray) (a b:Nat):(s.extract a b).data.toList=(s.data.toList.take b).drop a:=by
 rw [ByteArray.data_extract,Array.toList_extract,List.extract_eq_take_drop,List.drop_take]
theorem QnC (s:ByteArray) (k:Nat):s.extract k s.size=bA (s.data.toList.drop k):=by
 apply ByteArray.ext
 apply Array.ext'
 rw [QkK,List.take_of_length_le (by rw [Array.length_toList]; exact Nat.le_refl _)]
 rfl
def QjJ:Spec2
 | [.bp 0 0,.f (.v (.string p))],[.cells [.f (.v (.string s))]]=>some (.need (s.size<4294967281∧p.data.toList=[sgnA p]∧∃ a b,cutB (sgnA p) s.data.toList=some (a,b)) (.ret (sV (bA (cutA (sgnA p) s).1)) [.cells [sV (bA (cutA (sgnA p) s).2)]]))
 | _,_=>none
theorem cUntil {E:Env} (hU:Up E) (hM:∀ K w H,E K w H→∃ m,H 0 0=some (.int .i64 m)):Contract2 Tryz.prog E 72 QjJ:=by
 refine contract2 [(76,sCut)] [(37,Qf5)] Tryz.ntmps72 Tryz.func72 (by kernel_rfl) (by kernel_rfl) hU ⟨cCut hM,trivial⟩ ⟨Qje hU,trivial⟩ ?_
 intro xs ob o hs hok
 unfold QjJ at hs
 split at hs
 · rename_i p s
   cases hs
   obtain ⟨⟨hn,hp,a,b,hc⟩,-⟩:=hok
   refine ⟨[.bp 0 0,.f (.v (.string p))],[],.cons (.refl _) (.cons (.refl _) .nil),rfl,fun _ hsh=>?_⟩
   have h0:=hn
   refine Qah (p:=s.size<4294967281∧ifB (Lib.cut s.data.toList p.data.toList).snd.snd (EndU 1 (Out.need (s.size<4294967281∧p.data.toList=[sgnA p]∧∃ (a:List UInt8),∃ (b:List UInt8),cutB (sgnA p) s.data.toList=some (a,b)) (Out.ret (sV (bA (cutA (sgnA p) s).fst)) [PO.cells [sV (bA (cutA (sgnA p) s).snd)]])).fin true (sV (bA (Lib.cut s.data.toList p.data.toList).fst)) [PO.cells [sV (bA (Lib.cut s.data.toList p.data.toList).snd.fst)]]) (EndU 1 (Out.need (s.size<4294967281∧p.data.toList=[sgnA p]∧∃ (a:List UInt8),∃ (b:List UInt8),cutB (sgnA p) s.data.toList=some (a,b)) (Out.ret (sV (bA (cutA (sgnA p) s).fst)) [PO.cells [sV (bA (cutA (sgnA p) s).snd)]])).fin false (PV.ifc 49 (iV 4)) [PO.cells [sV s]])) ?kr ?_
   case kr=>kernel_rfl
   refine ⟨?s0,Qaa.2 ⟨fun hb0=>?m0,fun hb0=>?m1⟩⟩
   case s0=>exact hn
   case m0 =>
    rw [QmL hp hc]
    exact QaC (endU rfl (.refl _) rfl rfl (r:=[]) rfl)
   case m1 =>
    rw [QmL hp hc] at hb0
    cases hb0
 · cases hs
def Qfc:Spec
 | [.f (.v (.string s)),.f (.v (.int .u64 m))]=>some (some (∃ n:Nat,(n:Int)≤m∧n≤9223372036854775807∧s=numS n),.one (iV (valC s.data.toList)))
 | _=>none
theorem Qmj {E:Env} (hU:Up E) (hT:∀ K w H,E K w H→Tab w):Contract Tryz.prog E 73 Qfc:=by
 refine Qak [(112,QgU),(113,QiI)] [(37,Qf5)] Tryz.ntmps73 Tryz.func73 (by kernel_rfl) (by kernel_rfl) hU ⟨QnR,cFmtU hU hT,trivial⟩ ⟨Qje hU,trivial⟩ ?_
 intro xs p r hs hp
 unfold Qfc at hs
 split at hs
 · rename_i s m
   cases hs
   obtain ⟨n,hn,hn1,rfl⟩:=hp _ rfl
   refine ⟨[.f (.v (.string (numS n))),.f (.v (.int .u64 m))],[],.cons (.refl _) (.cons (.refl _) .nil),rfl,fun _ hsh=>?_⟩
   have h0:=hn
   refine Qah (p:=((numS n).size≤9223372036854775806∧∃ (n_1:Nat),n_1≤18446744073709551615∧numS n=numS n_1)∧ifB (decide ((↑(valC (numS n).data.toList):Int)≤m)) (((0:Int)≤(↑(valC (numS n).data.toList):Int)∧(↑(valC (numS n).data.toList):Int)≤(18446744073709551615:Int))∧ifB ((numS (↑(valC (numS n).data.toList):Int).toNat).toList==(numS n).toList) (true=true∧Sub (iV (IntKind.i64.wrap (↑(valC (numS n).data.toList):Int))) (iV (↑(valC (numS n).data.toList):Int))) False) False) ?kr ?_
   case kr=>kernel_rfl
   refine ⟨⟨?s0,⟨?x0,⟨?s1,?m0⟩⟩⟩,Qaa.2 ⟨fun hb0=>⟨?s2,Qaa.2 ⟨fun hb1=>⟨rfl,?m1⟩,fun hb1=>?m2⟩⟩,fun hb0=>?m3⟩⟩
   case x0=>exact n
   all_goals try simp only [Qh5,Int.toNat_natCast,decide_eq_true_eq,decide_eq_false_iff_not] at *
   case s0=>exact Qng hn1
   case s1=>omega
   case s2=>omega
   case m1=>exact (Qav (wJ _ (by omega) (by omega))).sub
   case m2=>simp at hb1
   case m3=>exact hb0 hn
 · cases hs
def QgW:Spec2
 | [.bp 0 0,.f (.v (.int .i64 n))],[.cells [.f (.v (.string s))]]=>some (.need (0≤n∧n<s.size∧s.size≤4611686018427387904∧s.data.toList.getD n.toNat 0=32) (.ret (sV (bA (s.data.toList.take n.toNat))) [.cells [sV (bA (s.data.toList.drop (n.toNat+1)))]]))
 | _,_=>none
theorem QnT {E:Env} (hU:Up E):Contract2 Tryz.prog E 74 QgW:=by
 refine contract2 [] [(37,Qf5)] Tryz.ntmps74 Tryz.func74 (by kernel_rfl) (by kernel_rfl) hU trivial ⟨Qje hU,trivial⟩ ?_
 intro xs ob o hs hok
 unfold QgW at hs
 split at hs
 · rename_i n s
   cases hs
   obtain ⟨⟨hn,hn1,hn2,hc⟩,-⟩:=hok
   refine ⟨[.bp 0 0,.f (.v (.int .i64 n))],[],.cons (.refl _) (.cons (.refl _) .nil),rfl,fun _ hsh=>?_⟩
   have h0:=hn
   refine Qah (p:=ifB (decide (n<(↑s.size:Int))) (((0:Int)≤n∧n<(↑s.size:Int))∧ifB ((↑(s.data.toList.getD n.toNat (0:UInt8)).toNat:Int)==(32:Int)) (((0:Int)≤(0:Int)∧(0:Int)≤n∧n≤(↑s.size:Int))∧((0:Int)≤IntKind.i64.wrap (n+(1:Int))∧IntKind.i64.wrap (n+(1:Int))≤(↑s.size:Int)∧(↑s.size:Int)≤(↑s.size:Int))∧EndU 1 (Out.need ((0:Int)≤n∧n<(↑s.size:Int)∧s.size≤4611686018427387904∧s.data.toList.getD n.toNat (0:UInt8)=(32:UInt8)) (Out.ret (sV (bA (List.take n.toNat s.data.toList))) [PO.cells [sV (bA (List.drop (n.toNat+1) s.data.toList))]])).fin true (sV (s.extract (Int.toNat (0:Int)) n.toNat)) [PO.cells [sV (s.extract (IntKind.i64.wrap (n+(1:Int))).toNat (↑s.size:Int).toNat)]]) (EndU 1 (Out.need ((0:Int)≤n∧n<(↑s.size:Int)∧s.size≤4611686018427387904∧s.data.toList.getD n.toNat (0:UInt8)=(32:UInt8)) (Out.ret (sV (bA (List.take n.toNat s.data.toList))) [PO.cells [sV (bA (List.drop (n.toNat+1) s.data.toList))]])).fin false (PV.ifc 49 (iV 4)) [PO.cells [sV s]])) (EndU 1 (Out.need ((0:Int)≤n∧n<(↑s.size:Int)∧s.size≤4611686018427387904∧s.data.toList.getD n.toNat (0:UInt8)=(32:UInt8)) (Out.ret (sV (bA (List.take n.toNat s.data.toList))) [PO.cells [sV (bA (List.drop (n.toNat+1) s.data.toList))]])).fin false (PV.ifc 49 (iV 4)) [PO.cells [sV s]])) ?kr ?_
   case kr=>kernel_rfl
   refine Qaa.2 ⟨fun hb0=>⟨?s0,Qaa.2 ⟨fun hb1=>⟨?s1,⟨?s2,?m0⟩⟩,fun hb1=>?m1⟩⟩,fun hb0=>?m2⟩
   all_goals try simp only [decide_eq_true_eq,decide_eq_false_iff_not] at *
   case s0=>exact ⟨hn,hn1⟩
   case s1=>omega
   case s2=>rw [wJ _ (by omega) (by omega)]; omega
   case m0 =>
    have e:(IntKind.i64.wrap (n+1)).toNat=n.toNat+1:=by rw [wJ _ (by omega) (by omega)]; omega
    rw [e,Int.toNat_natCast,Int.toNat_zero,QnB,QnC]
    exact QaC (endU rfl (.refl _) rfl rfl (r:=[]) rfl)
   case m1=>rw [hc] at hb1; exact absurd hb1 (by decide)
   case m2=>exact absurd hn1 hb0
 · cases hs
end Go.Proofs.YtemhncjjiomppaaGreatDoor
namespace Go.Proofs.YtemhncjjiomppaaGreatDoor
open Go.RowKit
set_option linter.unusedVariables false
set_option maxRecDepth 100000
def QaY (l:List Tw) (r:List UInt8):List UInt8:=Lib.decDigits l.length++59::(Qad l++r)
def Qbo (nm:ByteArray) (b:Bool) (d:List Nat) (l:List Tw) (r:List UInt8):List UInt8:=nm.data.toList++32::(((if b=true then [45] else [])++Qai d)++32::QaY l r)
def Qaz (l:List Nat):List Int:=l.map Int.ofNat
def Qac (s:ByteArray):Tw × List UInt8:=(Qlz (2 * s.size+2) s.data.toList).getD (Sh.tm.nil,[])
def QhP (n:Nat):Spec2
 | [.bp 0 0],[.cells [.f (.v (.string s))]]=>some (.need (∃ t r,s=bA (keyB t++r)∧Qau t∧QaD t∧t.fitT∧s.size<4294967281∧t.size<n) (.ret (tmP (Qac s).1) [.cells [sV (bA (Qac s).2)]]))
 | _,_=>none
theorem bA_l (l:List UInt8):(bA l).data.toList=l:=rfl
theorem bA_sz (l:List UInt8):(bA l).size=l.length:=rfl
theorem Qku (k:Int) (nm:ByteArray) (b:Bool) (d:List Nat) (l:List Tw) (r:List UInt8):keyB (.mk k nm b d l)++r=Lib.decDigits k.toNat++32::(Lib.decDigits nm.size++58::Qbo nm b d l r):=by
 unfold Qbo QaY
 rw [keyB]; simp only [List.append_assoc,List.cons_append]
theorem no_neg (b:Bool) (d:List Nat):(32:UInt8) ∉ (if b=true then [45] else [])++Qai d:=fun h=>by
 rcases List.mem_append.1 h with h | h
 · cases b
   · simp at h
   · rw [if_pos rfl,List.mem_singleton] at h; revert h; decide
 · exact Qhr (by decide) (by decide) d h
theorem QfG {c:UInt8} {s a b:List UInt8} (h:cutB c s=some (a,b)):cutA c (bA s)=(a,b):=by
 unfold cutA
 show (cutB c s).getD _=_
 rw [h]; rfl
theorem sg32:sgnA ⟨#[32]⟩=32:=by decide
theorem sg58:sgnA ⟨#[58]⟩=58:=by decide
theorem sg59:sgnA ⟨#[59]⟩=59:=by decide
theorem QkP {d:List Nat} {i:Nat} (h:i<d.length):Qai (d.drop i)=Lib.decDigits (d.getD i 0)++46::Qai (d.drop (i+1)):=by
 rw [List.drop_eq_getElem_cons h,Qai,List.getD_eq_getElem?_getD,List.getElem?_eq_getElem h]; rfl
theorem Qkt {l:List Tw} {i:Nat} (h:i<l.length) (r:List UInt8):Qad (l.drop i)++r=keyB (l.getD i Sh.tm.nil)++(Qad (l.drop (i+1))++r):=by
 rw [List.drop_eq_getElem_cons h,Qad,List.getD_eq_getElem?_getD,List.getElem?_eq_getElem h,List.append_assoc]; rfl
theorem Qks:∀ (l:List Tw) (i:Nat),(Qad (l.drop i)).length≤(Qad l).length
 | l,0=>Nat.le_refl _
 | [],i+1=>by simp
 | t::l,i+1=>by
  have:=Qks l i
  rw [List.drop_succ_cons,Qad,List.length_append]; omega
theorem QkO:∀ (l:List Nat) (i:Nat),(Qai (l.drop i)).length≤(Qai l).length
 | l,0=>Nat.le_refl _
 | [],i+1=>by simp
 | t::l,i+1=>by
  have:=QkO l i
  rw [List.drop_succ_cons,Qai,List.length_append,List.length_cons]; omega
theorem Qfa:∀ {l:List Tw} {i:Nat},i<l.length→QdM l→QaD (l.getD i Sh.tm.nil)
 | t::l,0,_,h=>h.1
 | t::l,i+1,hi,h=>Qfa (l:=l) (i:=i) (by simpa using hi) h.2
theorem Qhd:∀ {l:List Tw} {i:Nat},i<l.length→QcC l→Qau (l.getD i Sh.tm.nil)
 | t::l,0,_,h=>h.1
 | t::l,i+1,hi,h=>Qhd (l:=l) (i:=i) (by simpa using hi) h.2
theorem QjG:∀ {l:List Tw} {i:Nat},i<l.length→(l.getD i Sh.tm.nil).size≤szL l
 | t::l,0,_=>by simp [szL]
 | t::l,i+1,hi=>by
  have:=QjG (l:=l) (i:=i) (by simpa using hi)
  simp only [List.getD_cons_succ,szL]; omega
theorem Qju {d:List Nat} {i:Nat} (h:i<d.length):Qaz (d.take i)++[((d.getD i 0:Nat):Int)]=Qaz (d.take (i+1)):=by
 unfold Qaz
 rw [List.take_add_one,List.getElem?_eq_getElem h,Option.toList_some,List.map_append,List.getD_eq_getElem?_getD,List.getElem?_eq_getElem h]; rfl
theorem Qlo {l:List Tw} {i:Nat} (h:i<l.length):l.take i++[l.getD i Sh.tm.nil]=l.take (i+1):=by
 rw [List.take_add_one,List.getElem?_eq_getElem h,Option.toList_some,List.getD_eq_getElem?_getD,List.getElem?_eq_getElem h]; rfl
theorem u8_id {k:Int} (h0:0≤k) (h1:k≤255):IntKind.u8.wrap ((k.toNat:Nat):Int)=k:=by
 rw [Int.toNat_of_nonneg h0,w8 k h0 h1]
theorem u32_id {n:Nat} (h:n<4294967296):IntKind.u32.wrap (n:Int)=n:=by
 have:IntKind.u32.wrap (n:Int)=(n:Int) % 4294967296:=by simp [IntKind.wrap,IntKind.bits,IntKind.signed]
 rw [this]; omega
theorem Qmu {kd:IntKind} {a b:Int} (h:a=b):SubB (.f (.v (.int kd a))) (.f (.v (.int kd b))):=by subst h; exact .refl _
theorem Qjy {a b:ByteArray} (h:a=b):SubB (sV a) (sV b):=by subst h; exact .refl _
theorem Qnj (nm:ByteArray) (X:List UInt8):bA (List.take nm.size (nm.data.toList++32::X))=nm:=by
 have:nm.size=nm.data.toList.length:=rfl
 rw [this,List.take_left]; rfl
theorem Qnk (nm:ByteArray) (X:List UInt8):List.drop (nm.size+1) (nm.data.toList++32::X)=X:=by
 rw [show nm.size+1=(nm.data.toList++[32]).length by rw [List.length_append]; rfl,show nm.data.toList++32::X=(nm.data.toList++[32])++X by rw [List.append_assoc]; rfl,List.drop_left]
theorem nm_get (nm:ByteArray) (X:List UInt8):(nm.data.toList++32::X).getD nm.size 0=32:=by
 have:nm.size=nm.data.toList.length:=rfl
 rw [List.getD_eq_getElem?_getD,this,List.getElem?_append_right (Nat.le_refl _),Nat.sub_self]; rfl
theorem Qne (b:Bool) (d:List Nat):bA (Lib.trimPrefix ((if b=true then [45] else [])++Qai d) [45])=bA (Qai d)∧Lib.hasPrefix ((if b=true then [45] else [])++Qai d) [45]=b:=by
 have h:=Qmz b d
 have key:∀ x:List UInt8,Lib.hasPrefix x [45]=(negW x).1∧Lib.trimPrefix x [45]=(negW x).2:=by
  intro x
  cases x with
  | nil=>exact ⟨rfl,rfl⟩
  | cons c x =>
   by_cases hc:c=45
   · subst hc
     exact ⟨by simp [Lib.hasPrefix,negW,List.isPrefixOf],by simp [Lib.trimPrefix,Lib.hasPrefix,negW,List.isPrefixOf]⟩
   · have hb:((45:UInt8)==c)=false:=by simp [Ne.symm hc]
     exact ⟨by simp [Lib.hasPrefix,negW,List.isPrefixOf,hb,hc],by simp [Lib.trimPrefix,Lib.hasPrefix,negW,List.isPrefixOf,hb,hc]⟩
 obtain ⟨k1,k2⟩:=key ((if b=true then [45] else [])++Qai d)
 rw [k1,k2,h]
 exact ⟨rfl,rfl⟩
theorem QdE {d:List Nat} {i:Nat} (h:i<d.length):Lib.cut (Qai (d.drop i)) [46]=(Lib.decDigits (d.getD i 0),Qai (d.drop (i+1)),true):=by
 rw [QmM,QkP h,Qb2 (QcM (by decide) _)]
theorem Ql8 {d:List Nat} {i:Nat} (hi:i≤d.length) (h:bA (Qai (d.drop i))=⟨#[]⟩):i=d.length:=by
 rcases Nat.lt_or_ge i d.length with h1 | h1
 · exfalso
   have h2:Qai (d.drop i)=[]:=by rw [← bA_l (Qai (d.drop i)),h]
   rw [QkP h1] at h2; simp at h2
 · omega
mutual
theorem QhM:∀ t:Tw,t.size≤(keyB t).length
 | .mk k n b d l=>by
  have:=Qf2 l
  rw [Tw.size,keyB]
  simp only [List.length_append,List.length_cons]
  omega
theorem Qf2:∀ l:List Tw,szL l≤(Qad l).length
 | []=>Nat.le_refl _
 | t::l=>by
  have h1:=QhM t
  have h2:=Qf2 l
  rw [szL,Qad,List.length_append]
  omega
end
theorem Qds {t:Tw} {r:List UInt8} (hk:Qau t) (hs:QaD t):Qac (bA (keyB t++r))=(t,r):=by
 unfold Qac
 rw [bA_l,bA_sz,QjW t _ r hk hs (by have:=QhM t; rw [List.length_append]; omega)]
 rfl
theorem QaX {d:List Nat} {i:Nat} (hi:i≤d.length) (h:¬ bA (Qai (d.drop i))=⟨#[]⟩):i<d.length:=by
 rcases Nat.lt_or_ge i d.length with h1 | h1
 · exact h1
 · exfalso
   rw [List.drop_of_length_le h1] at h
   exact h rfl
theorem Qhj {d:List Nat} {i:Nat} (hd:∀ x∈d,x<4294967296) (h:i<d.length):d.getD i 0<4294967296:=by
 rw [List.getD_eq_getElem?_getD,List.getElem?_eq_getElem h,Option.getD_some]
 exact hd _ (List.getElem_mem h)
theorem ends {k:Int} {nm:ByteArray} {b:Bool} {d:List Nat} {l:List Tw} (hd:∀ x∈d,x<4294967296):SubB (.agg [.f (.v (.int .u8 k)),.f (.v (.string nm)),.f (.v (.bool b)),.f (.is .u32 (Qaz d)),.f (.dt .tm l)]) (tmP (.mk k nm b d l)) :=
 QlO (m:=[.v (.int .u8 k),.v (.string nm),.v (.bool b),.is .u32 (Qaz d),.dt .tm l]) rfl (.cons (fun _ _ h=>h) (.cons (fun _ _ h=>h) (.cons (fun _ _ h=>h) (.cons (fun H v h=>((Qnw hd).1 H B0 v (.f h)).rd) (.cons (fun _ _ h=>h) .nil)))))
set_option maxHeartbeats 8000000 in
theorem QmQ {E:Env} (hU:Up E) (hT:∀ K w H,E K w H→Tab w) (hM:∀ K w H,E K w H→∃ m,H 0 0=some (.int .i64 m)):∀ n,Contract2 Tryz.prog E 36 (QhP n)
 | 0=>by
  intro xs ob o hs hok
  unfold QhP at hs
  split at hs
  · cases hs
    obtain ⟨⟨t,r,-,-,-,-,-,h⟩,-⟩:=hok
    exact absurd h (Nat.not_lt_zero _)
  · cases hs
 | n+1=>by
  refine contract2 [(76,sCut),(75,QjP),(73,Qfc)] [(72,QjJ),(74,QgW),(37,Qf5),(36,QhP n)] Tryz.ntmps36 Tryz.func36 (by kernel_rfl) (by kernel_rfl) hU ⟨cCut hM,cCutPk,Qmj hU hT,trivial⟩ ⟨cUntil hU hM,QnT hU,Qje hU,QmQ hU hT hM n,trivial⟩ ?_
  intro xs ob o hs hok
  unfold QhP at hs
  split at hs
  · rename_i s
    cases hs
    obtain ⟨⟨t,r,rfl,hk,hsh1,hft,hsz,hn⟩,-⟩:=hok
    obtain ⟨k,nm,b,d,l⟩:=t
    refine ⟨[.bp 0 0],[(1000002,.s ⟨Unit,fun _=>⟨[(0,.bp 0 0),(2,.bp 1 0),(3,sV (numS k.toNat)),(4,sV (numS nm.size))],[.cells [sV (bA (Qbo nm b d l r))],.cells [.f (.v (.int .u8 0)),.f (.v (.string ⟨#[]⟩)),.f (.v (.bool false)),.f (.v (.slice none 0 0)),.f (.v (.slice none 0 0))]]⟩,fun _=>True,fun _=>0⟩),(1000003,.s ⟨Unit,fun _=>⟨[(0,.bp 0 0),(2,.bp 1 0),(4,sV (numS nm.size)),(5,.bp 2 0)],[.cells [sV (bA (Qbo nm b d l r))],.cells [.f (.v (.int .u8 0)),.f (.v (.string ⟨#[]⟩)),.f (.v (.bool false)),.f (.v (.slice none 0 0)),.f (.v (.slice none 0 0))],.cells [.f (.v (.int .u8 k)),.f (.v (.string ⟨#[]⟩)),.f (.v (.bool false)),.f (.v (.slice none 0 0)),.f (.v (.slice none 0 0))]]⟩,fun _=>True,fun _=>0⟩),(1000004,.s ⟨Unit,fun _=>⟨[(0,.bp 0 0),(2,.bp 1 0),(5,.bp 2 0)],[.cells [sV (bA (((if b=true then [45] else [])++Qai d)++32::QaY l r))],.cells [.f (.v (.int .u8 0)),.f (.v (.string ⟨#[]⟩)),.f (.v (.bool false)),.f (.v (.slice none 0 0)),.f (.v (.slice none 0 0))],.cells [.f (.v (.int .u8 k)),.f (.v (.string nm)),.f (.v (.bool false)),.f (.v (.slice none 0 0)),.f (.v (.slice none 0 0))]]⟩,fun _=>True,fun _=>0⟩),(6,.s ⟨Nat,fun i=>⟨[(0,.bp 0 0),(2,.bp 1 0),(5,.bp 2 0),(6,sV (bA (Qai (d.drop i))))],[.cells [sV (bA (QaY l r))],.cells [.f (.v (.int .u8 0)),.f (.v (.string ⟨#[]⟩)),.f (.v (.bool false)),.f (.v (.slice none 0 0)),.f (.v (.slice none 0 0))],.cells [.f (.v (.int .u8 k)),.f (.v (.string nm)),.f (.v (.bool b)),.tl 3 (.is .u32 (Qaz (d.take i))),.f (.v (.slice none 0 0))],.tail 57 1]⟩,fun i=>i≤d.length,fun i=>d.length - i⟩),(1000012,.s ⟨Unit,fun _=>⟨[(0,.bp 0 0),(2,.bp 1 0),(5,.bp 2 0),(11,sV (numS l.length))],[.cells [sV (bA (Qad l++r))],.cells [.f (.v (.int .u8 0)),.f (.v (.string ⟨#[]⟩)),.f (.v (.bool false)),.f (.v (.slice none 0 0)),.f (.v (.slice none 0 0))],.cells [.f (.v (.int .u8 k)),.f (.v (.string nm)),.f (.v (.bool b)),.tl 3 (.is .u32 (Qaz d)),.f (.v (.slice none 0 0))],.tail 57 1]⟩,fun _=>True,fun _=>0⟩),(13,.s ⟨Nat,fun i=>⟨[(0,.bp 0 0),(2,.bp 1 0),(5,.bp 2 0),(58,iV l.length),(59,iV i)],[.cells [sV (bA (Qad (l.drop i)++r))],.cells [.f (.v (.int .u8 0)),.f (.v (.string ⟨#[]⟩)),.f (.v (.bool false)),.f (.v (.slice none 0 0)),.f (.v (.slice none 0 0))],.cells [.f (.v (.int .u8 k)),.f (.v (.string nm)),.f (.v (.bool b)),.tl 3 (.is .u32 (Qaz d)),.tl 4 (.dt .tm (l.take i))],.tail 57 1,.tail 28 5]⟩,fun i=>i≤l.length,fun i=>l.length - i⟩)],.cons (.refl _) .nil,rfl,fun _ hsh=>?_⟩
    have h0:=hsz
    obtain ⟨⟨⟨k0,k1⟩,hd⟩,hkl⟩:=hk
    obtain ⟨⟨hnm,hll⟩,hsl⟩:=hsh1
    obtain ⟨hf1,hf2,hf3,hf4⟩:=(Tw.fitT_eq _).1 hft
    have hdl:d.length≤40000000:=hf2
    have hll2:l.length≤100000000:=hf3
    have hc0:cutB 32 (keyB (Tw.mk k nm b d l)++r)=some (Lib.decDigits k.toNat,Lib.decDigits nm.size++58::Qbo nm b d l r):=by rw [Qku]; exact Qb2 (QcM (by decide) _)
    have hc1:cutB 58 (Lib.decDigits nm.size++58::Qbo nm b d l r)=some (Lib.decDigits nm.size,Qbo nm b d l r):=Qb2 (QcM (by decide) _)
    have hc2:cutB 32 ((if b=true then [45] else [])++Qai d++32::QaY l r)=some ((if b=true then [45] else [])++Qai d,QaY l r):=Qb2 (no_neg b d)
    have hc3:cutB 59 (QaY l r)=some (Lib.decDigits l.length,Qad l++r):=Qb2 (QcM (by decide) _)
    have hA:=QfG hc0
    have hB:=QfG hc1
    have hC:=QfG hc2
    have hD:=QfG hc3
    have q0:(keyB (Tw.mk k nm b d l)++r).length<4294967281:=hsz
    rw [Qku] at q0
    have q1:(Lib.decDigits nm.size++58::Qbo nm b d l r).length<4294967281:=by rw [List.length_append,List.length_cons] at q0; omega
    have q2:(Qbo nm b d l r).length<4294967281:=by rw [List.length_append,List.length_cons] at q1; omega
    have q3:((if b=true then [45] else [])++Qai d++32::QaY l r).length<4294967281:=by unfold Qbo at q2; rw [List.length_append,List.length_cons] at q2; omega
    have q4:(QaY l r).length<4294967281:=by rw [List.length_append,List.length_cons] at q3; omega
    have q5:(Qad l++r).length<4294967281:=by unfold QaY at q4; rw [List.length_append,List.length_cons] at q4; omega
    have q6:(Qai d).length<4294967281:=by rw [List.length_append,List.length_append] at q3; omega
    refine Qah (p:=(((bA (keyB (Tw.mk k nm b d l)++r)).size<4294967281∧[(32:UInt8)]=[sgnA (ByteArray.mk #[(32:UInt8)])]∧∃ (a:List UInt8),∃ (b_1:List UInt8),cutB (sgnA (ByteArray.mk #[(32:UInt8)])) (bA (keyB (Tw.mk k nm b d l)++r)).data.toList=some (a,b_1))∧((bA (cutA (sgnA (ByteArray.mk #[(32:UInt8)])) (bA (keyB (Tw.mk k nm b d l)++r))).snd).size<4294967281∧[(58:UInt8)]=[sgnA (ByteArray.mk #[(58:UInt8)])]∧∃ (a:List UInt8),∃ (b_1:List UInt8),cutB (sgnA (ByteArray.mk #[(58:UInt8)])) (bA (cutA (sgnA (ByteArray.mk #[(32:UInt8)])) (bA (keyB (Tw.mk k nm b d l)++r))).snd).data.toList=some (a,b_1))∧∃ (x1:Unit),(((SubB (sV (bA (cutA (sgnA (ByteArray.mk #[(58:UInt8)])) (bA (cutA (sgnA (ByteArray.mk #[(32:UInt8)])) (bA (keyB (Tw.mk k nm b d l)++r))).snd)).snd)) (sV (bA (Qbo nm b d l r)))∧True)∧(SubB (PV.f (Lf.v (Value.int IntKind.u8 0))) (PV.f (Lf.v (Value.int IntKind.u8 0)))∧SubB (sV (ByteArray.mk #[])) (sV (ByteArray.mk #[]))∧SubB (bV false) (bV false)∧SubB (PV.f (Lf.v (Value.slice none 0 0))) (PV.f (Lf.v (Value.slice none 0 0)))∧SubB (PV.f (Lf.v (Value.slice none 0 0))) (PV.f (Lf.v (Value.slice none 0 0)))∧True)∧True)∧SubB (PV.bp 0 0) (PV.bp 0 0)∧SubB (PV.bp 1 0) (PV.bp 1 0)∧SubB (sV (bA (cutA (sgnA (ByteArray.mk #[(32:UInt8)])) (bA (keyB (Tw.mk k nm b d l)++r))).fst)) (sV (numS k.toNat))∧SubB (sV (bA (cutA (sgnA (ByteArray.mk #[(58:UInt8)])) (bA (cutA (sgnA (ByteArray.mk #[(32:UInt8)])) (bA (keyB (Tw.mk k nm b d l)++r))).snd)).fst)) (sV (numS nm.size))∧True)∧True)∧∀ (z1:Unit),True→((∃ (x2:Nat),(↑x2:Int)≤(255:Int)∧x2≤9223372036854775807∧numS k.toNat=numS x2)∧∃ (x2:Unit),(((SubB (sV (bA (Qbo nm b d l r))) (sV (bA (Qbo nm b d l r)))∧True)∧(SubB (PV.f (Lf.v (Value.int IntKind.u8 0))) (PV.f (Lf.v (Value.int IntKind.u8 0)))∧SubB (sV (ByteArray.mk #[])) (sV (ByteArray.mk #[]))∧SubB (bV false) (bV false)∧SubB (PV.f (Lf.v (Value.slice none 0 0))) (PV.f (Lf.v (Value.slice none 0 0)))∧SubB (PV.f (Lf.v (Value.slice none 0 0))) (PV.f (Lf.v (Value.slice none 0 0)))∧True)∧(SubB (PV.f (Lf.v (Value.int IntKind.u8 (IntKind.u8.wrap (↑(valC (numS k.toNat).data.toList):Int))))) (PV.f (Lf.v (Value.int IntKind.u8 k)))∧SubB (sV (ByteArray.mk #[])) (sV (ByteArray.mk #[]))∧SubB (bV false) (bV false)∧SubB (PV.f (Lf.v (Value.slice none 0 0))) (PV.f (Lf.v (Value.slice none 0 0)))∧SubB (PV.f (Lf.v (Value.slice none 0 0))) (PV.f (Lf.v (Value.slice none 0 0)))∧True)∧True)∧SubB (PV.bp 0 0) (PV.bp 0 0)∧SubB (PV.bp 1 0) (PV.bp 1 0)∧SubB (sV (numS nm.size)) (sV (numS nm.size))∧SubB (PV.bp 2 0) (PV.bp 2 0)∧True)∧True)∧∀ (z2:Unit),True→((∃ (x3:Nat),(↑x3:Int)≤(2147483647:Int)∧x3≤9223372036854775807∧numS nm.size=numS x3)∧((0:Int)≤(↑(valC (numS nm.size).data.toList):Int)∧(↑(valC (numS nm.size).data.toList):Int)<(↑(bA (Qbo nm b d l r)).size:Int)∧(bA (Qbo nm b d l r)).size≤4611686018427387904∧(bA (Qbo nm b d l r)).data.toList.getD (↑(valC (numS nm.size).data.toList):Int).toNat (0:UInt8)=(32:UInt8))∧∃ (x3:Unit),(((SubB (sV (bA (List.drop ((↑(valC (numS nm.size).data.toList):Int).toNat+1) (bA (Qbo nm b d l r)).data.toList))) (sV (bA ((if b=true then [(45:UInt8)] else [])++Qai d++(32:UInt8)::QaY l r)))∧True)∧(SubB (PV.f (Lf.v (Value.int IntKind.u8 0))) (PV.f (Lf.v (Value.int IntKind.u8 0)))∧SubB (sV (ByteArray.mk #[])) (sV (ByteArray.mk #[]))∧SubB (bV false) (bV false)∧SubB (PV.f (Lf.v (Value.slice none 0 0))) (PV.f (Lf.v (Value.slice none 0 0)))∧SubB (PV.f (Lf.v (Value.slice none 0 0))) (PV.f (Lf.v (Value.slice none 0 0)))∧True)∧(SubB (PV.f (Lf.v (Value.int IntKind.u8 k))) (PV.f (Lf.v (Value.int IntKind.u8 k)))∧SubB (sV (bA (List.take (↑(valC (numS nm.size).data.toList):Int).toNat (bA (Qbo nm b d l r)).data.toList))) (sV nm)∧SubB (bV false) (bV false)∧SubB (PV.f (Lf.v (Value.slice none 0 0))) (PV.f (Lf.v (Value.slice none 0 0)))∧SubB (PV.f (Lf.v (Value.slice none 0 0))) (PV.f (Lf.v (Value.slice none 0 0)))∧True)∧True)∧SubB (PV.bp 0 0) (PV.bp 0 0)∧SubB (PV.bp 1 0) (PV.bp 1 0)∧SubB (PV.bp 2 0) (PV.bp 2 0)∧True)∧True)∧∀ (z3:Unit),True→((bA ((if b=true then [(45:UInt8)] else [])++Qai d++(32:UInt8)::QaY l r)).size<4294967281∧[(32:UInt8)]=[sgnA (ByteArray.mk #[(32:UInt8)])]∧∃ (a:List UInt8),∃ (b_1:List UInt8),cutB (sgnA (ByteArray.mk #[(32:UInt8)])) (bA ((if b=true then [(45:UInt8)] else [])++Qai d++(32:UInt8)::QaY l r)).data.toList=some (a,b_1))∧∃ (x4:Nat),(((SubB (sV (bA (cutA (sgnA (ByteArray.mk #[(32:UInt8)])) (bA ((if b=true then [(45:UInt8)] else [])++Qai d++(32:UInt8)::QaY l r))).snd)) (sV (bA (QaY l r)))∧True)∧(SubB (PV.f (Lf.v (Value.int IntKind.u8 0))) (PV.f (Lf.v (Value.int IntKind.u8 0)))∧SubB (sV (ByteArray.mk #[])) (sV (ByteArray.mk #[]))∧SubB (bV false) (bV false)∧SubB (PV.f (Lf.v (Value.slice none 0 0))) (PV.f (Lf.v (Value.slice none 0 0)))∧SubB (PV.f (Lf.v (Value.slice none 0 0))) (PV.f (Lf.v (Value.slice none 0 0)))∧True)∧(SubB (PV.f (Lf.v (Value.int IntKind.u8 k))) (PV.f (Lf.v (Value.int IntKind.u8 k)))∧SubB (sV nm) (sV nm)∧SubB (bV (Lib.hasPrefix (bA (cutA (sgnA (ByteArray.mk #[(32:UInt8)])) (bA ((if b=true then [(45:UInt8)] else [])++Qai d++(32:UInt8)::QaY l r))).fst).data.toList [(45:UInt8)])) (bV b)∧Qbv (PV.tl 3 (Lf.is IntKind.u32 (Qaz (List.take x4 d))))∧SubB (PV.f (Lf.v (Value.slice none 0 0))) (PV.f (Lf.v (Value.slice none 0 0)))∧True)∧True)∧SubB (PV.bp 0 0) (PV.bp 0 0)∧SubB (PV.bp 1 0) (PV.bp 1 0)∧SubB (PV.bp 2 0) (PV.bp 2 0)∧SubB (sV (bA (Lib.trimPrefix (bA (cutA (sgnA (ByteArray.mk #[(32:UInt8)])) (bA ((if b=true then [(45:UInt8)] else [])++Qai d++(32:UInt8)::QaY l r))).fst).data.toList [(45:UInt8)]))) (sV (bA (Qai (List.drop x4 d))))∧True)∧x4≤d.length∧True∧∀ (z5:Nat),z5≤d.length→True→ifB (!(bA (Qai (List.drop z5 d))).toList==(ByteArray.mk #[]).toList) ((bA (Qai (List.drop z5 d))).size<4294967281∧ifB (Lib.cut (bA (Qai (List.drop z5 d))).data.toList [(46:UInt8)]).snd.snd ((∃ (x6:Nat),(↑x6:Int)≤(4294967295:Int)∧x6≤9223372036854775807∧bA (Lib.cut (bA (Qai (List.drop z5 d))).data.toList [(46:UInt8)]).fst=numS x6)∧((Qaz (List.take z5 d)).length+1≤9223372036854775807∧((Qaz (List.take z5 d)).length+1) * 4≤140737488355328)∧∃ (x6:Nat),(((SubB (sV (bA (QaY l r))) (sV (bA (QaY l r)))∧True)∧(SubB (PV.f (Lf.v (Value.int IntKind.u8 0))) (PV.f (Lf.v (Value.int IntKind.u8 0)))∧SubB (sV (ByteArray.mk #[])) (sV (ByteArray.mk #[]))∧SubB (bV false) (bV false)∧SubB (PV.f (Lf.v (Value.slice none 0 0))) (PV.f (Lf.v (Value.slice none 0 0)))∧SubB (PV.f (Lf.v (Value.slice none 0 0))) (PV.f (Lf.v (Value.slice none 0 0)))∧True)∧(SubB (PV.f (Lf.v (Value.int IntKind.u8 k))) (PV.f (Lf.v (Value.int IntKind.u8 k)))∧SubB (sV nm) (sV nm)∧SubB (bV b) (bV b)∧SubB (PV.tl 3 (Lf.is IntKind.u32 (Qaz (List.take z5 d)++[IntKind.u32.wrap (↑(valC (bA (Lib.cut (bA (Qai (List.drop z5 d))).data.toList [(46:UInt8)]).fst).data.toList):Int)]))) (PV.tl 3 (Lf.is IntKind.u32 (Qaz (List.take x6 d))))∧SubB (PV.f (Lf.v (Value.slice none 0 0))) (PV.f (Lf.v (Value.slice none 0 0)))∧True)∧True)∧SubB (PV.bp 0 0) (PV.bp 0 0)∧SubB (PV.bp 1 0) (PV.bp 1 0)∧SubB (PV.bp 2 0) (PV.bp 2 0)∧SubB (sV (bA (Lib.cut (bA (Qai (List.drop z5 d))).data.toList [(46:UInt8)]).snd.fst)) (sV (bA (Qai (List.drop x6 d))))∧True)∧x6≤d.length∧True∧(d.length - x6).succ.le (d.length - z5)) (EndU 1 (Out.need (∃ (t:Tw),∃ (r_1:List UInt8),bA (keyB (Tw.mk k nm b d l)++r)=bA (keyB t++r_1)∧Qau t∧QaD t∧t.fitT∧(bA (keyB (Tw.mk k nm b d l)++r)).size<4294967281∧t.size<n+1) (Out.ret (tmP (Qac (bA (keyB (Tw.mk k nm b d l)++r))).fst) [PO.cells [sV (bA (Qac (bA (keyB (Tw.mk k nm b d l)++r))).snd)]])).fin false (PV.ifc 49 (iV 4)) [PO.cells [sV (bA (QaY l r))],PO.cells [PV.f (Lf.v (Value.int IntKind.u8 0)),sV (ByteArray.mk #[]),bV false,PV.f (Lf.v (Value.slice none 0 0)),PV.f (Lf.v (Value.slice none 0 0))],PO.cells [PV.f (Lf.v (Value.int IntKind.u8 k)),sV nm,bV b,PV.tl 3 (Lf.is IntKind.u32 (Qaz (List.take z5 d))),PV.f (Lf.v (Value.slice none 0 0))],PO.tail 57 1])) ((((bA (QaY l r)).size<4294967281∧[(59:UInt8)]=[sgnA (ByteArray.mk #[(59:UInt8)])]∧∃ (a:List UInt8),∃ (b:List UInt8),cutB (sgnA (ByteArray.mk #[(59:UInt8)])) (bA (QaY l r)).data.toList=some (a,b))∧∃ (x6:Unit),(((SubB (sV (bA (cutA (sgnA (ByteArray.mk #[(59:UInt8)])) (bA (QaY l r))).snd)) (sV (bA (Qad l++r)))∧True)∧(SubB (PV.f (Lf.v (Value.int IntKind.u8 0))) (PV.f (Lf.v (Value.int IntKind.u8 0)))∧SubB (sV (ByteArray.mk #[])) (sV (ByteArray.mk #[]))∧SubB (bV false) (bV false)∧SubB (PV.f (Lf.v (Value.slice none 0 0))) (PV.f (Lf.v (Value.slice none 0 0)))∧SubB (PV.f (Lf.v (Value.slice none 0 0))) (PV.f (Lf.v (Value.slice none 0 0)))∧True)∧(SubB (PV.f (Lf.v (Value.int IntKind.u8 k))) (PV.f (Lf.v (Value.int IntKind.u8 k)))∧SubB (sV nm) (sV nm)∧SubB (bV b) (bV b)∧SubB (PV.tl 3 (Lf.is IntKind.u32 (Qaz (List.take z5 d)))) (PV.tl 3 (Lf.is IntKind.u32 (Qaz d)))∧SubB (PV.f (Lf.v (Value.slice none 0 0))) (PV.f (Lf.v (Value.slice none 0 0)))∧True)∧True)∧SubB (PV.bp 0 0) (PV.bp 0 0)∧SubB (PV.bp 1 0) (PV.bp 1 0)∧SubB (PV.bp 2 0) (PV.bp 2 0)∧SubB (sV (bA (cutA (sgnA (ByteArray.mk #[(59:UInt8)])) (bA (QaY l r))).fst)) (sV (numS l.length))∧True)∧True)∧∀ (z6:Unit),True→(∃ (x7:Nat),(↑x7:Int)≤(2147483647:Int)∧x7≤9223372036854775807∧numS l.length=numS x7)∧∃ (x7:Nat),(((SubB (sV (bA (Qad l++r))) (sV (bA (Qad (List.drop x7 l)++r)))∧True)∧(SubB (PV.f (Lf.v (Value.int IntKind.u8 0))) (PV.f (Lf.v (Value.int IntKind.u8 0)))∧SubB (sV (ByteArray.mk #[])) (sV (ByteArray.mk #[]))∧SubB (bV false) (bV false)∧SubB (PV.f (Lf.v (Value.slice none 0 0))) (PV.f (Lf.v (Value.slice none 0 0)))∧SubB (PV.f (Lf.v (Value.slice none 0 0))) (PV.f (Lf.v (Value.slice none 0 0)))∧True)∧(SubB (PV.f (Lf.v (Value.int IntKind.u8 k))) (PV.f (Lf.v (Value.int IntKind.u8 k)))∧SubB (sV nm) (sV nm)∧SubB (bV b) (bV b)∧SubB (PV.tl 3 (Lf.is IntKind.u32 (Qaz d))) (PV.tl 3 (Lf.is IntKind.u32 (Qaz d)))∧Qbv (PV.tl 4 (Lf.dt Sh.tm (List.take x7 l)))∧True)∧True)∧SubB (PV.bp 0 0) (PV.bp 0 0)∧SubB (PV.bp 1 0) (PV.bp 1 0)∧SubB (PV.bp 2 0) (PV.bp 2 0)∧SubB (iV (↑(valC (numS l.length).data.toList):Int)) (iV (↑l.length:Int))∧SubB (iV 0) (iV (↑x7:Int))∧True)∧x7≤l.length∧True∧∀ (z8:Nat),z8≤l.length→True→ifB (decide ((↑z8:Int)<(↑l.length:Int))) ((((∃ (x9:Tw),∃ (x10:List UInt8),bA (Qad (List.drop z8 l)++r)=bA (keyB x9++x10)∧Qau x9∧QaD x9∧x9.fitT∧(bA (Qad (List.drop z8 l)++r)).size<4294967281∧x9.size.succ.le n)∧((List.take z8 l).length+1≤9223372036854775807∧((List.take z8 l).length+1) * 80≤140737488355328)∧∃ (x9:Nat),(((SubB (sV (bA (Qac (bA (Qad (List.drop z8 l)++r))).snd)) (sV (bA (Qad (List.drop x9 l)++r)))∧True)∧(SubB (PV.f (Lf.v (Value.int IntKind.u8 0))) (PV.f (Lf.v (Value.int IntKind.u8 0)))∧SubB (sV (ByteArray.mk #[])) (sV (ByteArray.mk #[]))∧SubB (bV false) (bV false)∧SubB (PV.f (Lf.v (Value.slice none 0 0))) (PV.f (Lf.v (Value.slice none 0 0)))∧SubB (PV.f (Lf.v (Value.slice none 0 0))) (PV.f (Lf.v (Value.slice none 0 0)))∧True)∧(SubB (PV.f (Lf.v (Value.int IntKind.u8 k))) (PV.f (Lf.v (Value.int IntKind.u8 k)))∧SubB (sV nm) (sV nm)∧SubB (bV b) (bV b)∧SubB (PV.tl 3 (Lf.is IntKind.u32 (Qaz d))) (PV.tl 3 (Lf.is IntKind.u32 (Qaz d)))∧SubB (PV.tl 4 (Lf.dt Sh.tm (List.take z8 l++[Tw.mk (Qac (bA (Qad (List.drop z8 l)++r))).fst.kind (Qac (bA (Qad (List.drop z8 l)++r))).fst.name (Qac (bA (Qad (List.drop z8 l)++r))).fst.neg (Qac (bA (Qad (List.drop z8 l)++r))).fst.digits (Qac (bA (Qad (List.drop z8 l)++r))).fst.kids]))) (PV.tl 4 (Lf.dt Sh.tm (List.take x9 l)))∧True)∧True)∧SubB (PV.bp 0 0) (PV.bp 0 0)∧SubB (PV.bp 1 0) (PV.bp 1 0)∧SubB (PV.bp 2 0) (PV.bp 2 0)∧SubB (iV (↑l.length:Int)) (iV (↑l.length:Int))∧SubB (iV (IntKind.i64.wrap ((↑z8:Int)+(1:Int)))) (iV (↑x9:Int))∧True)∧x9≤l.length∧True∧(l.length - x9).succ.le (l.length - z8))∧((∃ (x9:Tw),∃ (x10:List UInt8),bA (Qad (List.drop z8 l)++r)=bA (keyB x9++x10)∧Qau x9∧QaD x9∧x9.fitT∧(bA (Qad (List.drop z8 l)++r)).size<4294967281∧x9.size.succ.le n)∧((List.take z8 l).length+1≤9223372036854775807∧((List.take z8 l).length+1) * 80≤140737488355328)∧∃ (x9:Nat),(((SubB (sV (bA (Qac (bA (Qad (List.drop z8 l)++r))).snd)) (sV (bA (Qad (List.drop x9 l)++r)))∧True)∧(SubB (PV.f (Lf.v (Value.int IntKind.u8 0))) (PV.f (Lf.v (Value.int IntKind.u8 0)))∧SubB (sV (ByteArray.mk #[])) (sV (ByteArray.mk #[]))∧SubB (bV false) (bV false)∧SubB (PV.f (Lf.v (Value.slice none 0 0))) (PV.f (Lf.v (Value.slice none 0 0)))∧SubB (PV.f (Lf.v (Value.slice none 0 0))) (PV.f (Lf.v (Value.slice none 0 0)))∧True)∧(SubB (PV.f (Lf.v (Value.int IntKind.u8 k))) (PV.f (Lf.v (Value.int IntKind.u8 k)))∧SubB (sV nm) (sV nm)∧SubB (bV b) (bV b)∧SubB (PV.tl 3 (Lf.is IntKind.u32 (Qaz d))) (PV.tl 3 (Lf.is IntKind.u32 (Qaz d)))∧SubB (PV.tl 4 (Lf.dt Sh.tm (List.take z8 l++[Tw.mk (Qac (bA (Qad (List.drop z8 l)++r))).fst.kind (Qac (bA (Qad (List.drop z8 l)++r))).fst.name (Qac (bA (Qad (List.drop z8 l)++r))).fst.neg (Qac (bA (Qad (List.drop z8 l)++r))).fst.digits (Qac (bA (Qad (List.drop z8 l)++r))).fst.kids]))) (PV.tl 4 (Lf.dt Sh.tm (List.take x9 l)))∧True)∧True)∧SubB (PV.bp 0 0) (PV.bp 0 0)∧SubB (PV.bp 1 0) (PV.bp 1 0)∧SubB (PV.bp 2 0) (PV.bp 2 0)∧SubB (iV (↑l.length:Int)) (iV (↑l.length:Int))∧SubB (iV (IntKind.i64.wrap ((↑z8:Int)+(1:Int)))) (iV (↑x9:Int))∧True)∧x9≤l.length∧True∧(l.length - x9).succ.le (l.length - z8))∧(∃ (x9:Tw),∃ (x10:List UInt8),bA (Qad (List.drop z8 l)++r)=bA (keyB x9++x10)∧Qau x9∧QaD x9∧x9.fitT∧(bA (Qad (List.drop z8 l)++r)).size<4294967281∧x9.size.succ.le n)∧(((List.take z8 l).length+1≤9223372036854775807∧((List.take z8 l).length+1) * 80≤140737488355328)∧∃ (x9:Nat),(((SubB (sV (bA (Qac (bA (Qad (List.drop z8 l)++r))).snd)) (sV (bA (Qad (List.drop x9 l)++r)))∧True)∧(SubB (PV.f (Lf.v (Value.int IntKind.u8 0))) (PV.f (Lf.v (Value.int IntKind.u8 0)))∧SubB (sV (ByteArray.mk #[])) (sV (ByteArray.mk #[]))∧SubB (bV false) (bV false)∧SubB (PV.f (Lf.v (Value.slice none 0 0))) (PV.f (Lf.v (Value.slice none 0 0)))∧SubB (PV.f (Lf.v (Value.slice none 0 0))) (PV.f (Lf.v (Value.slice none 0 0)))∧True)∧(SubB (PV.f (Lf.v (Value.int IntKind.u8 k))) (PV.f (Lf.v (Value.int IntKind.u8 k)))∧SubB (sV nm) (sV nm)∧SubB (bV b) (bV b)∧SubB (PV.tl 3 (Lf.is IntKind.u32 (Qaz d))) (PV.tl 3 (Lf.is IntKind.u32 (Qaz d)))∧SubB (PV.tl 4 (Lf.dt Sh.tm (List.take z8 l++[Tw.mk (Qac (bA (Qad (List.drop z8 l)++r))).fst.kind (Qac (bA (Qad (List.drop z8 l)++r))).fst.name (Qac (bA (Qad (List.drop z8 l)++r))).fst.neg (Qac (bA (Qad (List.drop z8 l)++r))).fst.digits (Qac (bA (Qad (List.drop z8 l)++r))).fst.kids]))) (PV.tl 4 (Lf.dt Sh.tm (List.take x9 l)))∧True)∧True)∧SubB (PV.bp 0 0) (PV.bp 0 0)∧SubB (PV.bp 1 0) (PV.bp 1 0)∧SubB (PV.bp 2 0) (PV.bp 2 0)∧SubB (iV (↑l.length:Int)) (iV (↑l.length:Int))∧SubB (iV (IntKind.i64.wrap ((↑z8:Int)+(1:Int)))) (iV (↑x9:Int))∧True)∧x9≤l.length∧True∧(l.length - x9).succ.le (l.length - z8))∧((List.take z8 l).length+1≤9223372036854775807∧((List.take z8 l).length+1) * 80≤140737488355328)∧∃ (x9:Nat),(((SubB (sV (bA (Qac (bA (Qad (List.drop z8 l)++r))).snd)) (sV (bA (Qad (List.drop x9 l)++r)))∧True)∧(SubB (PV.f (Lf.v (Value.int IntKind.u8 0))) (PV.f (Lf.v (Value.int IntKind.u8 0)))∧SubB (sV (ByteArray.mk #[])) (sV (ByteArray.mk #[]))∧SubB (bV false) (bV false)∧SubB (PV.f (Lf.v (Value.slice none 0 0))) (PV.f (Lf.v (Value.slice none 0 0)))∧SubB (PV.f (Lf.v (Value.slice none 0 0))) (PV.f (Lf.v (Value.slice none 0 0)))∧True)∧(SubB (PV.f (Lf.v (Value.int IntKind.u8 k))) (PV.f (Lf.v (Value.int IntKind.u8 k)))∧SubB (sV nm) (sV nm)∧SubB (bV b) (bV b)∧SubB (PV.tl 3 (Lf.is IntKind.u32 (Qaz d))) (PV.tl 3 (Lf.is IntKind.u32 (Qaz d)))∧SubB (PV.tl 4 (Lf.dt Sh.tm (List.take z8 l++[Tw.mk (Qac (bA (Qad (List.drop z8 l)++r))).fst.kind (Qac (bA (Qad (List.drop z8 l)++r))).fst.name (Qac (bA (Qad (List.drop z8 l)++r))).fst.neg (Qac (bA (Qad (List.drop z8 l)++r))).fst.digits (Qac (bA (Qad (List.drop z8 l)++r))).fst.kids]))) (PV.tl 4 (Lf.dt Sh.tm (List.take x9 l)))∧True)∧True)∧SubB (PV.bp 0 0) (PV.bp 0 0)∧SubB (PV.bp 1 0) (PV.bp 1 0)∧SubB (PV.bp 2 0) (PV.bp 2 0)∧SubB (iV (↑l.length:Int)) (iV (↑l.length:Int))∧SubB (iV (IntKind.i64.wrap ((↑z8:Int)+(1:Int)))) (iV (↑x9:Int))∧True)∧x9≤l.length∧True∧(l.length - x9).succ.le (l.length - z8))∧(((∃ (x9:Tw),∃ (x10:List UInt8),bA (Qad (List.drop z8 l)++r)=bA (keyB x9++x10)∧Qau x9∧QaD x9∧x9.fitT∧(bA (Qad (List.drop z8 l)++r)).size<4294967281∧x9.size.succ.le n)∧((List.take z8 l).length+1≤9223372036854775807∧((List.take z8 l).length+1) * 80≤140737488355328)∧∃ (x9:Nat),(((SubB (sV (bA (Qac (bA (Qad (List.drop z8 l)++r))).snd)) (sV (bA (Qad (List.drop x9 l)++r)))∧True)∧(SubB (PV.f (Lf.v (Value.int IntKind.u8 0))) (PV.f (Lf.v (Value.int IntKind.u8 0)))∧SubB (sV (ByteArray.mk #[])) (sV (ByteArray.mk #[]))∧SubB (bV false) (bV false)∧SubB (PV.f (Lf.v (Value.slice none 0 0))) (PV.f (Lf.v (Value.slice none 0 0)))∧SubB (PV.f (Lf.v (Value.slice none 0 0))) (PV.f (Lf.v (Value.slice none 0 0)))∧True)∧(SubB (PV.f (Lf.v (Value.int IntKind.u8 k))) (PV.f (Lf.v (Value.int IntKind.u8 k)))∧SubB (sV nm) (sV nm)∧SubB (bV b) (bV b)∧SubB (PV.tl 3 (Lf.is IntKind.u32 (Qaz d))) (PV.tl 3 (Lf.is IntKind.u32 (Qaz d)))∧SubB (PV.tl 4 (Lf.dt Sh.tm (List.take z8 l++[Tw.mk (Qac (bA (Qad (List.drop z8 l)++r))).fst.kind (Qac (bA (Qad (List.drop z8 l)++r))).fst.name (Qac (bA (Qad (List.drop z8 l)++r))).fst.neg (Qac (bA (Qad (List.drop z8 l)++r))).fst.digits (Qac (bA (Qad (List.drop z8 l)++r))).fst.kids]))) (PV.tl 4 (Lf.dt Sh.tm (List.take x9 l)))∧True)∧True)∧SubB (PV.bp 0 0) (PV.bp 0 0)∧SubB (PV.bp 1 0) (PV.bp 1 0)∧SubB (PV.bp 2 0) (PV.bp 2 0)∧SubB (iV (↑l.length:Int)) (iV (↑l.length:Int))∧SubB (iV (IntKind.i64.wrap ((↑z8:Int)+(1:Int)))) (iV (↑x9:Int))∧True)∧x9≤l.length∧True∧(l.length - x9).succ.le (l.length - z8))∧(∃ (x9:Tw),∃ (x10:List UInt8),bA (Qad (List.drop z8 l)++r)=bA (keyB x9++x10)∧Qau x9∧QaD x9∧x9.fitT∧(bA (Qad (List.drop z8 l)++r)).size<4294967281∧x9.size.succ.le n)∧(((List.take z8 l).length+1≤9223372036854775807∧((List.take z8 l).length+1) * 80≤140737488355328)∧∃ (x9:Nat),(((SubB (sV (bA (Qac (bA (Qad (List.drop z8 l)++r))).snd)) (sV (bA (Qad (List.drop x9 l)++r)))∧True)∧(SubB (PV.f (Lf.v (Value.int IntKind.u8 0))) (PV.f (Lf.v (Value.int IntKind.u8 0)))∧SubB (sV (ByteArray.mk #[])) (sV (ByteArray.mk #[]))∧SubB (bV false) (bV false)∧SubB (PV.f (Lf.v (Value.slice none 0 0))) (PV.f (Lf.v (Value.slice none 0 0)))∧SubB (PV.f (Lf.v (Value.slice none 0 0))) (PV.f (Lf.v (Value.slice none 0 0)))∧True)∧(SubB (PV.f (Lf.v (Value.int IntKind.u8 k))) (PV.f (Lf.v (Value.int IntKind.u8 k)))∧SubB (sV nm) (sV nm)∧SubB (bV b) (bV b)∧SubB (PV.tl 3 (Lf.is IntKind.u32 (Qaz d))) (PV.tl 3 (Lf.is IntKind.u32 (Qaz d)))∧SubB (PV.tl 4 (Lf.dt Sh.tm (List.take z8 l++[Tw.mk (Qac (bA (Qad (List.drop z8 l)++r))).fst.kind (Qac (bA (Qad (List.drop z8 l)++r))).fst.name (Qac (bA (Qad (List.drop z8 l)++r))).fst.neg (Qac (bA (Qad (List.drop z8 l)++r))).fst.digits (Qac (bA (Qad (List.drop z8 l)++r))).fst.kids]))) (PV.tl 4 (Lf.dt Sh.tm (List.take x9 l)))∧True)∧True)∧SubB (PV.bp 0 0) (PV.bp 0 0)∧SubB (PV.bp 1 0) (PV.bp 1 0)∧SubB (PV.bp 2 0) (PV.bp 2 0)∧SubB (iV (↑l.length:Int)) (iV (↑l.length:Int))∧SubB (iV (IntKind.i64.wrap ((↑z8:Int)+(1:Int)))) (iV (↑x9:Int))∧True)∧x9≤l.length∧True∧(l.length - x9).succ.le (l.length - z8))∧((List.take z8 l).length+1≤9223372036854775807∧((List.take z8 l).length+1) * 80≤140737488355328)∧∃ (x9:Nat),(((SubB (sV (bA (Qac (bA (Qad (List.drop z8 l)++r))).snd)) (sV (bA (Qad (List.drop x9 l)++r)))∧True)∧(SubB (PV.f (Lf.v (Value.int IntKind.u8 0))) (PV.f (Lf.v (Value.int IntKind.u8 0)))∧SubB (sV (ByteArray.mk #[])) (sV (ByteArray.mk #[]))∧SubB (bV false) (bV false)∧SubB (PV.f (Lf.v (Value.slice none 0 0))) (PV.f (Lf.v (Value.slice none 0 0)))∧SubB (PV.f (Lf.v (Value.slice none 0 0))) (PV.f (Lf.v (Value.slice none 0 0)))∧True)∧(SubB (PV.f (Lf.v (Value.int IntKind.u8 k))) (PV.f (Lf.v (Value.int IntKind.u8 k)))∧SubB (sV nm) (sV nm)∧SubB (bV b) (bV b)∧SubB (PV.tl 3 (Lf.is IntKind.u32 (Qaz d))) (PV.tl 3 (Lf.is IntKind.u32 (Qaz d)))∧SubB (PV.tl 4 (Lf.dt Sh.tm (List.take z8 l++[Tw.mk (Qac (bA (Qad (List.drop z8 l)++r))).fst.kind (Qac (bA (Qad (List.drop z8 l)++r))).fst.name (Qac (bA (Qad (List.drop z8 l)++r))).fst.neg (Qac (bA (Qad (List.drop z8 l)++r))).fst.digits (Qac (bA (Qad (List.drop z8 l)++r))).fst.kids]))) (PV.tl 4 (Lf.dt Sh.tm (List.take x9 l)))∧True)∧True)∧SubB (PV.bp 0 0) (PV.bp 0 0)∧SubB (PV.bp 1 0) (PV.bp 1 0)∧SubB (PV.bp 2 0) (PV.bp 2 0)∧SubB (iV (↑l.length:Int)) (iV (↑l.length:Int))∧SubB (iV (IntKind.i64.wrap ((↑z8:Int)+(1:Int)))) (iV (↑x9:Int))∧True)∧x9≤l.length∧True∧(l.length - x9).succ.le (l.length - z8))∧(∃ (x9:Tw),∃ (x10:List UInt8),bA (Qad (List.drop z8 l)++r)=bA (keyB x9++x10)∧Qau x9∧QaD x9∧x9.fitT∧(bA (Qad (List.drop z8 l)++r)).size<4294967281∧x9.size.succ.le n)∧((((List.take z8 l).length+1≤9223372036854775807∧((List.take z8 l).length+1) * 80≤140737488355328)∧∃ (x9:Nat),(((SubB (sV (bA (Qac (bA (Qad (List.drop z8 l)++r))).snd)) (sV (bA (Qad (List.drop x9 l)++r)))∧True)∧(SubB (PV.f (Lf.v (Value.int IntKind.u8 0))) (PV.f (Lf.v (Value.int IntKind.u8 0)))∧SubB (sV (ByteArray.mk #[])) (sV (ByteArray.mk #[]))∧SubB (bV false) (bV false)∧SubB (PV.f (Lf.v (Value.slice none 0 0))) (PV.f (Lf.v (Value.slice none 0 0)))∧SubB (PV.f (Lf.v (Value.slice none 0 0))) (PV.f (Lf.v (Value.slice none 0 0)))∧True)∧(SubB (PV.f (Lf.v (Value.int IntKind.u8 k))) (PV.f (Lf.v (Value.int IntKind.u8 k)))∧SubB (sV nm) (sV nm)∧SubB (bV b) (bV b)∧SubB (PV.tl 3 (Lf.is IntKind.u32 (Qaz d))) (PV.tl 3 (Lf.is IntKind.u32 (Qaz d)))∧SubB (PV.tl 4 (Lf.dt Sh.tm (List.take z8 l++[Tw.mk (Qac (bA (Qad (List.drop z8 l)++r))).fst.kind (Qac (bA (Qad (List.drop z8 l)++r))).fst.name (Qac (bA (Qad (List.drop z8 l)++r))).fst.neg (Qac (bA (Qad (List.drop z8 l)++r))).fst.digits (Qac (bA (Qad (List.drop z8 l)++r))).fst.kids]))) (PV.tl 4 (Lf.dt Sh.tm (List.take x9 l)))∧True)∧True)∧SubB (PV.bp 0 0) (PV.bp 0 0)∧SubB (PV.bp 1 0) (PV.bp 1 0)∧SubB (PV.bp 2 0) (PV.bp 2 0)∧SubB (iV (↑l.length:Int)) (iV (↑l.length:Int))∧SubB (iV (IntKind.i64.wrap ((↑z8:Int)+(1:Int)))) (iV (↑x9:Int))∧True)∧x9≤l.length∧True∧(l.length - x9).succ.le (l.length - z8))∧((List.take z8 l).length+1≤9223372036854775807∧((List.take z8 l).length+1) * 80≤140737488355328)∧∃ (x9:Nat),(((SubB (sV (bA (Qac (bA (Qad (List.drop z8 l)++r))).snd)) (sV (bA (Qad (List.drop x9 l)++r)))∧True)∧(SubB (PV.f (Lf.v (Value.int IntKind.u8 0))) (PV.f (Lf.v (Value.int IntKind.u8 0)))∧SubB (sV (ByteArray.mk #[])) (sV (ByteArray.mk #[]))∧SubB (bV false) (bV false)∧SubB (PV.f (Lf.v (Value.slice none 0 0))) (PV.f (Lf.v (Value.slice none 0 0)))∧SubB (PV.f (Lf.v (Value.slice none 0 0))) (PV.f (Lf.v (Value.slice none 0 0)))∧True)∧(SubB (PV.f (Lf.v (Value.int IntKind.u8 k))) (PV.f (Lf.v (Value.int IntKind.u8 k)))∧SubB (sV nm) (sV nm)∧SubB (bV b) (bV b)∧SubB (PV.tl 3 (Lf.is IntKind.u32 (Qaz d))) (PV.tl 3 (Lf.is IntKind.u32 (Qaz d)))∧SubB (PV.tl 4 (Lf.dt Sh.tm (List.take z8 l++[Tw.mk (Qac (bA (Qad (List.drop z8 l)++r))).fst.kind (Qac (bA (Qad (List.drop z8 l)++r))).fst.name (Qac (bA (Qad (List.drop z8 l)++r))).fst.neg (Qac (bA (Qad (List.drop z8 l)++r))).fst.digits (Qac (bA (Qad (List.drop z8 l)++r))).fst.kids]))) (PV.tl 4 (Lf.dt Sh.tm (List.take x9 l)))∧True)∧True)∧SubB (PV.bp 0 0) (PV.bp 0 0)∧SubB (PV.bp 1 0) (PV.bp 1 0)∧SubB (PV.bp 2 0) (PV.bp 2 0)∧SubB (iV (↑l.length:Int)) (iV (↑l.length:Int))∧SubB (iV (IntKind.i64.wrap ((↑z8:Int)+(1:Int)))) (iV (↑x9:Int))∧True)∧x9≤l.length∧True∧(l.length - x9).succ.le (l.length - z8))∧((List.take z8 l).length+1≤9223372036854775807∧((List.take z8 l).length+1) * 80≤140737488355328)∧∃ (x9:Nat),(((SubB (sV (bA (Qac (bA (Qad (List.drop z8 l)++r))).snd)) (sV (bA (Qad (List.drop x9 l)++r)))∧True)∧(SubB (PV.f (Lf.v (Value.int IntKind.u8 0))) (PV.f (Lf.v (Value.int IntKind.u8 0)))∧SubB (sV (ByteArray.mk #[])) (sV (ByteArray.mk #[]))∧SubB (bV false) (bV false)∧SubB (PV.f (Lf.v (Value.slice none 0 0))) (PV.f (Lf.v (Value.slice none 0 0)))∧SubB (PV.f (Lf.v (Value.slice none 0 0))) (PV.f (Lf.v (Value.slice none 0 0)))∧True)∧(SubB (PV.f (Lf.v (Value.int IntKind.u8 k))) (PV.f (Lf.v (Value.int IntKind.u8 k)))∧SubB (sV nm) (sV nm)∧SubB (bV b) (bV b)∧SubB (PV.tl 3 (Lf.is IntKind.u32 (Qaz d))) (PV.tl 3 (Lf.is IntKind.u32 (Qaz d)))∧SubB (PV.tl 4 (Lf.dt Sh.tm (List.take z8 l++[Tw.mk (Qac (bA (Qad (List.drop z8 l)++r))).fst.kind (Qac (bA (Qad (List.drop z8 l)++r))).fst.name (Qac (bA (Qad (List.drop z8 l)++r))).fst.neg (Qac (bA (Qad (List.drop z8 l)++r))).fst.digits (Qac (bA (Qad (List.drop z8 l)++r))).fst.kids]))) (PV.tl 4 (Lf.dt Sh.tm (List.take x9 l)))∧True)∧True)∧SubB (PV.bp 0 0) (PV.bp 0 0)∧SubB (PV.bp 1 0) (PV.bp 1 0)∧SubB (PV.bp 2 0) (PV.bp 2 0)∧SubB (iV (↑l.length:Int)) (iV (↑l.length:Int))∧SubB (iV (IntKind.i64.wrap ((↑z8:Int)+(1:Int)))) (iV (↑x9:Int))∧True)∧x9≤l.length∧True∧(l.length - x9).succ.le (l.length - z8)) (EndU 1 (Out.need (∃ (t:Tw),∃ (r_1:List UInt8),bA (keyB (Tw.mk k nm b d l)++r)=bA (keyB t++r_1)∧Qau t∧QaD t∧t.fitT∧(bA (keyB (Tw.mk k nm b d l)++r)).size<4294967281∧t.size<n+1) (Out.ret (tmP (Qac (bA (keyB (Tw.mk k nm b d l)++r))).fst) [PO.cells [sV (bA (Qac (bA (keyB (Tw.mk k nm b d l)++r))).snd)]])).fin true (PV.agg [PV.f (Lf.v (Value.int IntKind.u8 k)),sV nm,bV b,PV.f (Lf.is IntKind.u32 (Qaz d)),PV.f (Lf.dt Sh.tm (List.take z8 l))]) [PO.cells [sV (bA (Qad (List.drop z8 l)++r))],PO.cells [PV.f (Lf.v (Value.int IntKind.u8 k)),sV nm,bV b,PV.tl 3 (Lf.is IntKind.u32 (Qaz d)),PV.tl 4 (Lf.dt Sh.tm (List.take z8 l))],PO.cells [PV.f (Lf.v (Value.int IntKind.u8 k)),sV nm,bV b,PV.tl 3 (Lf.is IntKind.u32 (Qaz d)),PV.tl 4 (Lf.dt Sh.tm (List.take z8 l))],PO.tail 57 1,PO.tail 28 5]))) ?kr ?_
    case kr=>kernel_rfl
    refine ⟨⟨⟨?s0,⟨?s1,⟨?x0,⟨?x1,?m0⟩⟩⟩⟩,⟨⟨?s2,⟨?s3,⟨?x2,⟨?x3,?m1⟩⟩⟩⟩,⟨?x4,⟨⟨⟨⟨?m2,trivial⟩,⟨⟨.refl _,⟨.refl _,⟨.refl _,⟨.refl _,⟨.refl _,trivial⟩⟩⟩⟩⟩,trivial⟩⟩,⟨.refl _,⟨.refl _,⟨?m3,⟨?m4,trivial⟩⟩⟩⟩⟩,trivial⟩⟩⟩⟩,fun z1=>fun _=>⟨⟨⟨?x5,⟨?s4,⟨?s5,?m5⟩⟩⟩,⟨?x6,⟨⟨⟨⟨.refl _,trivial⟩,⟨⟨.refl _,⟨.refl _,⟨.refl _,⟨.refl _,⟨.refl _,trivial⟩⟩⟩⟩⟩,⟨⟨?m6,⟨.refl _,⟨.refl _,⟨.refl _,⟨.refl _,trivial⟩⟩⟩⟩⟩,trivial⟩⟩⟩,⟨.refl _,⟨.refl _,⟨.refl _,⟨.refl _,trivial⟩⟩⟩⟩⟩,trivial⟩⟩⟩,fun z2=>fun _=>⟨⟨⟨?x7,⟨?s6,⟨?s7,?m7⟩⟩⟩,⟨?s8,⟨?x8,⟨⟨⟨⟨?m8,trivial⟩,⟨⟨.refl _,⟨.refl _,⟨.refl _,⟨.refl _,⟨.refl _,trivial⟩⟩⟩⟩⟩,⟨⟨.refl _,⟨?m9,⟨.refl _,⟨.refl _,⟨.refl _,trivial⟩⟩⟩⟩⟩,trivial⟩⟩⟩,⟨.refl _,⟨.refl _,⟨.refl _,trivial⟩⟩⟩⟩,trivial⟩⟩⟩⟩,fun z3=>fun _=>⟨⟨?s9,⟨?s10,⟨?x9,⟨?x10,?m10⟩⟩⟩⟩,⟨?x11,⟨?s11,⟨?s12,⟨trivial,fun z5=>fun hq0=>fun _=>Qaa.2 ⟨fun hb1=>⟨?s13,Qaa.2 ⟨fun hb2=>⟨⟨?x12,⟨?s14,⟨?s15,?m11⟩⟩⟩,⟨?s16,⟨?x13,⟨⟨⟨⟨.refl _,trivial⟩,⟨⟨.refl _,⟨.refl _,⟨.refl _,⟨.refl _,⟨.refl _,trivial⟩⟩⟩⟩⟩,⟨⟨.refl _,⟨.refl _,⟨.refl _,⟨?m12,⟨.refl _,trivial⟩⟩⟩⟩⟩,trivial⟩⟩⟩,⟨.refl _,⟨.refl _,⟨.refl _,⟨?m13,trivial⟩⟩⟩⟩⟩,⟨?s17,⟨trivial,?m14⟩⟩⟩⟩⟩⟩,fun hb2=>?m15⟩⟩,fun hb1=>⟨⟨⟨?s18,⟨?s19,⟨?x14,⟨?x15,?m16⟩⟩⟩⟩,⟨?x16,⟨⟨⟨⟨?m17,trivial⟩,⟨⟨.refl _,⟨.refl _,⟨.refl _,⟨.refl _,⟨.refl _,trivial⟩⟩⟩⟩⟩,⟨⟨.refl _,⟨.refl _,⟨.refl _,⟨?m18,⟨.refl _,trivial⟩⟩⟩⟩⟩,trivial⟩⟩⟩,⟨.refl _,⟨.refl _,⟨.refl _,⟨?m19,trivial⟩⟩⟩⟩⟩,trivial⟩⟩⟩,fun z6=>fun _=>⟨⟨?x17,⟨?s20,⟨?s21,?m20⟩⟩⟩,⟨?x18,⟨?s22,⟨?s23,⟨trivial,fun z8=>fun hq3=>fun _=>Qaa.2 ⟨fun hb4=>⟨⟨⟨⟨?x19,⟨?x20,⟨?s24,⟨?s25,⟨?s26,⟨?s27,⟨?s28,?m21⟩⟩⟩⟩⟩⟩⟩,⟨?s29,⟨?x21,⟨⟨⟨⟨?m22,trivial⟩,⟨⟨.refl _,⟨.refl _,⟨.refl _,⟨.refl _,⟨.refl _,trivial⟩⟩⟩⟩⟩,⟨⟨.refl _,⟨.refl _,⟨.refl _,⟨.refl _,⟨?m23,trivial⟩⟩⟩⟩⟩,trivial⟩⟩⟩,⟨.refl _,⟨.refl _,⟨.refl _,⟨.refl _,⟨?m24,trivial⟩⟩⟩⟩⟩⟩,⟨?s30,⟨trivial,?m25⟩⟩⟩⟩⟩⟩,⟨⟨⟨?x22,⟨?x23,⟨?s31,⟨?s32,⟨?s33,⟨?s34,⟨?s35,?m26⟩⟩⟩⟩⟩⟩⟩,⟨?s36,⟨?x24,⟨⟨⟨⟨?m27,trivial⟩,⟨⟨.refl _,⟨.refl _,⟨.refl _,⟨.refl _,⟨.refl _,trivial⟩⟩⟩⟩⟩,⟨⟨.refl _,⟨.refl _,⟨.refl _,⟨.refl _,⟨?m28,trivial⟩⟩⟩⟩⟩,trivial⟩⟩⟩,⟨.refl _,⟨.refl _,⟨.refl _,⟨.refl _,⟨?m29,trivial⟩⟩⟩⟩⟩⟩,⟨?s37,⟨trivial,?m30⟩⟩⟩⟩⟩⟩,⟨⟨?x25,⟨?x26,⟨?s38,⟨?s39,⟨?s40,⟨?s41,⟨?s42,?m31⟩⟩⟩⟩⟩⟩⟩,⟨⟨?s43,⟨?x27,⟨⟨⟨⟨?m32,trivial⟩,⟨⟨.refl _,⟨.refl _,⟨.refl _,⟨.refl _,⟨.refl _,trivial⟩⟩⟩⟩⟩,⟨⟨.refl _,⟨.refl _,⟨.refl _,⟨.refl _,⟨?m33,trivial⟩⟩⟩⟩⟩,trivial⟩⟩⟩,⟨.refl _,⟨.refl _,⟨.refl _,⟨.refl _,⟨?m34,trivial⟩⟩⟩⟩⟩⟩,⟨?s44,⟨trivial,?m35⟩⟩⟩⟩⟩,⟨?s45,⟨?x28,⟨⟨⟨⟨?m36,trivial⟩,⟨⟨.refl _,⟨.refl _,⟨.refl _,⟨.refl _,⟨.refl _,trivial⟩⟩⟩⟩⟩,⟨⟨.refl _,⟨.refl _,⟨.refl _,⟨.refl _,⟨?m37,trivial⟩⟩⟩⟩⟩,trivial⟩⟩⟩,⟨.refl _,⟨.refl _,⟨.refl _,⟨.refl _,⟨?m38,trivial⟩⟩⟩⟩⟩⟩,⟨?s46,⟨trivial,?m39⟩⟩⟩⟩⟩⟩⟩⟩⟩,⟨⟨⟨⟨?x29,⟨?x30,⟨?s47,⟨?s48,⟨?s49,⟨?s50,⟨?s51,?m40⟩⟩⟩⟩⟩⟩⟩,⟨?s52,⟨?x31,⟨⟨⟨⟨?m41,trivial⟩,⟨⟨.refl _,⟨.refl _,⟨.refl _,⟨.refl _,⟨.refl _,trivial⟩⟩⟩⟩⟩,⟨⟨.refl _,⟨.refl _,⟨.refl _,⟨.refl _,⟨?m42,trivial⟩⟩⟩⟩⟩,trivial⟩⟩⟩,⟨.refl _,⟨.refl _,⟨.refl _,⟨.refl _,⟨?m43,trivial⟩⟩⟩⟩⟩⟩,⟨?s53,⟨trivial,?m44⟩⟩⟩⟩⟩⟩,⟨⟨?x32,⟨?x33,⟨?s54,⟨?s55,⟨?s56,⟨?s57,⟨?s58,?m45⟩⟩⟩⟩⟩⟩⟩,⟨⟨?s59,⟨?x34,⟨⟨⟨⟨?m46,trivial⟩,⟨⟨.refl _,⟨.refl _,⟨.refl _,⟨.refl _,⟨.refl _,trivial⟩⟩⟩⟩⟩,⟨⟨.refl _,⟨.refl _,⟨.refl _,⟨.refl _,⟨?m47,trivial⟩⟩⟩⟩⟩,trivial⟩⟩⟩,⟨.refl _,⟨.refl _,⟨.refl _,⟨.refl _,⟨?m48,trivial⟩⟩⟩⟩⟩⟩,⟨?s60,⟨trivial,?m49⟩⟩⟩⟩⟩,⟨?s61,⟨?x35,⟨⟨⟨⟨?m50,trivial⟩,⟨⟨.refl _,⟨.refl _,⟨.refl _,⟨.refl _,⟨.refl _,trivial⟩⟩⟩⟩⟩,⟨⟨.refl _,⟨.refl _,⟨.refl _,⟨.refl _,⟨?m51,trivial⟩⟩⟩⟩⟩,trivial⟩⟩⟩,⟨.refl _,⟨.refl _,⟨.refl _,⟨.refl _,⟨?m52,trivial⟩⟩⟩⟩⟩⟩,⟨?s62,⟨trivial,?m53⟩⟩⟩⟩⟩⟩⟩⟩,⟨⟨?x36,⟨?x37,⟨?s63,⟨?s64,⟨?s65,⟨?s66,⟨?s67,?m54⟩⟩⟩⟩⟩⟩⟩,⟨⟨⟨?s68,⟨?x38,⟨⟨⟨⟨?m55,trivial⟩,⟨⟨.refl _,⟨.refl _,⟨.refl _,⟨.refl _,⟨.refl _,trivial⟩⟩⟩⟩⟩,⟨⟨.refl _,⟨.refl _,⟨.refl _,⟨.refl _,⟨?m56,trivial⟩⟩⟩⟩⟩,trivial⟩⟩⟩,⟨.refl _,⟨.refl _,⟨.refl _,⟨.refl _,⟨?m57,trivial⟩⟩⟩⟩⟩⟩,⟨?s69,⟨trivial,?m58⟩⟩⟩⟩⟩,⟨?s70,⟨?x39,⟨⟨⟨⟨?m59,trivial⟩,⟨⟨.refl _,⟨.refl _,⟨.refl _,⟨.refl _,⟨.refl _,trivial⟩⟩⟩⟩⟩,⟨⟨.refl _,⟨.refl _,⟨.refl _,⟨.refl _,⟨?m60,trivial⟩⟩⟩⟩⟩,trivial⟩⟩⟩,⟨.refl _,⟨.refl _,⟨.refl _,⟨.refl _,⟨?m61,trivial⟩⟩⟩⟩⟩⟩,⟨?s71,⟨trivial,?m62⟩⟩⟩⟩⟩⟩,⟨?s72,⟨?x40,⟨⟨⟨⟨?m63,trivial⟩,⟨⟨.refl _,⟨.refl _,⟨.refl _,⟨.refl _,⟨.refl _,trivial⟩⟩⟩⟩⟩,⟨⟨.refl _,⟨.refl _,⟨.refl _,⟨.refl _,⟨?m64,trivial⟩⟩⟩⟩⟩,trivial⟩⟩⟩,⟨.refl _,⟨.refl _,⟨.refl _,⟨.refl _,⟨?m65,trivial⟩⟩⟩⟩⟩⟩,⟨?s73,⟨trivial,?m66⟩⟩⟩⟩⟩⟩⟩⟩⟩,fun hb4=>?m67⟩⟩⟩⟩⟩⟩⟩⟩⟩⟩⟩⟩⟩⟩⟩⟩
    case x0=>exact Lib.decDigits k.toNat
    case x1=>exact Lib.decDigits nm.size++58::Qbo nm b d l r
    case x2=>exact Lib.decDigits nm.size
    case x3=>exact Qbo nm b d l r
    case x4=>exact ()
    case x5=>exact k.toNat
    case x6=>exact ()
    case x7=>exact nm.size
    case x8=>exact ()
    case x9=>exact (if b=true then [45] else [])++Qai d
    case x10=>exact QaY l r
    case x11=>exact 0
    case x12=>exact d.getD z5 0
    case x13=>exact z5+1
    case x14=>exact Lib.decDigits l.length
    case x15=>exact Qad l++r
    case x16=>exact ()
    case x17=>exact l.length
    case x18=>exact 0
    case x19=>exact l.getD z8 Sh.tm.nil
    case x22=>exact l.getD z8 Sh.tm.nil
    case x25=>exact l.getD z8 Sh.tm.nil
    case x29=>exact l.getD z8 Sh.tm.nil
    case x32=>exact l.getD z8 Sh.tm.nil
    case x36=>exact l.getD z8 Sh.tm.nil
    case x20=>exact Qad (l.drop (z8+1))++r
    case x23=>exact Qad (l.drop (z8+1))++r
    case x26=>exact Qad (l.drop (z8+1))++r
    case x30=>exact Qad (l.drop (z8+1))++r
    case x33=>exact Qad (l.drop (z8+1))++r
    case x37=>exact Qad (l.drop (z8+1))++r
    case x21=>exact z8+1
    case x24=>exact z8+1
    case x27=>exact z8+1
    case x28=>exact z8+1
    case x31=>exact z8+1
    case x34=>exact z8+1
    case x35=>exact z8+1
    case x38=>exact z8+1
    case x39=>exact z8+1
    case x40=>exact z8+1
    all_goals try simp only [sg32,sg58,sg59,hA,hB,hC,hD,bA_l,bA_sz,Qh5,Int.toNat_natCast,decide_eq_true_eq,decide_eq_false_iff_not,Int.ofNat_lt,Tw.eta] at *
    case s0=>exact hsz
    case m0=>exact hc0
    case s2=>exact q1
    case m1=>exact hc1
    case m2=>exact .refl _
    case m3=>exact .refl _
    case m4=>exact .refl _
    case s4=>omega
    case s5=>omega
    case m6=>exact Qmu (u8_id k0 k1)
    case s6=>omega
    case s7=>omega
    case s8=>exact ⟨by omega,by unfold Qbo; rw [List.length_append,List.length_cons]; show nm.data.toList.length<_; omega,by omega,nm_get _ _⟩
    case m8=>exact Qjy (congrArg bA (Qnk nm _))
    case m9=>exact Qjy (Qnj nm _)
    case s9=>exact q3
    case m10=>exact hc2
    case s11 =>
     obtain ⟨n1,n2⟩:=Qne b d
     simp only [n1,n2]
     repeat' first | exact SubB.refl _ | exact trivial | exact rfl | refine And.intro ?_ ?_
    case s12=>exact Nat.zero_le _
    case s18=>exact q4
    case m16=>exact hc3
    case m17=>exact .refl _
    case m19=>exact .refl _
    case s20=>omega
    case s21=>omega
    case s22=>repeat' first | exact SubB.refl _ | exact trivial | exact rfl | refine And.intro ?_ ?_
    case s23=>exact Nat.zero_le _
    case s13=>exact Nat.lt_of_le_of_lt (QkO d z5) q6
    case m18 =>
     have hb2:bA (Qai (d.drop z5))=⟨#[]⟩:=by rw [bs_l] at hb1; simpa using hb1
     obtain rfl:=Ql8 hq0 hb2
     rw [List.take_length]; exact .refl _
    case m67 =>
     obtain rfl:z8=l.length:=by omega
     rw [List.drop_length,List.take_length]
     have hra:=Qds (r:=r) (t:=.mk k nm b d l) ⟨⟨⟨k0,k1⟩,hd⟩,hkl⟩ ⟨⟨hnm,hll⟩,hsl⟩
     rw [hra]
     exact QaC (endU rfl (ends hd) rfl rfl rfl)
    case s14 =>
     have hb3:¬ bA (Qai (d.drop z5))=⟨#[]⟩:=by rw [bs_l] at hb1; simpa using hb1
     have:=Qhj hd (QaX hq0 hb3); omega
    case s15 =>
     have hb3:¬ bA (Qai (d.drop z5))=⟨#[]⟩:=by rw [bs_l] at hb1; simpa using hb1
     have:=Qhj hd (QaX hq0 hb3); omega
    case m11 =>
     have hb3:¬ bA (Qai (d.drop z5))=⟨#[]⟩:=by rw [bs_l] at hb1; simpa using hb1
     rw [QdE (QaX hq0 hb3)]; rfl
    case s16=>unfold Qaz; rw [List.length_map,List.length_take]; omega
    case m12 =>
     have hb3:¬ bA (Qai (d.drop z5))=⟨#[]⟩:=by rw [bs_l] at hb1; simpa using hb1
     have hz:=QaX hq0 hb3
     rw [QdE hz]
     dsimp only
     rw [Qbx,u32_id (Qhj hd hz),Qju hz]
     exact .refl _
    case m13 =>
     have hb3:¬ bA (Qai (d.drop z5))=⟨#[]⟩:=by rw [bs_l] at hb1; simpa using hb1
     rw [QdE (QaX hq0 hb3)]; exact .refl _
    case s17 =>
     have hb3:¬ bA (Qai (d.drop z5))=⟨#[]⟩:=by rw [bs_l] at hb1; simpa using hb1
     exact QaX hq0 hb3
    case m14 =>
     have hb3:¬ bA (Qai (d.drop z5))=⟨#[]⟩:=by rw [bs_l] at hb1; simpa using hb1
     have:=QaX hq0 hb3
     exact (by omega:d.length - (z5+1)<d.length - z5)
    case m15 =>
     have hb3:¬ bA (Qai (d.drop z5))=⟨#[]⟩:=by rw [bs_l] at hb1; simpa using hb1
     rw [QdE (QaX hq0 hb3)] at hb2; cases hb2
    all_goals have hra:=Qds (r:=Qad (l.drop (z8+1))++r) (Qhd hb4 hkl) (Qfa hb4 hsl)
    all_goals rw [← Qkt hb4 r] at hra
    all_goals try rw [hra]
    all_goals first
     | exact congrArg bA (Qkt hb4 r)
     | exact Qhd hb4 hkl
     | exact Qfa hb4 hsl
     | exact QaU _ hf4 hb4
     | (rw [List.length_append] at q5 ⊢; have:=Qks l z8; omega)
     | (have:=QjG hb4; simp only [Tw.size] at hn; exact (by omega:(l.getD z8 Sh.tm.nil).size<n))
     | (rw [List.length_take]; omega)
     | exact .refl _
     | exact Qmu (by rw [wJ _ (by omega) (by omega)]; rfl)
     | (rw [Qlo hb4]; exact .refl _)
     | exact hb4
     | exact (by omega:l.length - (z8+1)<l.length - z8)
  · cases hs
end Go.Proofs.YtemhncjjiomppaaGreatDoor
namespace Go.Proofs.YtemhncjjiomppaaGreatDoor
open Go.RowKit
set_option linter.unusedVariables false
set_option maxRecDepth 100000
def Qm8:Spec2
 | [.bp 0 0],[.cells [.f (.v (.string s))]]=>some (.need (∃ t r,s=bA (keyB t++r)∧Qau t∧QaD t∧t.fitT∧s.size<4294967281) (.ret (tmP (Qac s).1) [.cells [sV (bA (Qac s).2)]]))
 | _,_=>none
theorem cRead {E:Env} (hU:Up E) (hT:∀ K w H,E K w H→Tab w) (hM:∀ K w H,E K w H→∃ m,H 0 0=some (.int .i64 m)):Contract2 Tryz.prog E 36 Qm8:=by
 intro xs ob o hs hok
 unfold Qm8 at hs
 split at hs
 · rename_i s
   cases hs
   obtain ⟨⟨t,r,h1,h2,h3,h4,h5⟩,h6⟩:=hok
   have h:=QmQ hU hT hM (t.size+1) [.bp 0 0] [.cells [.f (.v (.string s))]] _ rfl ⟨⟨t,r,h1,h2,h3,h4,h5,Nat.lt_succ_self _⟩,h6⟩
   exact h
 · cases hs
def sOf1:Spec2
 | [.bp 0 0],[.cells [.bp 1 0],.cells [.f (.v (.string s))]]=>some (.need (∃ t,s=bA (keyB t)∧Qau t∧QaD t∧t.fitT∧s.size<4294967281) (.ret (tmP (Qac s).1) [.cells [.bp 1 0],.cells [sV (bA (Qac s).2)]]))
 | _,_=>none
theorem cOf1 {E:Env} (hU:Up E) (hT:∀ K w H,E K w H→Tab w) (hM:∀ K w H,E K w H→∃ m,H 0 0=some (.int .i64 m)):Contract2 Tryz.prog E 35 sOf1:=by
 refine contract2 [] [(36,Qm8),(37,Qf5)] Tryz.ntmps35 Tryz.func35 (by kernel_rfl) (by kernel_rfl) hU trivial ⟨cRead hU hT hM,Qje hU,trivial⟩ ?_
 intro xs ob o hs hok
 unfold sOf1 at hs
 split at hs
 · rename_i s
   cases hs
   obtain ⟨⟨t,rfl,hk,hsh1,hft,hsz⟩,-⟩:=hok
   refine ⟨[.bp 0 0],[],.cons (.refl _) .nil,rfl,fun _ hsh=>?_⟩
   have h0:=hsz
   refine Qah (p:=(∃ (x1:Tw),∃ (x2:List UInt8),bA (keyB t)=bA (keyB x1++x2)∧Qau x1∧QaD x1∧x1.fitT∧(bA (keyB t)).size.succ.le 4294967281)∧ifB ((bA (Qac (bA (keyB t))).snd).toList==(ByteArray.mk #[]).toList) (EndU 2 (Out.need (∃ (t_1:Tw),bA (keyB t)=bA (keyB t_1)∧Qau t_1∧QaD t_1∧t_1.fitT∧(bA (keyB t)).size<4294967281) (Out.ret (tmP (Qac (bA (keyB t))).fst) [PO.cells [PV.bp 1 0],PO.cells [sV (bA (Qac (bA (keyB t))).snd)]])).fin true (PV.agg [PV.f (Lf.v (Value.int IntKind.u8 (Qac (bA (keyB t))).fst.kind)),sV ((Qac (bA (keyB t))).fst.name),bV ((Qac (bA (keyB t))).fst.neg),PV.f (Lf.lr (Qac (bA (keyB t))).fst.digits (Qac (bA (keyB t))).fst.digits.length),PV.f (Lf.dt Sh.tm (Qac (bA (keyB t))).fst.kids)]) [PO.cells [PV.bp 1 0],PO.cells [sV (bA (Qac (bA (keyB t))).snd)],PO.cells [PV.f (Lf.v (Value.int IntKind.u8 (Qac (bA (keyB t))).fst.kind)),sV ((Qac (bA (keyB t))).fst.name),bV ((Qac (bA (keyB t))).fst.neg),PV.f (Lf.lr (Qac (bA (keyB t))).fst.digits (Qac (bA (keyB t))).fst.digits.length),PV.f (Lf.dt Sh.tm (Qac (bA (keyB t))).fst.kids)],PO.cells [PV.f (Lf.v (Value.int IntKind.u8 (Qac (bA (keyB t))).fst.kind)),sV ((Qac (bA (keyB t))).fst.name),bV ((Qac (bA (keyB t))).fst.neg),PV.f (Lf.lr (Qac (bA (keyB t))).fst.digits (Qac (bA (keyB t))).fst.digits.length),PV.f (Lf.dt Sh.tm (Qac (bA (keyB t))).fst.kids)]]) (EndU 2 (Out.need (∃ (t_1:Tw),bA (keyB t)=bA (keyB t_1)∧Qau t_1∧QaD t_1∧t_1.fitT∧(bA (keyB t)).size<4294967281) (Out.ret (tmP (Qac (bA (keyB t))).fst) [PO.cells [PV.bp 1 0],PO.cells [sV (bA (Qac (bA (keyB t))).snd)]])).fin false (PV.ifc 49 (iV 4)) [PO.cells [PV.bp 1 0],PO.cells [sV (bA (Qac (bA (keyB t))).snd)],PO.cells [PV.f (Lf.v (Value.int IntKind.u8 0)),sV (ByteArray.mk #[]),bV false,PV.f (Lf.v (Value.slice none 0 0)),PV.f (Lf.v (Value.slice none 0 0))],PO.cells [PV.f (Lf.v (Value.int IntKind.u8 (Qac (bA (keyB t))).fst.kind)),sV ((Qac (bA (keyB t))).fst.name),bV ((Qac (bA (keyB t))).fst.neg),PV.f (Lf.lr (Qac (bA (keyB t))).fst.digits (Qac (bA (keyB t))).fst.digits.length),PV.f (Lf.dt Sh.tm (Qac (bA (keyB t))).fst.kids)]])) ?kr ?_
   case kr=>kernel_rfl
   refine ⟨⟨?x0,⟨?x1,⟨?s0,⟨?s1,⟨?s2,⟨?s3,?m0⟩⟩⟩⟩⟩⟩,Qaa.2 ⟨fun hb0=>?m1,fun hb0=>?m2⟩⟩
   case x0=>exact t
   case x1=>exact []
   case s0=>rw [List.append_nil]
   case s1=>exact hk
   case s2=>exact hsh1
   case s3=>exact hft
   case m0=>exact hsz
   case m1=>exact QaC (endU rfl (.refl _) rfl rfl rfl)
   case m2 =>
    have:=Qds (r:=[]) hk hsh1
    rw [List.append_nil] at this
    rw [this] at hb0
    dsimp only at hb0
    rw [bs_l] at hb0
    exact absurd rfl (of_decide_eq_false hb0)
 · cases hs
def QgR:Spec2
 | [.fn 35 [] [.bp 0 0]],[.cells [.bp 1 0],.cells [.f (.v (.string s))]]=>some (.need (∃ t,s=bA (keyB t)∧Qau t∧QaD t∧t.fitT∧s.size<4294967281) (.ret (.tup [tmP (Qac s).1,iV 0]) [.cells [.bp 1 0],.cells [sV (bA (Qac s).2)]]))
 | _,_=>none
theorem QnO {E:Env} (hU:Up E) (hT:∀ K w H,E K w H→Tab w) (hM:∀ K w H,E K w H→∃ m,H 0 0=some (.int .i64 m)):Contract2 Tryz.prog E 34 QgR:=by
 refine Qb3 (cf:=71) [] [(35,sOf1)] Tryz.ntmps34 Tryz.func34 rfl (by kernel_rfl) hU trivial ⟨cOf1 hU hT hM,trivial⟩ rfl rfl rfl rfl rfl rfl Tryz.ntmps71 Tryz.func71 rfl rfl rfl rfl rfl rfl rfl (by kernel_rfl) (by kernel_rfl) (by kernel_rfl) ?_
 intro xs ob o hs hok
 unfold QgR at hs
 split at hs
 · rename_i s
   cases hs
   obtain ⟨hneed,-⟩:=hok
   refine ⟨[.fn 35 [] [.bp 0 0]],.cons (.refl _) .nil,rfl,?_⟩
   have h0:=hneed
   obtain ⟨t,e,hk,hsh1,hft,hsz⟩:=hneed
   refine Qah (p:=(∃ (x1:Tw),s=bA (keyB x1)∧Qau x1∧QaD x1∧x1.fitT∧s.size.succ.le 4294967281)∧EndU 2 (Out.need (∃ (t:Tw),s=bA (keyB t)∧Qau t∧QaD t∧t.fitT∧s.size<4294967281) (Out.ret (PV.tup [tmP (Qac s).fst,iV (0:Int)]) [PO.cells [PV.bp 1 0],PO.cells [sV (bA (Qac s).snd)]])).fin true (PV.tup [PV.agg [PV.f (Lf.v (Value.int IntKind.u8 (Qac s).fst.kind)),sV ((Qac s).fst.name),bV ((Qac s).fst.neg),PV.f (Lf.lr (Qac s).fst.digits (Qac s).fst.digits.length),PV.f (Lf.dt Sh.tm (Qac s).fst.kids)],iV 0]) [PO.cells [PV.bp 1 0],PO.cells [sV (bA (Qac s).snd)],PO.cells [PV.f (Lf.v (Value.int IntKind.u8 (Qac s).fst.kind)),sV ((Qac s).fst.name),bV ((Qac s).fst.neg),PV.f (Lf.lr (Qac s).fst.digits (Qac s).fst.digits.length),PV.f (Lf.dt Sh.tm (Qac s).fst.kids)],PO.cells [iV 0]]) ?kr ?_
   case kr=>kernel_rfl
   refine ⟨⟨?x0,⟨?s0,⟨?s1,⟨?s2,⟨?s3,?m0⟩⟩⟩⟩⟩,?m1⟩
   case x0=>exact t
   case s0=>exact e
   case s1=>exact hk
   case s2=>exact hsh1
   case s3=>exact hft
   case m0=>exact hsz
   case m1=>exact QaC (endU rfl (.refl _) rfl rfl rfl)
 · cases hs
def sOfK:Spec
 | [.f (.v (.string s))]=>some (some (∃ t,s=bA (keyB t)∧Qau t∧QaD t∧t.fitT∧s.size<4294967281),.one (.tup [tmP (Qac s).1,bV true]))
 | _=>none
theorem cOfK {E:Env} (hU:Up E) (hT:∀ K w H,E K w H→Tab w) (hM:∀ K w H,E K w H→∃ m,H 0 0=some (.int .i64 m)):Contract Tryz.prog E 9 sOfK:=by
 refine Qak [] [(34,QgR)] Tryz.ntmps9 Tryz.func9 (by kernel_rfl) (by kernel_rfl) hU trivial ⟨QnO hU hT hM,trivial⟩ ?_
 intro xs p r hs hp
 unfold sOfK at hs
 split at hs
 · rename_i s
   cases hs
   obtain ⟨t,e,hk,hsh1,hft,hsz⟩:=hp _ rfl
   refine ⟨[.f (.v (.string s))],[],.cons (.refl _) .nil,rfl,fun _ hsh=>?_⟩
   have h0:=hsz
   refine Qah (p:=(∃ (x1:Tw),s=bA (keyB x1)∧Qau x1∧QaD x1∧x1.fitT∧s.size.succ.le 4294967281)∧true=true∧Sub (PV.tup [PV.agg [PV.f (Lf.v (Value.int IntKind.u8 (Qac s).fst.kind)),sV ((Qac s).fst.name),bV ((Qac s).fst.neg),PV.f (Lf.lr (Qac s).fst.digits (Qac s).fst.digits.length),PV.f (Lf.dt Sh.tm (Qac s).fst.kids)],bV ((0:Int)==(0:Int))]) (PV.tup [PV.agg [PV.f (Lf.v (Value.int IntKind.u8 (Qac s).fst.kind)),sV ((Qac s).fst.name),bV ((Qac s).fst.neg),PV.f (Lf.lr (Qac s).fst.digits (Qac s).fst.digits.length),PV.f (Lf.dt Sh.tm (Qac s).fst.kids)],bV true])) ?kr ?_
   case kr=>kernel_rfl
   refine ⟨⟨?x0,⟨?s0,⟨?s1,⟨?s2,⟨?s3,?m0⟩⟩⟩⟩⟩,⟨rfl,?m1⟩⟩
   case x0=>exact t
   case s0=>exact e
   case s1=>exact hk
   case s2=>exact hsh1
   case s3=>exact hft
   case m0=>exact hsz
   case m1=>exact .refl _
 · cases hs
end Go.Proofs.YtemhncjjiomppaaGreatDoor
