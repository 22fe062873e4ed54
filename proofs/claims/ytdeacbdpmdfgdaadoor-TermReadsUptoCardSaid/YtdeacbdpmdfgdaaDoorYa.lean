/- The reader of terms, of any text: a number, what stands ahead of a sign, a name. -/
import Derived.Test.YtdeacbdpmdfgdaaDoorKu
set_option linter.unusedSimpArgs false
namespace Go.Proofs.YtdeacbdpmdfgdaaDoor
open Go.RowKit
set_option linter.unusedVariables false
set_option maxRecDepth 100000
def errIs (e:Value):Prop:=e=.nilIface∨∃ t p,e=.iface t p
def EX:Env:=fun K w H=>EM K w H∧(∃ e,H 2 0=some e∧errIs e)∧∃ e,H 3 0=some e∧errIs e
theorem EX.up:Up EX:=⟨fun c H w' H' he ⟨h,⟨e,h1,h2⟩,e',h3,h4⟩=>⟨EM.up.go c H w' H' he h,⟨e,he.le _ _ _ h1,h2⟩,e',he.le _ _ _ h3,h4⟩,fun K K' w H hs ⟨h,h1⟩=>⟨EM.up.more K K' w H hs h,h1⟩⟩
theorem EX.tab:∀ K w H,EX K w H→Tab w:=fun K w H h=>EM.tab K w H h.1
theorem EX.max:∀ K w H,EX K w H→∃ m,H 0 0=some (.int .i64 m):=fun K w H h=>EM.max K w H h.1
def ErrsIn (E:Env):Prop:=∀ K w H,E K w H→(∃ e,H 2 0=some e∧errIs e)∧∃ e,H 3 0=some e∧errIs e
theorem EX.errs:ErrsIn EX:=fun _ _ _ h=>h.2
def parO (s:ByteArray):Option Nat:=match Lib.parseUintB 64 s.data.toList with
 | .ok n=>some n
 | _=>none
theorem parM_le {M:Nat}:∀ {l:List UInt8} {a n:Nat},Lib.parseUintM M a l=.ok n→a≤M→n≤M
 | [],a,n,h,ha=>by
  rw [Lib.parseUintM] at h
  cases h; exact ha
 | c::l,a,n,h,ha=>by
  rw [Lib.parseUintM] at h
  split at h
  · split at h
    · cases h
    · split at h
      · cases h
      · exact parM_le h (by omega)
  · cases h
theorem par_le {s:ByteArray} {n:Nat} (h:parO s=some n):n≤18446744073709551615:=by
 unfold parO at h
 split at h
 · rename_i hc
   cases h
   unfold Lib.parseUintB at hc
   split at hc
   · cases hc
   · exact parM_le hc (Nat.zero_le _)
 · cases h
def sParOk:Spec
 | [.f (.v (.string s)),.f (.v (.int .i64 b)),.f (.v (.int .i64 z))]=>match decide (b=10),decide (z=64) with
  | true,true=>some (some (s.size≤9223372036854775806∧∃ n,parO s=some n),.one (.tup [.f (.v (.int .u64 ((parO s).getD 0))),.f (.v .nilIface)]))
  | _,_=>none
 | _=>none
theorem parO_ok {s:ByteArray} {n:Nat} (h:parO s=some n):Lib.parseUintB 64 s.data.toList=.ok n:=by
 unfold parO at h
 split at h
 · rename_i hc; cases h; exact hc
 · cases h
theorem cParOk {E:Env}:Contract Tryd.prog E 90 sParOk:=by
 intro xs p r hs hp w H vs hfro hE hvs
 unfold sParOk at hs
 split at hs
 · rename_i s b z
   split at hs
   · rename_i hb hz
     cases hs
     obtain ⟨hn,n,hn1⟩:=hp _ rfl
     obtain rfl:=of_decide_eq_true hb
     obtain rfl:=of_decide_eq_true hz
     obtain ⟨v0,v1,v2,rfl⟩:∃ v0 v1 v2,vs=[v0,v1,v2]:=by
      match vs,hvs.1 with
      | [v0,v1,v2],_=>exact ⟨v0,v1,v2,rfl⟩
     have q0:=(hvs.2 0 _ _ rfl rfl).val
     have q1:=(hvs.2 1 _ _ rfl rfl).val
     have q2:=(hvs.2 2 _ _ rfl rfl).val
     subst q0 q1 q2
     refine (Tryd.strconv_ParseUint_10_at64_ok s hn n (parO_ok hn1) w).mono ?_
     rintro e w' ⟨rfl,hw⟩
     rw [hn1]
     have hbel:Below w.heap.size w w':=by
      rcases hw with rfl | rfl
      · exact Below.refl _ _
      · exact Lib.bytesWorld_below _ _ _
     exact ⟨H,_,rfl,ext_same hbel hfro,prs2 (.f (.v _ rfl)) (.f (.v _ rfl))⟩
   · cases hs
 · cases hs
def parV (s:ByteArray):Int:=match Lib.parseUintB 64 s.data.toList with
 | .range=>18446744073709551615
 | _=>0
def sParNo:Spec
 | [.f (.v (.string s)),.f (.v (.int .i64 b)),.f (.v (.int .i64 z))]=>match decide (b=10),decide (z=64) with
  | true,true=>some (some (s.size≤281474976710656∧parO s=none),.one (.tup [.f (.v (.int .u64 (parV s))),.ifc 205 (.ep [])]))
  | _,_=>none
 | _=>none
theorem cParNo {E:Env} (hE:ErrsIn E):Contract Tryd.prog E 90 sParNo:=by
 intro xs p r hs hp w H vs hfro hEn hvs
 unfold sParNo at hs
 split at hs
 · rename_i s b z
   split at hs
   · rename_i hb hz
     cases hs
     obtain ⟨hn,hno⟩:=hp _ rfl
     obtain rfl:=of_decide_eq_true hb
     obtain rfl:=of_decide_eq_true hz
     obtain ⟨v0,v1,v2,rfl⟩:∃ v0 v1 v2,vs=[v0,v1,v2]:=by
      match vs,hvs.1 with
      | [v0,v1,v2],_=>exact ⟨v0,v1,v2,rfl⟩
     have q0:=(hvs.2 0 _ _ rfl rfl).val
     have q1:=(hvs.2 1 _ _ rfl rfl).val
     have q2:=(hvs.2 2 _ _ rfl rfl).val
     subst q0 q1 q2
     obtain ⟨⟨e1,h1,i1⟩,e2,h2,i2⟩:=hE _ _ _ hEn
     cases hc:Lib.parseUintB 64 s.data.toList
     · unfold parO at hno; rw [hc] at hno; cases hno
     · refine (Any.strconv_ParseUint_10_at64_syntax Tryd.laysPu14 s hn hc e1 w (hfro _ _ _ h1) i1).mono ?_
       rintro e w' ⟨N,rfl,-,-,hbel⟩
       have hv:parV s=0:=by unfold parV; rw [hc]
       rw [hv]
       exact ⟨H,_,rfl,ext_same hbel hfro,prs2 (.f (.v _ rfl)) (.ifc (.ep N 0 (fun _=>.nilIface) (fun j hj=>absurd hj (Nat.not_lt_zero j)) (fun j x hx=>by cases hx)))⟩
     · refine (Any.strconv_ParseUint_10_at64_range Tryd.laysPu14 s hn hc e2 w (hfro _ _ _ h2) i2).mono ?_
       rintro e w' ⟨N,rfl,-,-,hbel⟩
       have hv:parV s=18446744073709551615:=by unfold parV; rw [hc]
       rw [hv]
       exact ⟨H,_,rfl,ext_same hbel hfro,prs2 (.f (.v _ rfl)) (.ifc (.ep N 0 (fun _=>.nilIface) (fun j hj=>absurd hj (Nat.not_lt_zero j)) (fun j x hx=>by cases hx)))⟩
   · cases hs
 · cases hs
theorem num_no {m:Nat} {s:ByteArray} (hm:m≤18446744073709551615) (h:parO s=none):numW m s.data.toList=none:=by
 unfold numW
 refine if_neg fun ⟨h1,h2⟩=>?_
 have h3:=parse_dec (n:=valC s.data.toList) (by omega)
 rw [h1] at h3
 unfold parO at h
 rw [h3] at h
 cases h
theorem num_ok {m n:Nat} {s:ByteArray} (hm:m≤18446744073709551615) (h:parO s=some n):numW m s.data.toList=if n≤m∧numS n=s then some n else none:=by
 have hp:=parO_ok h
 unfold numW
 by_cases hc:Lib.decDigits (valC s.data.toList)=s.data.toList∧valC s.data.toList≤m
 · have h3:=parse_dec (n:=valC s.data.toList) (by omega)
   rw [hc.1,hp] at h3
   cases h3
   have e2:numS (valC s.data.toList)=s:=by
    apply ByteArray.ext
    apply Array.ext'
    exact hc.1
   rw [if_pos hc,if_pos ⟨hc.2,e2⟩]
 · rw [if_neg hc,if_neg]
   rintro ⟨h1,h2⟩
   subst h2
   exact hc ⟨by rw [numS_val]; rfl,by rw [numS_val]; exact h1⟩
def numO (m:Nat) (s:ByteArray):Out:=.nm (Option Nat) (numW m s.data.toList) fun z=>.br z.isSome (.ret (iV (z.getD 0)) []) (.pan (eP 4) [])
theorem numO_no {m:Nat} {s:ByteArray} (h:numW m s.data.toList=none):(numO m s).fin=(false,eP 4,[]):=by
 unfold numO
 rw [h]
 rfl
theorem numO_ok {m n:Nat} {s:ByteArray} (h:numW m s.data.toList=some n):(numO m s).fin=(true,iV n,[]):=by
 unfold numO
 rw [h]
 rfl
def sNumNo:Spec2
 | [.f (.v (.string s)),.f (.v (.int .u64 m))],[]=>some (.need (s.size≤281474976710656∧(0≤m∧m≤9223372036854775807)∧parO s=none) (numO m.toNat s))
 | _,_=>none
theorem cNumNo {E:Env} (hU:Up E) (hE:ErrsIn E):Contract2 Tryd.prog E 68 sNumNo:=by
 refine contract2 [(90,sParNo)] [(44,sMust)] Tryd.ntmps68 Tryd.func68 (by kernel_rfl) (by kernel_rfl) hU ⟨cParNo hE,trivial⟩ ⟨cMust hU,trivial⟩ ?_
 intro xs ob o hs hok
 unfold sNumNo at hs
 split at hs
 · rename_i s m
   cases hs
   obtain ⟨⟨hn,⟨m0,m1⟩,hp⟩,-⟩:=hok
   have e1:=num_no (m:=m.toNat) (by omega) hp
   refine ⟨[.f (.v (.string s)),.f (.v (.int .u64 m))],[],.cons (.refl _) (.cons (.refl _) .nil),rfl,fun _ hsh=>?_⟩
   have h0:=hn
   refine cast_rfl (p:=(s.size≤281474976710656∧parO s=none)∧EndU 0 (Out.need (s.size≤281474976710656∧((0:Int)≤m∧m≤(9223372036854775807:Int))∧parO s=none) (numO m.toNat s)).fin false (PV.ifc 35 (iV 4)) []) ?kr ?_
   case kr=>kernel_rfl
   refine ⟨?s0,?m0⟩
   case s0=>exact ⟨hn,hp⟩
   case m0=>exact endU_need (endU (numO_no e1) (.refl _) rfl rfl (r:=[]) rfl)
 · cases hs
def sNumOk:Spec2
 | [.f (.v (.string s)),.f (.v (.int .u64 m))],[]=>some (.need (s.size≤281474976710656∧(0≤m∧m≤9223372036854775807)∧∃ n,parO s=some n) (numO m.toNat s))
 | _,_=>none
theorem cNumOk {E:Env} (hU:Up E) (hT:∀ K w H,E K w H→Tab w):Contract2 Tryd.prog E 68 sNumOk:=by
 refine contract2 [(90,sParOk),(91,sFmtU)] [(44,sMust)] Tryd.ntmps68 Tryd.func68 (by kernel_rfl) (by kernel_rfl) hU ⟨cParOk,cFmtU hU hT,trivial⟩ ⟨cMust hU,trivial⟩ ?_
 intro xs ob o hs hok
 unfold sNumOk at hs
 split at hs
 · rename_i s m
   cases hs
   obtain ⟨⟨hn,⟨m0,m1⟩,n,hp⟩,-⟩:=hok
   have e1:=num_ok (m:=m.toNat) (by omega) hp
   have e3:=par_le hp
   refine ⟨[.f (.v (.string s)),.f (.v (.int .u64 m))],[],.cons (.refl _) (.cons (.refl _) .nil),rfl,fun _ hsh=>?_⟩
   have h0:=hn
   refine cast_rfl (p:=(s.size≤9223372036854775806∧∃ (n:Nat),parO s=some n)∧ifB (decide ((↑((parO s).getD 0):Int)≤m)) (((0:Int)≤(↑((parO s).getD 0):Int)∧(↑((parO s).getD 0):Int)≤(18446744073709551615:Int))∧ifB ((numS (↑((parO s).getD 0):Int).toNat).toList==s.toList) (EndU 0 (Out.need (s.size≤281474976710656∧((0:Int)≤m∧m≤(9223372036854775807:Int))∧∃ (n:Nat),parO s=some n) (numO m.toNat s)).fin true (iV (IntKind.i64.wrap (↑((parO s).getD 0):Int))) []) (EndU 0 (Out.need (s.size≤281474976710656∧((0:Int)≤m∧m≤(9223372036854775807:Int))∧∃ (n:Nat),parO s=some n) (numO m.toNat s)).fin false (PV.ifc 35 (iV 4)) [])) (EndU 0 (Out.need (s.size≤281474976710656∧((0:Int)≤m∧m≤(9223372036854775807:Int))∧∃ (n:Nat),parO s=some n) (numO m.toNat s)).fin false (PV.ifc 35 (iV 4)) [])) ?kr ?_
   case kr=>kernel_rfl
   refine ⟨⟨?s0,⟨?x0,?m0⟩⟩,ifB_iff.2 ⟨fun hb0=>⟨?s1,ifB_iff.2 ⟨fun hb1=>?m1,fun hb1=>?m2⟩⟩,fun hb0=>?m3⟩⟩
   case x0=>exact n
   all_goals rw [hp] at *
   all_goals try simp only [Option.getD_some,Int.toNat_natCast,decide_eq_true_eq,decide_eq_false_iff_not,bs_l] at *
   case s0=>omega
   case s1=>exact ⟨by omega,by omega⟩
   case m1 =>
    rw [if_pos ⟨by omega,hb1⟩] at e1
    exact endU_need (endU (numO_ok e1) (subB_i (wJ _ (by omega) (by omega))) rfl rfl (r:=[]) rfl)
   case m2 =>
    rw [if_neg fun h=>hb1 h.2] at e1
    exact endU_need (endU (numO_no e1) (.refl _) rfl rfl (r:=[]) rfl)
   case m3 =>
    rw [if_neg fun h=>hb0 (by omega)] at e1
    exact endU_need (endU (numO_no e1) (.refl _) rfl rfl (r:=[]) rfl)
 · cases hs
def sNumX:Spec2
 | [.f (.v (.string s)),.f (.v (.int .u64 m))],[]=>some (.need (s.size≤281474976710656∧0≤m∧m≤9223372036854775807) (numO m.toNat s))
 | _,_=>none
theorem cNumX {E:Env} (hU:Up E) (hT:∀ K w H,E K w H→Tab w) (hE:ErrsIn E):Contract2 Tryd.prog E 68 sNumX:=by
 intro xs ob o hs hok
 unfold sNumX at hs
 split at hs
 · rename_i s m
   cases hs
   obtain ⟨⟨hn,hm⟩,hok'⟩:=hok
   cases hp:parO s with
   | none=>exact cNumNo hU hE [.f (.v (.string s)),.f (.v (.int .u64 m))] [] (.need (s.size≤281474976710656∧(0≤m∧m≤9223372036854775807)∧parO s=none) (numO m.toNat s)) rfl ⟨⟨hn,hm,hp⟩,hok'⟩
   | some n=>exact cNumOk hU hT [.f (.v (.string s)),.f (.v (.int .u64 m))] [] (.need (s.size≤281474976710656∧(0≤m∧m≤9223372036854775807)∧∃ n,parO s=some n) (numO m.toNat s)) rfl ⟨⟨hn,hm,n,hp⟩,hok'⟩
 · cases hs
theorem cutS_of {c:UInt8} {s:ByteArray} {a b:List UInt8} (h:cutB c s.data.toList=some (a,b)):cutA c s=(a,b):=by
 unfold cutA; rw [h]; rfl
theorem by_ok {x:UInt8} (h:((x.toNat:Int)==32)=true):x=32:=by
 have h1:(x.toNat:Int)=32:=by simpa using h
 exact UInt8.toNat_inj.1 (by show x.toNat=32; omega)
theorem by_no {x:UInt8} (h:((x.toNat:Int)==32)=false):¬ x=32:=fun c=>by subst c; revert h; decide
theorem cutB_cases (c:UInt8) (l:List UInt8):cutB c l=none∨∃ p,cutB c l=some p:=by
 cases cutB c l with
 | none=>exact .inl rfl
 | some p=>exact .inr ⟨p,rfl⟩
def untO (p s:ByteArray):Out:=.nm (Option (List UInt8 × List UInt8)) (cutB (sgnA p) s.data.toList) fun z=>.br z.isSome (.ret (sV (bA (z.getD ([],[])).1)) [.cells [sV (bA (z.getD ([],[])).2)]]) (.pan (eP 4) [.cells [sV s]])
theorem untO_ok {p s:ByteArray} {a b:List UInt8} (h:cutB (sgnA p) s.data.toList=some (a,b)):(untO p s).fin=(true,sV (bA a),[.cells [sV (bA b)]]):=by
 unfold untO; rw [h]; rfl
theorem untO_no {p s:ByteArray} (h:cutB (sgnA p) s.data.toList=none):(untO p s).fin=(false,eP 4,[.cells [sV s]]):=by
 unfold untO; rw [h]; rfl
theorem cut_no {p s:ByteArray} (hp:p.data.toList=[sgnA p]) (hc:cutB (sgnA p) s.data.toList=none):Lib.cut s.data.toList p.data.toList=(s.data.toList,[],false):=by
 rw [hp,cut_eq,hc]
def sUntX:Spec2
 | [.bp 0 0,.f (.v (.string p))],[.cells [.f (.v (.string s))]]=>some (.need (s.size<4294967281∧p.data.toList=[sgnA p]) (untO p s))
 | _,_=>none
theorem cUntX {E:Env} (hU:Up E) (hM:∀ K w H,E K w H→∃ m,H 0 0=some (.int .i64 m)):Contract2 Tryd.prog E 67 sUntX:=by
 refine contract2 [(71,sCut)] [(44,sMust)] Tryd.ntmps67 Tryd.func67 (by kernel_rfl) (by kernel_rfl) hU ⟨cCut hM,trivial⟩ ⟨cMust hU,trivial⟩ ?_
 intro xs ob o hs hok
 unfold sUntX at hs
 split at hs
 · rename_i p s
   cases hs
   obtain ⟨⟨hn,hp⟩,-⟩:=hok
   refine ⟨[.bp 0 0,.f (.v (.string p))],[],.cons (.refl _) (.cons (.refl _) .nil),rfl,fun _ hsh=>?_⟩
   have h0:=hn
   refine cast_rfl (p:=s.size<4294967281∧ifB (Lib.cut s.data.toList p.data.toList).snd.snd (EndU 1 (Out.need (s.size<4294967281∧p.data.toList=[sgnA p]) (untO p s)).fin true (sV (bA (Lib.cut s.data.toList p.data.toList).fst)) [PO.cells [sV (bA (Lib.cut s.data.toList p.data.toList).snd.fst)]]) (EndU 1 (Out.need (s.size<4294967281∧p.data.toList=[sgnA p]) (untO p s)).fin false (PV.ifc 35 (iV 4)) [PO.cells [sV s]])) ?kr ?_
   case kr=>kernel_rfl
   refine ⟨?s0,ifB_iff.2 ⟨fun hb0=>?m0,fun hb0=>?m1⟩⟩
   case s0=>exact hn
   all_goals obtain hc | ⟨⟨a,b⟩,hc⟩:=cutB_cases (sgnA p) s.data.toList
   case m0.inl=>rw [cut_no hp hc] at hb0; cases hb0
   case m0.inr=>rw [cut_is hp hc,cutS_of hc]; exact endU_need (endU (untO_ok hc) (.refl _) rfl rfl (r:=[]) rfl)
   case m1.inl=>exact endU_need (endU (untO_no hc) (.refl _) rfl rfl (r:=[]) rfl)
   case m1.inr=>rw [cut_is hp hc] at hb0; cases hb0
 · cases hs
def namO (n:Int) (s:ByteArray):Out:=.br (decide (n<(s.size:Int)) && decide (s.data.toList.getD n.toNat 0=32)) (.ret (sV (bA (s.data.toList.take n.toNat))) [.cells [sV (bA (s.data.toList.drop (n.toNat+1)))]]) (.pan (eP 4) [.cells [sV s]])
theorem namO_ok {n:Int} {s:ByteArray} (h:n<(s.size:Int)) (h':s.data.toList.getD n.toNat 0=32):(namO n s).fin=(true,sV (bA (s.data.toList.take n.toNat)),[.cells [sV (bA (s.data.toList.drop (n.toNat+1)))]]):=by
 unfold namO; rw [decide_eq_true h,decide_eq_true h']; rfl
theorem namO_no {n:Int} {s:ByteArray} (h:¬ (n<(s.size:Int)∧s.data.toList.getD n.toNat 0=32)):(namO n s).fin=(false,eP 4,[.cells [sV s]]):=by
 unfold namO
 rw [show (decide (n<(s.size:Int)) && decide (s.data.toList.getD n.toNat 0=32))=false from by simpa using h]; rfl
def sNamX:Spec2
 | [.bp 0 0,.f (.v (.int .i64 n))],[.cells [.f (.v (.string s))]]=>some (.need (0≤n∧s.size≤4611686018427387904) (namO n s))
 | _,_=>none
theorem cNamX {E:Env} (hU:Up E):Contract2 Tryd.prog E 69 sNamX:=by
 refine contract2 [] [(44,sMust)] Tryd.ntmps69 Tryd.func69 (by kernel_rfl) (by kernel_rfl) hU trivial ⟨cMust hU,trivial⟩ ?_
 intro xs ob o hs hok
 unfold sNamX at hs
 split at hs
 · rename_i n s
   cases hs
   obtain ⟨⟨hn,hn2⟩,-⟩:=hok
   refine ⟨[.bp 0 0,.f (.v (.int .i64 n))],[],.cons (.refl _) (.cons (.refl _) .nil),rfl,fun _ hsh=>?_⟩
   have h0:=hn
   refine cast_rfl (p:=ifB (decide (n<(↑s.size:Int))) (((0:Int)≤n∧n<(↑s.size:Int))∧ifB ((↑(s.data.toList.getD n.toNat (0:UInt8)).toNat:Int)==(32:Int)) (((0:Int)≤(0:Int)∧(0:Int)≤n∧n≤(↑s.size:Int))∧((0:Int)≤IntKind.i64.wrap (n+(1:Int))∧IntKind.i64.wrap (n+(1:Int))≤(↑s.size:Int)∧(↑s.size:Int)≤(↑s.size:Int))∧EndU 1 (Out.need ((0:Int)≤n∧s.size≤4611686018427387904) (namO n s)).fin true (sV (s.extract (Int.toNat (0:Int)) n.toNat)) [PO.cells [sV (s.extract (IntKind.i64.wrap (n+(1:Int))).toNat (↑s.size:Int).toNat)]]) (EndU 1 (Out.need ((0:Int)≤n∧s.size≤4611686018427387904) (namO n s)).fin false (PV.ifc 35 (iV 4)) [PO.cells [sV s]])) (EndU 1 (Out.need ((0:Int)≤n∧s.size≤4611686018427387904) (namO n s)).fin false (PV.ifc 35 (iV 4)) [PO.cells [sV s]])) ?kr ?_
   case kr=>kernel_rfl
   refine ifB_iff.2 ⟨fun hb0=>⟨?s0,ifB_iff.2 ⟨fun hb1=>⟨?s1,⟨?s2,?m0⟩⟩,fun hb1=>?m1⟩⟩,fun hb0=>?m2⟩
   all_goals try simp only [decide_eq_true_eq,decide_eq_false_iff_not] at *
   case s0=>exact ⟨hn,hb0⟩
   case s1=>omega
   case s2=>rw [wJ _ (by omega) (by omega)]; omega
   case m0 =>
    have e:(IntKind.i64.wrap (n+1)).toNat=n.toNat+1:=by rw [wJ _ (by omega) (by omega)]; omega
    rw [e,Int.toNat_natCast,Int.toNat_zero,ex_take,ex_drop]
    exact endU_need (endU (namO_ok hb0 (by_ok hb1)) (.refl _) rfl rfl (r:=[]) rfl)
   case m1=>exact endU_need (endU (namO_no fun h=>by_no hb1 h.2) (.refl _) rfl rfl (r:=[]) rfl)
   case m2=>exact endU_need (endU (namO_no fun h=>hb0 h.1) (.refl _) rfl rfl (r:=[]) rfl)
 · cases hs
end Go.Proofs.YtdeacbdpmdfgdaaDoor
