/- The laws of chapter 4: what they are made of. -/
import Derived.Test.YtdeacbdpmdfgdaaDoorFa
import Derived.Test.YtdeacbdpmdfgdaaDoorTf
import Derived.Test.YtdeacbdpmdfgdaaDoorUa
import Derived.Test.YtdeacbdpmdfgdaaDoorKd
import Derived.Test.YtdeacbdpmdfgdaaDoorUd
import Derived.Test.YtdeacbdpmdfgdaaDoorUp
import Derived.Test.YtdeacbdpmdfgdaaDoorCn
import Derived.Test.YtdeacbdpmdfgdaaDoorNw
set_option linter.unusedSimpArgs false
namespace Go.Proofs.YtdeacbdpmdfgdaaDoor
open Go.RowKit
set_option linter.unusedVariables false
set_option maxRecDepth 100000
def sV4:Spec
 | [.f (.v (.string s))]=>some (none,.one (tmP (varN s)))
 | _=>none
theorem cV4 {E:Env} (hU:Up E):Contract Tryd.prog E 37 sV4:=by
 refine contract_D [] [] Tryd.ntmps37 Tryd.func37 (by kernel_rfl) (by kernel_rfl) hU trivial trivial ?_
 intro xs p r hs hp
 unfold sV4 at hs
 split at hs
 · rename_i s
   cases hs
   refine ⟨[.f (.v (.string s))],[],.cons (.refl _) .nil,rfl,fun _ hsh=>?_⟩
   refine cast_rfl (p:=true=true∧Sub (PV.agg [PV.f (Lf.v (Value.int IntKind.u8 1)),sV s,bV false,PV.f (Lf.v (Value.slice none 0 0)),PV.f (Lf.v (Value.slice none 0 0))]) (PV.agg [PV.f (Lf.v (Value.int IntKind.u8 (varN s).kind)),sV ((varN s).name),bV ((varN s).neg),PV.f (Lf.lr (varN s).digits 0),PV.f (Lf.dt Sh.tm [])])) ?kr ?_
   case kr=>kernel_rfl
   refine ⟨rfl,?m0⟩
   case m0=>exact (tm_sub (t:=varN s) rfl).sub
 · cases hs
def sPlus4:Spec
 | [.f x]=>match dtOf .tm x with
  | some l=>some (none,.one (tmP (.mk 5 ⟨#[]⟩ false [] l)))
  | none=>none
 | _=>none
theorem cPlus4 {E:Env} (hU:Up E):Contract Tryd.prog E 36 sPlus4:=by
 refine contract_D [] [] Tryd.ntmps36 Tryd.func36 (by kernel_rfl) (by kernel_rfl) hU trivial trivial ?_
 intro xs p r hs hp
 unfold sPlus4 at hs
 split at hs
 · rename_i x
   split at hs
   · rename_i l h1
     cases hs
     refine ⟨[.f (.dt .tm l)],[],.cons (dt_sub h1).sub .nil,rfl,fun _ hsh=>?_⟩
     have h0:=h1
     refine cast_rfl (p:=true=true∧Sub (PV.agg [PV.f (Lf.v (Value.int IntKind.u8 5)),sV (ByteArray.mk #[]),bV false,PV.f (Lf.v (Value.slice none 0 0)),PV.f (Lf.dt Sh.tm l)]) (PV.agg [PV.f (Lf.v (Value.int IntKind.u8 (Tw.mk (5:Int) (ByteArray.mk #[]) false [] l).kind)),sV ((Tw.mk (5:Int) (ByteArray.mk #[]) false [] l).name),bV ((Tw.mk (5:Int) (ByteArray.mk #[]) false [] l).neg),PV.f (Lf.lr (Tw.mk (5:Int) (ByteArray.mk #[]) false [] l).digits 0),PV.f (Lf.dt Sh.tm (Tw.mk (5:Int) (ByteArray.mk #[]) false [] l).kids)])) ?kr ?_
     case kr=>kernel_rfl
     refine ⟨rfl,?m0⟩
     case m0=>exact (tm_sub (t:=.mk 5 ⟨#[]⟩ false [] l) rfl).sub
   · cases hs
 · cases hs
def n4List:ByteArray:=⟨#[108,105,115,116]⟩
def n4Pair:ByteArray:=⟨#[112,97,105,114]⟩
def n4Nil:ByteArray:=⟨#[78,73,76]⟩
def n4Cons:ByteArray:=⟨#[67,79,78,83]⟩
def n4PairC:ByteArray:=⟨#[80,65,73,82]⟩
def n4Odd:ByteArray:=⟨#[111,100,100]⟩
def n4C1:ByteArray:=⟨#[67,79,78,83,46,49]⟩
def n4x:ByteArray:=⟨#[120]⟩
def n4y:ByteArray:=⟨#[121]⟩
def lists4:List Dat:=[⟨n4List,[⟨n4Nil,[]⟩,⟨n4Cons,[bInt,n4List]⟩]⟩,⟨n4Pair,[⟨n4PairC,[bBool,n4List,n4Odd]⟩,⟨n4Cons,[bBool]⟩]⟩]
theorem row4_dt {s:Sh} {L:List (List Lf)} {l:List s.T} (hn:L.length=l.length) (h:∀ i,i<l.length→SubL (L.getD i []) (s.cells (l.getD i s.nil))):∀ H v,Rd H v (.row s.k L)→Rd H v (.dt s l):=fun H v hv =>
 hv.seen (k:=s.k) (n:=l.length) (get:=fun i=>L.getD i []) (get':=fun i=>s.cells (l.getD i s.nil)) (by rw [← hn]; rfl) (fun _=>rfl) rfl (fun _=>rfl) (fun _=>trivial) h
def sLists4:Spec
 | []=>some (none,.one (.f (.dt .dat lists4)))
 | _=>none
theorem cLists4 {E:Env} (hU:Up E):Contract Tryd.prog E 39 sLists4:=by
 refine contract_D [] [] Tryd.ntmps39 Tryd.func39 (by kernel_rfl) (by kernel_rfl) hU trivial trivial ?_
 intro xs p r hs hp
 unfold sLists4 at hs
 split at hs
 · cases hs
   refine ⟨[],[],.nil,rfl,fun _ hsh=>?_⟩
   refine cast_rfl (p:=true=true∧Sub (PV.f (Lf.row 2 [[Lf.v (Value.string (ByteArray.mk #[(108:UInt8),(105:UInt8),(115:UInt8),(116:UInt8)])),Lf.row 2 [[Lf.v (Value.string (ByteArray.mk #[(78:UInt8),(73:UInt8),(76:UInt8)])),Lf.v (Value.slice none 0 0)],[Lf.v (Value.string (ByteArray.mk #[(67:UInt8),(79:UInt8),(78:UInt8),(83:UInt8)])),Lf.dt Sh.str [ByteArray.mk #[(105:UInt8),(110:UInt8),(116:UInt8)],ByteArray.mk #[(108:UInt8),(105:UInt8),(115:UInt8),(116:UInt8)]]]]],[Lf.v (Value.string (ByteArray.mk #[(112:UInt8),(97:UInt8),(105:UInt8),(114:UInt8)])),Lf.dt Sh.con [Cn.mk (ByteArray.mk #[(80:UInt8),(65:UInt8),(73:UInt8),(82:UInt8)]) [ByteArray.mk #[(98:UInt8),(111:UInt8),(111:UInt8),(108:UInt8)],ByteArray.mk #[(108:UInt8),(105:UInt8),(115:UInt8),(116:UInt8)],ByteArray.mk #[(111:UInt8),(100:UInt8),(100:UInt8)]],Cn.mk (ByteArray.mk #[(67:UInt8),(79:UInt8),(78:UInt8),(83:UInt8)]) [ByteArray.mk #[(98:UInt8),(111:UInt8),(111:UInt8),(108:UInt8)]]]]])) (PV.f (Lf.dt Sh.dat [Dat.mk n4List [Cn.mk n4Nil [],Cn.mk n4Cons [bInt,n4List]],Dat.mk n4Pair [Cn.mk n4PairC [bBool,n4List,n4Odd],Cn.mk n4Cons [bBool]]]))) ?kr ?_
   case kr=>kernel_rfl
   refine ⟨rfl,?m0⟩
   case m0 =>
    refine (SubB.mk fun H B v hv=>.f ?_:SubB _ (.f (.dt .dat lists4))).sub
    refine row4_dt (s:=.dat) rfl (fun i hi=>?_) H v hv.rd
    match i,hi with
    | 0,_ =>
     refine .cons (fun _ _ h=>h) (.cons (fun H v h=>?_) .nil)
     refine row4_dt (s:=.con) (l:=[⟨n4Nil,[]⟩,⟨n4Cons,[bInt,n4List]⟩]) rfl (fun i hi=>?_) H v h
     match i,hi with
     | 0,_=>exact .cons (fun _ _ h=>h) (.cons (dtOf_rd (s:=.str) rfl) .nil)
     | 1,_=>exact .cons (fun _ _ h=>h) (.cons (fun _ _ h=>h) .nil)
    | 1,_=>exact .cons (fun _ _ h=>h) (.cons (fun _ _ h=>h) .nil)
    | i+2,h=>exact absurd h (by show ¬ i+2<2; omega)
 · cases hs
def great4 (D:List Dat) (L:List Tw):Bool:=decide (capD 300 D > 300) || decide (capTL 3000 L > 3000)
def sGreat4:Spec
 | [.f x,.f y]=>match dtOf .dat x,dtOf .tm y with
  | some D,some L=>some (some (cntD D≤4000000∧cntTL L≤4000000),.nm Bool (great4 D L) bV)
  | _,_=>none
 | _=>none
theorem cGreat4 {E:Env} (hU:Up E):Contract Tryd.prog E 10 sGreat4:=by
 refine contract_D [(34,sDatasOf),(24,sTermsOfN 9000000)] [] Tryd.ntmps10 Tryd.func10 (by kernel_rfl) (by kernel_rfl) hU ⟨cDatasOf hU,(cCntN hU _).2,trivial⟩ trivial ?_
 intro xs p r hs hp
 unfold sGreat4 at hs
 split at hs
 · rename_i x y
   split at hs
   · rename_i D L h1 h2
     cases hs
     obtain ⟨hD,hL⟩:=hp _ rfl
     refine ⟨[.f (.dt .dat D),.f (.dt .tm L)],[],.cons (dt_sub h1).sub (.cons (dt_sub h2).sub .nil),rfl,fun _ hsh=>?_⟩
     have h0:=hD
     refine cast_rfl (p:=(cntD D≤4000000∧(0:Int)≤(300:Int)∧(300:Int)≤(4000000:Int))∧∀ (z1:Int),z1=capD (300:Int) D→ifB (decide (z1 > (300:Int))) (true=true∧Sub (bV true) (bV (great4 D L))) ((2 * szL L+1<9000000∧cntTL L≤4000000∧(-1:Int)≤(3000:Int)∧(3000:Int)≤(4000000:Int))∧∀ (z2:Int),z2=capTL (3000:Int) L→true=true∧Sub (bV (decide (z2 > (3000:Int)))) (bV (great4 D L)))) ?kr ?_
     case kr=>kernel_rfl
     refine ⟨?s0,fun z1=>fun hz1=>ifB_iff.2 ⟨fun hb0=>⟨rfl,?m0⟩,fun hb0=>⟨?s1,fun z2=>fun hz2=>⟨rfl,?m1⟩⟩⟩⟩
     case s0=>exact ⟨hD,by decide,by decide⟩
     case s1=>exact ⟨by have:=cntTL_size L; omega,hL,by decide,by decide⟩
     all_goals subst hz1
     case m0=>refine (subB_b ?_).sub; unfold great4; rw [hb0]; rfl
     case m1=>subst hz2; refine (subB_b ?_).sub; unfold great4; rw [hb0]; rfl
   · cases hs
 · cases hs
theorem great4_no {D:List Dat} {L:List Tw} (h:great4 D L=false):cntD D≤300∧cntTL L≤3000:=by
 simp only [great4,Bool.or_eq_false_iff,decide_eq_false_iff_not] at h
 have h1:=capD_exact D 300 (by omega)
 have h2:=capTL_exact L 3000 (by omega)
 omega
theorem sameT_self4 (t:Tw):sameT t t=true:=sameT_iff.2 rfl
def plus4T (l:List Tw):Tw:=.mk 5 ⟨#[]⟩ false [] l
theorem wake4_sub:substE [n4x,n4y] [varN n4y,varN n4x] (plus4T [varN n4x,varN n4y])=.ok (plus4T [varN n4y,varN n4x]):=by kernel_rfl
theorem wake4_fun:funD lists4 n4C1=some (n4List,n4List):=by kernel_rfl
theorem varN_fit {s:ByteArray} (h:s.size≤4611686018427387904):(varN s).fitT:=⟨h,Nat.zero_le _,Nat.zero_le _,trivial⟩
theorem plus4_fit {l:List Tw} (hl:l.length≤100000000) (h:fitTL l):(plus4T l).fitT:=(Tw.fitT_eq _).2 ⟨by show (0:Nat)≤_; decide,by show (0:Nat)≤_; decide,hl,h⟩
theorem wake4_fit (s t:ByteArray) (h:s.size≤4611686018427387904) (h':t.size≤4611686018427387904):(plus4T [varN s,varN t]).fitT:=plus4_fit (by show (2:Nat)≤_; decide) ⟨varN_fit h,varN_fit h',trivial⟩
theorem one_lr:SubB (.f (.row 1 [[.v (.int .u32 1)]])) (.f (.lr [1] 1)):=⟨fun H B v hv=>.f (rd_view (f:=.row 1 [[.v (.int .u32 1)]]) (k:=1) (n:=1) (get:=fun i=>[[Lf.v (.int .u32 1)]].getD i []) rfl rfl ⟨Nat.le_refl _,fun x hx=>by cases List.mem_singleton.mp hx; decide⟩ (Nat.le_refl _) (fun i hi=>by
 obtain rfl:i=0:=by have:i<1:=hi; omega
 rfl) hv.rd)⟩
def sTrue4:Spec
 | []=>some (none,.one (bV true))
 | _=>none
set_option maxHeartbeats 4000000 in
theorem cAwake4 {E:Env} (hU:Up E) (hT:∀ K w H,E K w H→Tab w):Contract Tryd.prog E 11 sTrue4:=by
 refine contract_D [(37,sV4),(36,sPlus4),(39,sLists4),(35,sSubst),(38,sFun),(40,sSize),(8,sKey),(15,sSameT)] [] Tryd.ntmps11 Tryd.func11 (by kernel_rfl) (by kernel_rfl) hU ⟨cV4 hU,cPlus4 hU,cLists4 hU,cSubst hU,cFun hU,cSize hU,cKey hU hT,cSameT hU,trivial⟩ trivial ?_
 intro xs p r hs hp
 unfold sTrue4 at hs
 split at hs
 · cases hs
   refine ⟨[],[(1000002,.s ⟨Unit,fun _=>⟨[(1,.bp 0 0)],[.cells [.f (.v (.int .u8 2)),.f (.v (.string ⟨#[]⟩)),.f (.v (.bool false)),.f (.lr [1] 1),.f (.v (.slice none 0 0))]]⟩,fun _=>True,fun _=>0⟩)],.nil,rfl,fun _ hsh=>?_⟩
   have h0:=hsh
   refine cast_rfl (p:=(∃ (x1:Unit),(((SubB (PV.f (Lf.v (Value.int IntKind.u8 2))) (PV.f (Lf.v (Value.int IntKind.u8 2)))∧SubB (sV (ByteArray.mk #[])) (sV (ByteArray.mk #[]))∧SubB (bV false) (bV false)∧SubB (PV.f (Lf.row 1 [[Lf.v (Value.int IntKind.u32 1)]])) (PV.f (Lf.lr [1] 1))∧SubB (PV.f (Lf.v (Value.slice none 0 0))) (PV.f (Lf.v (Value.slice none 0 0)))∧True)∧True)∧SubB (PV.bp 0 0) (PV.bp 0 0)∧True)∧True)∧∀ (z1:Unit),True→(((Tw.mk (Tw.mk (5:Int) (ByteArray.mk #[]) false [] [Tw.mk (varN (ByteArray.mk #[(120:UInt8)])).kind (varN (ByteArray.mk #[(120:UInt8)])).name (varN (ByteArray.mk #[(120:UInt8)])).neg (varN (ByteArray.mk #[(120:UInt8)])).digits (varN (ByteArray.mk #[(120:UInt8)])).kids,Tw.mk (varN (ByteArray.mk #[(121:UInt8)])).kind (varN (ByteArray.mk #[(121:UInt8)])).name (varN (ByteArray.mk #[(121:UInt8)])).neg (varN (ByteArray.mk #[(121:UInt8)])).digits (varN (ByteArray.mk #[(121:UInt8)])).kids]).kind (Tw.mk (5:Int) (ByteArray.mk #[]) false [] [Tw.mk (varN (ByteArray.mk #[(120:UInt8)])).kind (varN (ByteArray.mk #[(120:UInt8)])).name (varN (ByteArray.mk #[(120:UInt8)])).neg (varN (ByteArray.mk #[(120:UInt8)])).digits (varN (ByteArray.mk #[(120:UInt8)])).kids,Tw.mk (varN (ByteArray.mk #[(121:UInt8)])).kind (varN (ByteArray.mk #[(121:UInt8)])).name (varN (ByteArray.mk #[(121:UInt8)])).neg (varN (ByteArray.mk #[(121:UInt8)])).digits (varN (ByteArray.mk #[(121:UInt8)])).kids]).name (Tw.mk (5:Int) (ByteArray.mk #[]) false [] [Tw.mk (varN (ByteArray.mk #[(120:UInt8)])).kind (varN (ByteArray.mk #[(120:UInt8)])).name (varN (ByteArray.mk #[(120:UInt8)])).neg (varN (ByteArray.mk #[(120:UInt8)])).digits (varN (ByteArray.mk #[(120:UInt8)])).kids,Tw.mk (varN (ByteArray.mk #[(121:UInt8)])).kind (varN (ByteArray.mk #[(121:UInt8)])).name (varN (ByteArray.mk #[(121:UInt8)])).neg (varN (ByteArray.mk #[(121:UInt8)])).digits (varN (ByteArray.mk #[(121:UInt8)])).kids]).neg (Tw.mk (5:Int) (ByteArray.mk #[]) false [] [Tw.mk (varN (ByteArray.mk #[(120:UInt8)])).kind (varN (ByteArray.mk #[(120:UInt8)])).name (varN (ByteArray.mk #[(120:UInt8)])).neg (varN (ByteArray.mk #[(120:UInt8)])).digits (varN (ByteArray.mk #[(120:UInt8)])).kids,Tw.mk (varN (ByteArray.mk #[(121:UInt8)])).kind (varN (ByteArray.mk #[(121:UInt8)])).name (varN (ByteArray.mk #[(121:UInt8)])).neg (varN (ByteArray.mk #[(121:UInt8)])).digits (varN (ByteArray.mk #[(121:UInt8)])).kids]).digits (Tw.mk (5:Int) (ByteArray.mk #[]) false [] [Tw.mk (varN (ByteArray.mk #[(120:UInt8)])).kind (varN (ByteArray.mk #[(120:UInt8)])).name (varN (ByteArray.mk #[(120:UInt8)])).neg (varN (ByteArray.mk #[(120:UInt8)])).digits (varN (ByteArray.mk #[(120:UInt8)])).kids,Tw.mk (varN (ByteArray.mk #[(121:UInt8)])).kind (varN (ByteArray.mk #[(121:UInt8)])).name (varN (ByteArray.mk #[(121:UInt8)])).neg (varN (ByteArray.mk #[(121:UInt8)])).digits (varN (ByteArray.mk #[(121:UInt8)])).kids]).kids).fitT∧∀ (u:Sh.tm.T),u∈[Tw.mk (varN (ByteArray.mk #[(121:UInt8)])).kind (varN (ByteArray.mk #[(121:UInt8)])).name (varN (ByteArray.mk #[(121:UInt8)])).neg (varN (ByteArray.mk #[(121:UInt8)])).digits (varN (ByteArray.mk #[(121:UInt8)])).kids,Tw.mk (varN (ByteArray.mk #[(120:UInt8)])).kind (varN (ByteArray.mk #[(120:UInt8)])).name (varN (ByteArray.mk #[(120:UInt8)])).neg (varN (ByteArray.mk #[(120:UInt8)])).digits (varN (ByteArray.mk #[(120:UInt8)])).kids]→Tw.fitT u)∧2≤100000000∧2≤100000000)∧∀ (z2:Except Int Tw),z2=substE [ByteArray.mk #[(120:UInt8)],ByteArray.mk #[(121:UInt8)]] [Tw.mk (varN (ByteArray.mk #[(121:UInt8)])).kind (varN (ByteArray.mk #[(121:UInt8)])).name (varN (ByteArray.mk #[(121:UInt8)])).neg (varN (ByteArray.mk #[(121:UInt8)])).digits (varN (ByteArray.mk #[(121:UInt8)])).kids,Tw.mk (varN (ByteArray.mk #[(120:UInt8)])).kind (varN (ByteArray.mk #[(120:UInt8)])).name (varN (ByteArray.mk #[(120:UInt8)])).neg (varN (ByteArray.mk #[(120:UInt8)])).digits (varN (ByteArray.mk #[(120:UInt8)])).kids] (Tw.mk (Tw.mk (5:Int) (ByteArray.mk #[]) false [] [Tw.mk (varN (ByteArray.mk #[(120:UInt8)])).kind (varN (ByteArray.mk #[(120:UInt8)])).name (varN (ByteArray.mk #[(120:UInt8)])).neg (varN (ByteArray.mk #[(120:UInt8)])).digits (varN (ByteArray.mk #[(120:UInt8)])).kids,Tw.mk (varN (ByteArray.mk #[(121:UInt8)])).kind (varN (ByteArray.mk #[(121:UInt8)])).name (varN (ByteArray.mk #[(121:UInt8)])).neg (varN (ByteArray.mk #[(121:UInt8)])).digits (varN (ByteArray.mk #[(121:UInt8)])).kids]).kind (Tw.mk (5:Int) (ByteArray.mk #[]) false [] [Tw.mk (varN (ByteArray.mk #[(120:UInt8)])).kind (varN (ByteArray.mk #[(120:UInt8)])).name (varN (ByteArray.mk #[(120:UInt8)])).neg (varN (ByteArray.mk #[(120:UInt8)])).digits (varN (ByteArray.mk #[(120:UInt8)])).kids,Tw.mk (varN (ByteArray.mk #[(121:UInt8)])).kind (varN (ByteArray.mk #[(121:UInt8)])).name (varN (ByteArray.mk #[(121:UInt8)])).neg (varN (ByteArray.mk #[(121:UInt8)])).digits (varN (ByteArray.mk #[(121:UInt8)])).kids]).name (Tw.mk (5:Int) (ByteArray.mk #[]) false [] [Tw.mk (varN (ByteArray.mk #[(120:UInt8)])).kind (varN (ByteArray.mk #[(120:UInt8)])).name (varN (ByteArray.mk #[(120:UInt8)])).neg (varN (ByteArray.mk #[(120:UInt8)])).digits (varN (ByteArray.mk #[(120:UInt8)])).kids,Tw.mk (varN (ByteArray.mk #[(121:UInt8)])).kind (varN (ByteArray.mk #[(121:UInt8)])).name (varN (ByteArray.mk #[(121:UInt8)])).neg (varN (ByteArray.mk #[(121:UInt8)])).digits (varN (ByteArray.mk #[(121:UInt8)])).kids]).neg (Tw.mk (5:Int) (ByteArray.mk #[]) false [] [Tw.mk (varN (ByteArray.mk #[(120:UInt8)])).kind (varN (ByteArray.mk #[(120:UInt8)])).name (varN (ByteArray.mk #[(120:UInt8)])).neg (varN (ByteArray.mk #[(120:UInt8)])).digits (varN (ByteArray.mk #[(120:UInt8)])).kids,Tw.mk (varN (ByteArray.mk #[(121:UInt8)])).kind (varN (ByteArray.mk #[(121:UInt8)])).name (varN (ByteArray.mk #[(121:UInt8)])).neg (varN (ByteArray.mk #[(121:UInt8)])).digits (varN (ByteArray.mk #[(121:UInt8)])).kids]).digits (Tw.mk (5:Int) (ByteArray.mk #[]) false [] [Tw.mk (varN (ByteArray.mk #[(120:UInt8)])).kind (varN (ByteArray.mk #[(120:UInt8)])).name (varN (ByteArray.mk #[(120:UInt8)])).neg (varN (ByteArray.mk #[(120:UInt8)])).digits (varN (ByteArray.mk #[(120:UInt8)])).kids,Tw.mk (varN (ByteArray.mk #[(121:UInt8)])).kind (varN (ByteArray.mk #[(121:UInt8)])).name (varN (ByteArray.mk #[(121:UInt8)])).neg (varN (ByteArray.mk #[(121:UInt8)])).digits (varN (ByteArray.mk #[(121:UInt8)])).kids]).kids)→6≤4611686018427387904∧∀ (z3:Option (ByteArray × ByteArray)),z3=funD lists4 (ByteArray.mk #[(67:UInt8),(79:UInt8),(78:UInt8),(83:UInt8),(46:UInt8),(49:UInt8)])→3≤4611686018427387904∧ifB (errE z2==(0:Int)) (((Tw.mk (valE Sh.tm.nil z2).kind (valE Sh.tm.nil z2).name (valE Sh.tm.nil z2).neg (valE Sh.tm.nil z2).digits (valE Sh.tm.nil z2).kids).fitT∧(Tw.mk (Tw.mk (5:Int) (ByteArray.mk #[]) false [] [Tw.mk (varN (ByteArray.mk #[(121:UInt8)])).kind (varN (ByteArray.mk #[(121:UInt8)])).name (varN (ByteArray.mk #[(121:UInt8)])).neg (varN (ByteArray.mk #[(121:UInt8)])).digits (varN (ByteArray.mk #[(121:UInt8)])).kids,Tw.mk (varN (ByteArray.mk #[(120:UInt8)])).kind (varN (ByteArray.mk #[(120:UInt8)])).name (varN (ByteArray.mk #[(120:UInt8)])).neg (varN (ByteArray.mk #[(120:UInt8)])).digits (varN (ByteArray.mk #[(120:UInt8)])).kids]).kind (Tw.mk (5:Int) (ByteArray.mk #[]) false [] [Tw.mk (varN (ByteArray.mk #[(121:UInt8)])).kind (varN (ByteArray.mk #[(121:UInt8)])).name (varN (ByteArray.mk #[(121:UInt8)])).neg (varN (ByteArray.mk #[(121:UInt8)])).digits (varN (ByteArray.mk #[(121:UInt8)])).kids,Tw.mk (varN (ByteArray.mk #[(120:UInt8)])).kind (varN (ByteArray.mk #[(120:UInt8)])).name (varN (ByteArray.mk #[(120:UInt8)])).neg (varN (ByteArray.mk #[(120:UInt8)])).digits (varN (ByteArray.mk #[(120:UInt8)])).kids]).name (Tw.mk (5:Int) (ByteArray.mk #[]) false [] [Tw.mk (varN (ByteArray.mk #[(121:UInt8)])).kind (varN (ByteArray.mk #[(121:UInt8)])).name (varN (ByteArray.mk #[(121:UInt8)])).neg (varN (ByteArray.mk #[(121:UInt8)])).digits (varN (ByteArray.mk #[(121:UInt8)])).kids,Tw.mk (varN (ByteArray.mk #[(120:UInt8)])).kind (varN (ByteArray.mk #[(120:UInt8)])).name (varN (ByteArray.mk #[(120:UInt8)])).neg (varN (ByteArray.mk #[(120:UInt8)])).digits (varN (ByteArray.mk #[(120:UInt8)])).kids]).neg (Tw.mk (5:Int) (ByteArray.mk #[]) false [] [Tw.mk (varN (ByteArray.mk #[(121:UInt8)])).kind (varN (ByteArray.mk #[(121:UInt8)])).name (varN (ByteArray.mk #[(121:UInt8)])).neg (varN (ByteArray.mk #[(121:UInt8)])).digits (varN (ByteArray.mk #[(121:UInt8)])).kids,Tw.mk (varN (ByteArray.mk #[(120:UInt8)])).kind (varN (ByteArray.mk #[(120:UInt8)])).name (varN (ByteArray.mk #[(120:UInt8)])).neg (varN (ByteArray.mk #[(120:UInt8)])).digits (varN (ByteArray.mk #[(120:UInt8)])).kids]).digits (Tw.mk (5:Int) (ByteArray.mk #[]) false [] [Tw.mk (varN (ByteArray.mk #[(121:UInt8)])).kind (varN (ByteArray.mk #[(121:UInt8)])).name (varN (ByteArray.mk #[(121:UInt8)])).neg (varN (ByteArray.mk #[(121:UInt8)])).digits (varN (ByteArray.mk #[(121:UInt8)])).kids,Tw.mk (varN (ByteArray.mk #[(120:UInt8)])).kind (varN (ByteArray.mk #[(120:UInt8)])).name (varN (ByteArray.mk #[(120:UInt8)])).neg (varN (ByteArray.mk #[(120:UInt8)])).digits (varN (ByteArray.mk #[(120:UInt8)])).kids]).kids).fitT)∧∀ (z4:Bool),z4=sameT (Tw.mk (valE Sh.tm.nil z2).kind (valE Sh.tm.nil z2).name (valE Sh.tm.nil z2).neg (valE Sh.tm.nil z2).digits (valE Sh.tm.nil z2).kids) (Tw.mk (Tw.mk (5:Int) (ByteArray.mk #[]) false [] [Tw.mk (varN (ByteArray.mk #[(121:UInt8)])).kind (varN (ByteArray.mk #[(121:UInt8)])).name (varN (ByteArray.mk #[(121:UInt8)])).neg (varN (ByteArray.mk #[(121:UInt8)])).digits (varN (ByteArray.mk #[(121:UInt8)])).kids,Tw.mk (varN (ByteArray.mk #[(120:UInt8)])).kind (varN (ByteArray.mk #[(120:UInt8)])).name (varN (ByteArray.mk #[(120:UInt8)])).neg (varN (ByteArray.mk #[(120:UInt8)])).digits (varN (ByteArray.mk #[(120:UInt8)])).kids]).kind (Tw.mk (5:Int) (ByteArray.mk #[]) false [] [Tw.mk (varN (ByteArray.mk #[(121:UInt8)])).kind (varN (ByteArray.mk #[(121:UInt8)])).name (varN (ByteArray.mk #[(121:UInt8)])).neg (varN (ByteArray.mk #[(121:UInt8)])).digits (varN (ByteArray.mk #[(121:UInt8)])).kids,Tw.mk (varN (ByteArray.mk #[(120:UInt8)])).kind (varN (ByteArray.mk #[(120:UInt8)])).name (varN (ByteArray.mk #[(120:UInt8)])).neg (varN (ByteArray.mk #[(120:UInt8)])).digits (varN (ByteArray.mk #[(120:UInt8)])).kids]).name (Tw.mk (5:Int) (ByteArray.mk #[]) false [] [Tw.mk (varN (ByteArray.mk #[(121:UInt8)])).kind (varN (ByteArray.mk #[(121:UInt8)])).name (varN (ByteArray.mk #[(121:UInt8)])).neg (varN (ByteArray.mk #[(121:UInt8)])).digits (varN (ByteArray.mk #[(121:UInt8)])).kids,Tw.mk (varN (ByteArray.mk #[(120:UInt8)])).kind (varN (ByteArray.mk #[(120:UInt8)])).name (varN (ByteArray.mk #[(120:UInt8)])).neg (varN (ByteArray.mk #[(120:UInt8)])).digits (varN (ByteArray.mk #[(120:UInt8)])).kids]).neg (Tw.mk (5:Int) (ByteArray.mk #[]) false [] [Tw.mk (varN (ByteArray.mk #[(121:UInt8)])).kind (varN (ByteArray.mk #[(121:UInt8)])).name (varN (ByteArray.mk #[(121:UInt8)])).neg (varN (ByteArray.mk #[(121:UInt8)])).digits (varN (ByteArray.mk #[(121:UInt8)])).kids,Tw.mk (varN (ByteArray.mk #[(120:UInt8)])).kind (varN (ByteArray.mk #[(120:UInt8)])).name (varN (ByteArray.mk #[(120:UInt8)])).neg (varN (ByteArray.mk #[(120:UInt8)])).digits (varN (ByteArray.mk #[(120:UInt8)])).kids]).digits (Tw.mk (5:Int) (ByteArray.mk #[]) false [] [Tw.mk (varN (ByteArray.mk #[(121:UInt8)])).kind (varN (ByteArray.mk #[(121:UInt8)])).name (varN (ByteArray.mk #[(121:UInt8)])).neg (varN (ByteArray.mk #[(121:UInt8)])).digits (varN (ByteArray.mk #[(121:UInt8)])).kids,Tw.mk (varN (ByteArray.mk #[(120:UInt8)])).kind (varN (ByteArray.mk #[(120:UInt8)])).name (varN (ByteArray.mk #[(120:UInt8)])).neg (varN (ByteArray.mk #[(120:UInt8)])).digits (varN (ByteArray.mk #[(120:UInt8)])).kids]).kids)→ifB z4 ((kindR (Tw.mk (varN (ByteArray.mk #[(120:UInt8)])).kind (varN (ByteArray.mk #[(120:UInt8)])).name (varN (ByteArray.mk #[(120:UInt8)])).neg (varN (ByteArray.mk #[(120:UInt8)])).digits (varN (ByteArray.mk #[(120:UInt8)])).kids)∧(Tw.mk (varN (ByteArray.mk #[(120:UInt8)])).kind (varN (ByteArray.mk #[(120:UInt8)])).name (varN (ByteArray.mk #[(120:UInt8)])).neg (varN (ByteArray.mk #[(120:UInt8)])).digits (varN (ByteArray.mk #[(120:UInt8)])).kids).fitT∧9≤140737488355328)∧ifB ((frR z3).toList==(ByteArray.mk #[(108:UInt8),(105:UInt8),(115:UInt8),(116:UInt8)]).toList) (ifB ((toR z3).toList==(ByteArray.mk #[(108:UInt8),(105:UInt8),(115:UInt8),(116:UInt8)]).toList) (true=true∧Sub (bV z3.isSome) (bV true)) (true=true∧Sub (bV false) (bV true))) (true=true∧Sub (bV false) (bV true))) (true=true∧Sub (bV false) (bV true))) (true=true∧Sub (bV false) (bV true))) ?kr ?_
   case kr=>kernel_rfl
   refine ⟨⟨?x0,⟨⟨⟨⟨.refl _,⟨.refl _,⟨.refl _,⟨?m0,⟨.refl _,trivial⟩⟩⟩⟩⟩,trivial⟩,⟨.refl _,trivial⟩⟩,trivial⟩⟩,fun z1=>fun _=>⟨?s0,fun z2=>fun hz2=>⟨?s1,fun z3=>fun hz3=>⟨?s2,ifB_iff.2 ⟨fun hb0=>⟨?s3,fun z4=>fun hz4=>ifB_iff.2 ⟨fun hb1=>⟨?s4,ifB_iff.2 ⟨fun hb2=>ifB_iff.2 ⟨fun hb3=>⟨rfl,?m1⟩,fun hb3=>⟨rfl,?m2⟩⟩,fun hb2=>⟨rfl,?m3⟩⟩⟩,fun hb1=>⟨rfl,?m4⟩⟩⟩,fun hb0=>⟨rfl,?m5⟩⟩⟩⟩⟩⟩
   all_goals try simp only [Tw.eta] at *
   case x0=>exact ()
   case m0=>exact one_lr
   case s0=>exact ⟨⟨wake4_fit n4x n4y (by decide) (by decide),fun u hu=>by
    rcases List.mem_cons.mp hu with rfl | hu
    · exact varN_fit (by decide)
    · cases List.mem_singleton.mp hu; exact varN_fit (by decide)⟩,by decide,by decide⟩
   case s1=>decide
   case s2=>decide
   all_goals have e2:=hz2.trans wake4_sub
   all_goals subst e2
   all_goals have e3:=hz3.trans wake4_fun
   all_goals subst e3
   case s3=>exact ⟨wake4_fit n4y n4x (by decide) (by decide),wake4_fit n4y n4x (by decide) (by decide)⟩
   case s4=>exact ⟨⟨⟨by decide,fun x hx=>by cases hx⟩,trivial⟩,varN_fit (by decide),by decide⟩
   case m1=>exact .refl _
   case m2=>exact absurd ((beq_self_eq_true n4List.toList).symm.trans hb3) (by decide)
   case m3=>exact absurd ((beq_self_eq_true n4List.toList).symm.trans hb2) (by decide)
   case m4=>exact absurd (hb1.symm.trans (hz4.trans (sameT_self4 _))) (by decide)
   case m5=>exact absurd hb0 (by decide)
 · cases hs
end Go.Proofs.YtdeacbdpmdfgdaaDoor
