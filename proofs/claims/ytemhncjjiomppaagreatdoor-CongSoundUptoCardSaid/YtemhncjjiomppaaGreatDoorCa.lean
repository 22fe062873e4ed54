/- The layer cong: errors, copies, edges. -/
import Derived.Test.YtemhncjjiomppaaGreatDoorFb
import Derived.Test.YtemhncjjiomppaaGreatDoorVt
import Derived.Test.YtemhncjjiomppaaGreatDoorCx
namespace Go.Proofs.YtemhncjjiomppaaGreatDoor
open Go.RowKit
set_option linter.unusedVariables false
set_option maxRecDepth 100000
theorem Qq9 {E:Env} (hU:Up E):Contract2 Tryz.prog E 57 QfL:=by
 refine contract2 [] [] Tryz.ntmps57 Tryz.func57 (by kernel_rfl) (by kernel_rfl) hU trivial trivial ?_
 intro xs ob o hs hok
 unfold QfL at hs
 split at hs
 · rename_i b e
   cases hs
   refine ⟨[.f (.v (.bool b)),.f (.v (.int .i64 e))],[],.cons (.refl _) (.cons (.refl _) .nil),rfl,fun _ _=>?_⟩
   refine Qab (p:=ifB (!b) (EndU 0 (Out.br b (Out.ret (PV.tup []) []) (Out.pan (eP e) [])).fin false (PV.ifc 49 (iV e)) []) (EndU 0 (Out.br b (Out.ret (PV.tup []) []) (Out.pan (eP e) [])).fin true (PV.tup []) [])) ?kr ?_
   case kr=>kernel_rfl
   refine Qaa.2 ⟨fun hb0=>?m0,fun hb0=>?m1⟩
   case m0=>rw [not_t hb0]; exact endU rfl (.refl _) rfl rfl (r:=[]) rfl
   case m1=>rw [not_f hb0]; exact endU rfl (.refl _) rfl rfl (r:=[]) rfl
 · cases hs
theorem QvF {E:Env} (hU:Up E):Contract2 Tryz.prog E 105 Qhb:=by
 refine contract2 [] [] Tryz.ntmps105 Tryz.func105 (by kernel_rfl) (by kernel_rfl) hU trivial trivial ?_
 intro xs ob o hs hok
 unfold Qhb at hs
 split at hs
 · rename_i n l s
   cases hs
   refine ⟨[.agg [.f (.v (.string n)),.f (.dt .con l)],.bp 0 0],[],.cons (.refl _) (.cons (.refl _) .nil),rfl,fun _ hsh=>?_⟩
   refine Qab (p:=EndU 1 (Out.ret (bV (decide (n=s))) [PO.cells [sV s]]).fin true (bV (n.toList==s.toList)) [PO.cells [sV s],PO.cells [sV n,dP Sh.con l]]) ?kr ?_
   case kr=>kernel_rfl
   refine ?m0
   case m0=>exact endU rfl (QaA (bs_l n s)) rfl rfl (r:=[.cells [sV n,.f (.dt .con l)]]) rfl
 · cases hs
def Qh7:Spec2
 | [.f (.dt .dat D),.fn f [] [.bp 0 0]],[.cells [.f (.v (.string s))]]=>match Nat.beq f 105 with
  | true=>some (.ret (iV (anyD D s)) [.cells [sV s]])
  | false=>none
 | _,_=>none
theorem QsK {E:Env} (hU:Up E):Contract2 Tryz.prog E 153 Qh7:=by
 refine contract2 [] [(105,Qhb)] Tryz.ntmps153 Tryz.func153 (by kernel_rfl) (by kernel_rfl) hU trivial ⟨QvF hU,trivial⟩ ?_
 intro xs ob o hs hok
 unfold Qh7 at hs
 split at hs
 · rename_i D f s
   split at hs
   · rename_i hf
     cases hs
     have hf:=Nat.eq_of_beq_eq_true hf
     subst hf
     refine ⟨[.f (.dt .dat D),.fn 105 [] [.bp 0 0]],[(2,.s ⟨Nat,fun i=>⟨[(0,.f (.dt .dat D)),(1,.fn 105 [] [.bp 0 0]),(7,iV D.length),(8,iV i)],[.cells [sV s]]⟩,fun i=>i≤D.length∧∀ k,k<i→¬ (Dat.name (D.getD k Sh.dat.nil)=s),fun i=>D.length - i⟩)],.cons (.refl _) (.cons (.refl _) .nil),rfl,fun _ hsh=>?_⟩
     have hl:=Qay hsh.1
     refine Qab (p:=∃ (x1:Nat),(((rfB (sV s)∧True)∧True)∧rfB (dP Sh.dat D)∧rfB (PV.fn 105 [] [PV.bp 0 0])∧rfB (iV (↑D.length:Int))∧SubB (iV 0) (iV (↑x1:Int))∧True)∧(x1≤D.length∧∀ (k:Nat),k<x1→¬(D.getD k Sh.dat.nil).name=s)∧True∧∀ (z2:Nat),(z2≤D.length∧∀ (k:Nat),k<z2→¬(D.getD k Sh.dat.nil).name=s)→True→ifB (decide ((↑z2:Int)<(↑D.length:Int))) (((0:Int)≤(↑z2:Int)∧(↑z2:Int)<(↑D.length:Int))∧ifB (decide ((D.getD (↑z2:Int).toNat Sh.dat.nil).name=s)) (EndU 1 (Out.ret (iV (anyD D s)) [PO.cells [sV s]]).fin true (iV (↑z2:Int)) [PO.cells [sV s]]) (∃ (x3:Nat),(((rfB (sV s)∧True)∧True)∧rfB (dP Sh.dat D)∧rfB (PV.fn 105 [] [PV.bp 0 0])∧rfB (iV (↑D.length:Int))∧SubB (iV (IntKind.i64.wrap ((↑z2:Int)+(1:Int)))) (iV (↑x3:Int))∧True)∧(x3≤D.length∧∀ (k:Nat),k<x3→¬(D.getD k Sh.dat.nil).name=s)∧True∧(D.length - x3).succ.le (D.length - z2))) (EndU 1 (Out.ret (iV (anyD D s)) [PO.cells [sV s]]).fin true (iV (-1:Int)) [PO.cells [sV s]])) ?kr ?_
     case kr=>kernel_rfl
     refine ⟨?x0,⟨⟨⟨⟨.refl _,trivial⟩,trivial⟩,⟨.refl _,⟨.refl _,⟨.refl _,⟨?m0,trivial⟩⟩⟩⟩⟩,⟨?s0,⟨trivial,fun z2=>fun hq0=>fun _=>Qaa.2 ⟨fun hb1=>⟨?s1,Qaa.2 ⟨fun hb2=>?m1,fun hb2=>⟨?x1,⟨⟨⟨⟨.refl _,trivial⟩,trivial⟩,⟨.refl _,⟨.refl _,⟨.refl _,⟨?m2,trivial⟩⟩⟩⟩⟩,⟨?s2,⟨trivial,?m3⟩⟩⟩⟩⟩⟩,fun hb1=>?m4⟩⟩⟩⟩⟩
     case x0=>exact 0
     case x1=>exact z2+1
     all_goals try simp only [decide_eq_true_eq,decide_eq_false_iff_not] at *
     case m0=>exact .refl _
     case s0=>exact ⟨Nat.zero_le _,fun k hk=>by omega⟩
     case s1=>omega
     case m1=>exact endU rfl (Qai (QcF Sh.dat.nil (by omega) (by simpa using hb2) (fun k hk=>by simpa using hq0.2 k hk)).symm) rfl rfl (r:=[]) rfl
     case m2=>exact Qai (by rw [wJ _ (by omega) (by omega)]; omega)
     case s2 =>
      refine ⟨by omega,fun k hk=>?_⟩
      by_cases hkz:k=z2
      · subst hkz; exact hb2
      · exact hq0.2 k (by omega)
     case m3 => have : D.length - (z2 + 1) < D.length - z2 := by omega
                exact this
     case m4=>exact endU rfl (Qai (Qb1 Sh.dat.nil fun k hk=>by simpa using hq0.2 k (by omega)).symm) rfl rfl (r:=[]) rfl
   · cases hs
 · cases hs
def Qle:Spec2
 | [.f (.dt .dat D),.fn f [] [.bp 0 0]],[.cells [.f (.v (.string s))]]=>match Nat.beq f 105 with
  | true=>some (.ret (bV (decide (0≤anyD D s))) [.cells [sV s]])
  | false=>none
 | _,_=>none
theorem QvI {E:Env} (hU:Up E):Contract2 Tryz.prog E 104 Qle:=by
 refine contract2 [] [(153,Qh7)] Tryz.ntmps104 Tryz.func104 (by kernel_rfl) (by kernel_rfl) hU trivial ⟨QsK hU,trivial⟩ ?_
 intro xs ob o hs hok
 unfold Qle at hs
 split at hs
 · rename_i D f s
   split at hs
   · rename_i hf
     cases hs
     have hf:=Nat.eq_of_beq_eq_true hf
     subst hf
     refine ⟨[.f (.dt .dat D),.fn 105 [] [.bp 0 0]],[],.cons (.refl _) (.cons (.refl _) .nil),rfl,fun _ hsh=>?_⟩
     refine Qab (p:=EndU 1 (Out.ret (bV (decide ((0:Int)≤anyD D s))) [PO.cells [sV s]]).fin true (bV (decide (anyD D s ≥ (0:Int)))) [PO.cells [sV s]]) ?kr ?_
     case kr=>kernel_rfl
     refine ?m0
     case m0=>exact endU rfl (.refl _) rfl rfl (r:=[]) rfl
   · cases hs
 · cases hs
def Qlg:Spec2
 | [.f (.dt .tm l)],[]=>some (.need (l.length≤100000000) (.br (decide (l.length=0)) (.ret (.f (.dt .tm [])) []) (.ret (.wr 0) [.own 28 (.dt .tm l)])))
 | _,_=>none
theorem QvN {E:Env} (hU:Up E):Contract2 Tryz.prog E 152 Qlg:=by
 refine QlH [] [(QmN,fun _ _=>none)] Tryz.ntmps152 Tryz.func152 (by kernel_rfl) (by kernel_rfl) hU trivial ⟨noNil,trivial⟩ ?_
 intro xs ob o hs hok
 unfold Qlg at hs
 split at hs
 · rename_i l
   cases hs
   have hl:=hok.1
   by_cases hl0:l=[]
   · subst hl0
     refine ⟨[.f (.dt .tm [])],[],.cons (.refl _) .nil,rfl,fun hg hsh=>?_⟩
     refine Qab (p:=((0:Nat)=0→QlZ Tryz.prog Tryz.f152.results.toList (0:Nat) (Out.need ((0:Nat)≤100000000) (Out.br (decide ((0:Nat)=0)) (Out.ret (dP Sh.tm []) []) (Out.ret (PV.wr 0) [PO.own 28 (Lf.dt Sh.tm [])]))).fin Exit.ret (PS.mk [(2,nlP),(4,bV true),(4,bV true),(3,dP Sh.tm []),(2,nlP),(0,dP Sh.tm [])] [])∨Ends2 Tryz.prog Tryz.f152.results.toList (0:Nat) (Out.need ((0:Nat)≤100000000) (Out.br (decide ((0:Nat)=0)) (Out.ret (dP Sh.tm []) []) (Out.ret (PV.wr 0) [PO.own 28 (Lf.dt Sh.tm [])]))).fin Exit.ret (PS.mk [(2,nlP),(4,bV true),(4,bV true),(3,dP Sh.tm []),(2,nlP),(0,dP Sh.tm [])] []))∧(0≤9223372036854775807∧0≤140737488355328)∧(QlZ Tryz.prog Tryz.f152.results.toList (0:Nat) (Out.need ((0:Nat)≤100000000) (Out.br (decide ((0:Nat)=0)) (Out.ret (dP Sh.tm []) []) (Out.ret (PV.wr 0) [PO.own 28 (Lf.dt Sh.tm [])]))).fin Exit.ret (PS.mk [(2,PV.wr 0),(7,PV.wr 0),(6,dP Sh.tm []),(5,PV.any),(5+1000000,PV.any),(4,bV false),(4,bV (!true)),(3,dP Sh.tm []),(2,nlP),(0,dP Sh.tm [])] [PO.own 28 (Lf.dt Sh.tm [])])∨Ends2 Tryz.prog Tryz.f152.results.toList (0:Nat) (Out.need ((0:Nat)≤100000000) (Out.br (decide ((0:Nat)=0)) (Out.ret (dP Sh.tm []) []) (Out.ret (PV.wr 0) [PO.own 28 (Lf.dt Sh.tm [])]))).fin Exit.ret (PS.mk [(2,PV.wr 0),(7,PV.wr 0),(6,dP Sh.tm []),(5,PV.any),(5+1000000,PV.any),(4,bV false),(4,bV (!true)),(3,dP Sh.tm []),(2,nlP),(0,dP Sh.tm [])] [PO.own 28 (Lf.dt Sh.tm [])]))) ?kr ?_
     case kr=>kernel_rfl
     refine ⟨fun hq0=>?m0,⟨?s0,?m1⟩⟩
     case m0=>exact Qtl (x:=.f (.v (.slice none 0 0))) (ob:=[]) (by kernel_rfl) (by kernel_rfl) (Qaj (endU (ob:=[]) (r:=[]) (y:=.f (.dt .tm [])) rfl ⟨fun H B v hv=>.f (hv.sval rfl ▸ Qip (x:=.dt .tm []) rfl (fun _=>rfl) trivial)⟩ rfl rfl rfl))
     case s0=>decide
     case m1=>exact endV_F (x:=.f (.dt .tm [])) (ob:=[.gone]) (by kernel_rfl) (by kernel_rfl) (Qaj (endU (ob:=[]) (r:=[.gone]) (y:=.f (.dt .tm [])) rfl (.refl _) rfl rfl rfl))
   · have hl1:decide (l.length=0)=false:=decide_eq_false fun h=>hl0 (List.length_eq_zero_iff.1 h)
     refine ⟨[.f (.dt .tm l)],[],.cons (.refl _) .nil,rfl,fun hg hsh=>?_⟩
     refine Qab (p:=(l.length=0→QlZ Tryz.prog Tryz.f152.results.toList (0:Nat) (Out.need (l.length≤100000000) (Out.br (decide (l.length=0)) (Out.ret (dP Sh.tm []) []) (Out.ret (PV.wr 0) [PO.own 28 (Lf.dt Sh.tm l)]))).fin Exit.ret (PS.mk [(2,nlP),(4,bV true),(4,bV true),(3,dP Sh.tm l),(2,nlP),(0,dP Sh.tm l)] [])∨Ends2 Tryz.prog Tryz.f152.results.toList (0:Nat) (Out.need (l.length≤100000000) (Out.br (decide (l.length=0)) (Out.ret (dP Sh.tm []) []) (Out.ret (PV.wr 0) [PO.own 28 (Lf.dt Sh.tm l)]))).fin Exit.ret (PS.mk [(2,nlP),(4,bV true),(4,bV true),(3,dP Sh.tm l),(2,nlP),(0,dP Sh.tm l)] []))∧(l.length≤9223372036854775807∧l.length * 80≤140737488355328)∧(QlZ Tryz.prog Tryz.f152.results.toList (0:Nat) (Out.need (l.length≤100000000) (Out.br (decide (l.length=0)) (Out.ret (dP Sh.tm []) []) (Out.ret (PV.wr 0) [PO.own 28 (Lf.dt Sh.tm l)]))).fin Exit.ret (PS.mk [(2,PV.wr 0),(7,PV.wr 0),(6,dP Sh.tm l),(5,PV.any),(5+1000000,PV.any),(4,bV false),(4,bV (!true)),(3,dP Sh.tm l),(2,nlP),(0,dP Sh.tm l)] [PO.own 28 (Lf.dt Sh.tm l)])∨Ends2 Tryz.prog Tryz.f152.results.toList (0:Nat) (Out.need (l.length≤100000000) (Out.br (decide (l.length=0)) (Out.ret (dP Sh.tm []) []) (Out.ret (PV.wr 0) [PO.own 28 (Lf.dt Sh.tm l)]))).fin Exit.ret (PS.mk [(2,PV.wr 0),(7,PV.wr 0),(6,dP Sh.tm l),(5,PV.any),(5+1000000,PV.any),(4,bV false),(4,bV (!true)),(3,dP Sh.tm l),(2,nlP),(0,dP Sh.tm l)] [PO.own 28 (Lf.dt Sh.tm l)]))) ?kr ?_
     case kr=>kernel_rfl
     refine ⟨fun hq0=>?m0,⟨?s0,?m1⟩⟩
     case m0=>exact absurd (List.length_eq_zero_iff.1 hq0) hl0
     case s0=>omega
     case m1=>exact Qtl (x:=.wr 0) (ob:=[.own 28 (.dt .tm l)]) (by kernel_rfl) (by kernel_rfl) (Qaj (endU (ob:=[.own 28 (.dt .tm l)]) (r:=[]) (y:=.wr 0) (by
      show (match decide (l.length=0) with | true=>_ | false=>_)=_
      rw [hl1]; rfl) (.refl _) rfl rfl rfl))
 · cases hs
theorem QrL {l:List Tw} {i:Nat} (h:i<l.length):l.set i (l.getD i Sh.tm.nil)=l:=by
 rw [List.getD_eq_getElem?_getD,List.getElem?_eq_getElem h]
 exact List.set_getElem_self h
def QfM (n:Nat):Spec
 | [x]=>match tmOf x with
  | some t=>some (some (t.size<n∧t.fitT),.one (tmP t))
  | none=>none
 | _=>none
theorem Qrb {E:Env} (hU:Up E):∀ n,Contract Tryz.prog E 103 (QfM n)
 | 0=>by
  intro xs p r hs hp
  unfold QfM at hs
  split at hs
  · split at hs
    · cases hs
      exact absurd (hp _ rfl).1 (Nat.not_lt_zero _)
    · cases hs
  · cases hs
 | n+1=>by
  refine Qad [(138,Qmh),(103,QfM n)] [(152,Qlg)] Tryz.ntmps103 Tryz.func103 (by kernel_rfl) (by kernel_rfl) hU ⟨Qtt hU,Qrb hU n,trivial⟩ ⟨QvN hU,trivial⟩ ?_
  intro xs p r hs hp
  unfold QfM at hs
  split at hs
  · rename_i x
    split at hs
    · rename_i t ht
      cases hs
      obtain ⟨hn,hf⟩:=hp _ rfl
      have f2:=(Tw.fitT_eq t).1 hf
      by_cases hk0:t.kids=[]
      · obtain ⟨k,n1,b,d,l⟩:=t
        obtain rfl:l=[]:=hk0
        refine ⟨[tmP (.mk k n1 b d [])],[(3,.s ⟨Unit,fun _=>⟨[(1,.bp 0 0),(2,.bp 1 0),(17,iV 0),(18,iV 0)],[.cells [.f (.v (.int .u8 k)),.f (.v (.string n1)),.f (.v (.bool b)),.f (.lr d d.length),.f (.dt .tm [])],.cells [.f (.v (.int .u8 0)),.f (.v (.string ⟨#[]⟩)),.f (.v (.bool false)),.f (.v (.slice none 0 0)),.f (.v (.slice none 0 0))]]⟩,fun _=>True,fun _=>0⟩)],.cons (QaS ht).sub .nil,rfl,fun _ hsh=>?_⟩
        refine Qab (p:=SameL [PV.bp 0 2,PV.bp 0 3,PV.f (Lf.lr (Tw.mk k n1 b d []).digits (Tw.mk k n1 b d []).digits.length),PV.bp 0 4,dP Sh.tm [],PV.bp 0 2,PV.bp 0 3,PV.bp 0 4] [PV.bp 0 2,PV.bp 0 3,PV.f (Lf.lr (Tw.mk k n1 b d []).digits (Tw.mk k n1 b d []).digits.length),PV.bp 0 4,dP Sh.tm [],PV.bp 0 2,PV.bp 0 3,PV.bp 0 4]∧(Tw.mk k n1 b d []).digits.length≤40000000∧SameL [PV.bp 0 2,PV.bp 0 3,PV.any,PV.bp 0 4,dP Sh.tm [],PV.bp 0 2,PV.bp 0 3,PV.bp 0 4] [PV.bp 0 2,PV.bp 0 3,PV.any,PV.bp 0 4,dP Sh.tm [],PV.bp 0 2,PV.bp 0 3,PV.bp 0 4]∧0≤100000000∧SameL [PV.bp 0 2,PV.bp 0 3,PV.any,PV.bp 0 4,PV.any,PV.bp 0 2,PV.bp 0 3,PV.bp 0 4] [PV.bp 0 2,PV.bp 0 3,PV.any,PV.bp 0 4,PV.any,PV.bp 0 2,PV.bp 0 3,PV.bp 0 4]∧SameL [PV.any,PV.any,PV.any,PV.any,PV.any,PV.bp 0 2,PV.any,PV.bp 0 4] [PV.any,PV.any,PV.any,PV.any,PV.any,PV.bp 0 2,PV.any,PV.bp 0 4]∧SameL [PV.any,PV.any,PV.any,PV.any,PV.any,PV.any,PV.any,PV.any] [PV.any,PV.any,PV.any,PV.any,PV.any,PV.any,PV.any,PV.any]∧∃ (x1:Unit),(((SubB (uV ((Tw.mk k n1 b d []).kind)) (uV k)∧SubB (sV ((Tw.mk k n1 b d []).name)) (sV n1)∧SubB (bV ((Tw.mk k n1 b d []).neg)) (bV b)∧SubB (PV.f (Lf.lr (Tw.mk k n1 b d []).digits (Tw.mk k n1 b d []).digits.length)) (PV.f (Lf.lr d d.length))∧rfB (dP Sh.tm [])∧True)∧(rfB (uV 0)∧rfB (sV (ByteArray.mk #[]))∧rfB (bV false)∧rfB (nlP)∧rfB (nlP)∧True)∧True)∧rfB (PV.bp 0 0)∧rfB (PV.bp 1 0)∧SubB (iV (↑(0:Nat):Int)) (iV 0)∧rfB (iV 0)∧True)∧True∧True∧∀ (z2:Unit),True→True→true=true∧Sub (PV.agg [uV k,sV n1,bV b,PV.f (Lf.lr d d.length),dP Sh.tm []]) (PV.agg [uV ((Tw.mk k n1 b d []).kind),sV ((Tw.mk k n1 b d []).name),bV ((Tw.mk k n1 b d []).neg),PV.f (Lf.lr (Tw.mk k n1 b d []).digits (Tw.mk k n1 b d []).digits.length),dP Sh.tm []])) ?kr ?_
        case kr=>kernel_rfl
        refine ⟨⟨rfl⟩,⟨?s0,⟨⟨rfl⟩,⟨?s1,⟨⟨rfl⟩,⟨⟨rfl⟩,⟨⟨rfl⟩,⟨?x0,⟨⟨⟨⟨?m0,⟨?m1,⟨?m2,⟨?m3,⟨.refl _,trivial⟩⟩⟩⟩⟩,⟨⟨.refl _,⟨.refl _,⟨.refl _,⟨.refl _,⟨.refl _,trivial⟩⟩⟩⟩⟩,trivial⟩⟩,⟨.refl _,⟨.refl _,⟨?m4,⟨.refl _,trivial⟩⟩⟩⟩⟩,⟨trivial,⟨trivial,fun z2=>fun _=>fun _=>⟨rfl,?m5⟩⟩⟩⟩⟩⟩⟩⟩⟩⟩⟩⟩
        case x0=>exact ()
        case s0=>exact f2.2.1
        case s1=>decide
        case m0=>exact .refl _
        case m1=>exact .refl _
        case m2=>exact .refl _
        case m3=>exact .refl _
        case m4=>exact .refl _
        case m5=>exact .refl _
      · refine ⟨[tmP t],[(3,.s ⟨Nat,fun i=>⟨[(1,.bp 0 0),(2,.bp 1 0),(16,.wr 2),(17,iV t.kids.length),(18,iV i)],[.cells [.f (.v (.int .u8 t.kind)),.f (.v (.string t.name)),.f (.v (.bool t.neg)),.f (.lr t.digits t.digits.length),.wr 2],.cells [.f (.v (.int .u8 0)),.f (.v (.string ⟨#[]⟩)),.f (.v (.bool false)),.f (.v (.slice none 0 0)),.f (.v (.slice none 0 0))],.own 28 (.dt .tm t.kids)]⟩,fun i=>i≤t.kids.length,fun i=>t.kids.length - i⟩)],.cons (QaS ht).sub .nil,rfl,fun _ hsh=>?_⟩
        refine Qab (p:=SameL [PV.bp 0 2,PV.bp 0 3,PV.f (Lf.lr t.digits t.digits.length),PV.bp 0 4,dP Sh.tm t.kids,PV.bp 0 2,PV.bp 0 3,PV.bp 0 4] [PV.bp 0 2,PV.bp 0 3,PV.f (Lf.lr t.digits t.digits.length),PV.bp 0 4,dP Sh.tm t.kids,PV.bp 0 2,PV.bp 0 3,PV.bp 0 4]∧t.digits.length≤40000000∧SameL [PV.bp 0 2,PV.bp 0 3,PV.any,PV.bp 0 4,dP Sh.tm t.kids,PV.bp 0 2,PV.bp 0 3,PV.bp 0 4] [PV.bp 0 2,PV.bp 0 3,PV.any,PV.bp 0 4,dP Sh.tm t.kids,PV.bp 0 2,PV.bp 0 3,PV.bp 0 4]∧t.kids.length≤100000000∧ifB (decide (t.kids.length=0)) (SameL [PV.bp 0 2,PV.bp 0 3,PV.any,PV.bp 0 4,PV.any,PV.bp 0 2,PV.bp 0 3,PV.bp 0 4] [PV.bp 0 2,PV.bp 0 3,PV.any,PV.bp 0 4,PV.any,PV.bp 0 2,PV.bp 0 3,PV.bp 0 4]∧SameL [PV.any,PV.any,PV.any,PV.any,PV.any,PV.bp 0 2,PV.any,PV.bp 0 4] [PV.any,PV.any,PV.any,PV.any,PV.any,PV.bp 0 2,PV.any,PV.bp 0 4]∧SameL [PV.any,PV.any,PV.any,PV.any,PV.any,PV.any,PV.any,PV.any] [PV.any,PV.any,PV.any,PV.any,PV.any,PV.any,PV.any,PV.any]∧∃ (x1:Nat),(((rfB (uV t.kind)∧rfB (sV t.name)∧rfB (bV t.neg)∧rfB (PV.f (Lf.lr t.digits t.digits.length))∧SubB (dP Sh.tm []) (PV.wr 2)∧True)∧(rfB (uV 0)∧rfB (sV (ByteArray.mk #[]))∧rfB (bV false)∧rfB (nlP)∧rfB (nlP)∧True)∧False)∧rfB (PV.bp 0 0)∧rfB (PV.bp 1 0)∧SubB (dP Sh.tm []) (PV.wr 2)∧SubB (iV (↑(0:Nat):Int)) (iV (↑t.kids.length:Int))∧SubB (iV 0) (iV (↑x1:Int))∧True)∧x1≤t.kids.length∧True∧∀ (z2:Nat),z2≤t.kids.length→True→ifB (decide ((↑z2:Int)<(↑t.kids.length:Int))) (((0:Int)≤(↑z2:Int)∧(↑z2:Int)<(↑t.kids.length:Int))∧((etaT (t.kids.getD (↑z2:Int).toNat Sh.tm.nil)).size<n∧(etaT (t.kids.getD (↑z2:Int).toNat Sh.tm.nil)).fitT)∧((0:Int)≤(↑z2:Int)∧(↑z2:Int)<(↑t.kids.length:Int))∧∃ (x3:Nat),(((rfB (uV t.kind)∧rfB (sV t.name)∧rfB (bV t.neg)∧rfB (PV.f (Lf.lr t.digits t.digits.length))∧rfB (PV.wr 2)∧True)∧(rfB (uV 0)∧rfB (sV (ByteArray.mk #[]))∧rfB (bV false)∧rfB (nlP)∧rfB (nlP)∧True)∧Lf.dt Sh.tm t.kids=Lf.dt Sh.tm (t.kids.set (↑z2:Int).toNat (etaT (etaT (t.kids.getD (↑z2:Int).toNat Sh.tm.nil))))∧True)∧rfB (PV.bp 0 0)∧rfB (PV.bp 1 0)∧rfB (PV.wr 2)∧rfB (iV (↑t.kids.length:Int))∧SubB (iV (IntKind.i64.wrap ((↑z2:Int)+(1:Int)))) (iV (↑x3:Int))∧True)∧x3≤t.kids.length∧True∧(t.kids.length - x3).succ.le (t.kids.length - z2)) (true=true∧rfS (PV.agg (Qac (tmC t))))) (SameL [PV.bp 0 2,PV.bp 0 3,PV.any,PV.bp 0 4,PV.any,PV.bp 0 2,PV.bp 0 3,PV.bp 0 4] [PV.bp 0 2,PV.bp 0 3,PV.any,PV.bp 0 4,PV.any,PV.bp 0 2,PV.bp 0 3,PV.bp 0 4]∧SameL [PV.any,PV.any,PV.any,PV.any,PV.any,PV.bp 0 2,PV.any,PV.bp 0 4] [PV.any,PV.any,PV.any,PV.any,PV.any,PV.bp 0 2,PV.any,PV.bp 0 4]∧SameL [PV.any,PV.any,PV.any,PV.any,PV.any,PV.any,PV.any,PV.any] [PV.any,PV.any,PV.any,PV.any,PV.any,PV.any,PV.any,PV.any]∧∃ (x1:Nat),(((rfB (uV t.kind)∧rfB (sV t.name)∧rfB (bV t.neg)∧rfB (PV.f (Lf.lr t.digits t.digits.length))∧rfB (PV.wr 2)∧True)∧(rfB (uV 0)∧rfB (sV (ByteArray.mk #[]))∧rfB (bV false)∧rfB (nlP)∧rfB (nlP)∧True)∧Lf.dt Sh.tm t.kids=Lf.dt Sh.tm t.kids∧True)∧rfB (PV.bp 0 0)∧rfB (PV.bp 1 0)∧rfB (PV.wr 2)∧rfB (iV (↑t.kids.length:Int))∧SubB (iV 0) (iV (↑x1:Int))∧True)∧x1≤t.kids.length∧True∧∀ (z2:Nat),z2≤t.kids.length→True→ifB (decide ((↑z2:Int)<(↑t.kids.length:Int))) (((0:Int)≤(↑z2:Int)∧(↑z2:Int)<(↑t.kids.length:Int))∧((etaT (t.kids.getD (↑z2:Int).toNat Sh.tm.nil)).size<n∧(etaT (t.kids.getD (↑z2:Int).toNat Sh.tm.nil)).fitT)∧((0:Int)≤(↑z2:Int)∧(↑z2:Int)<(↑t.kids.length:Int))∧∃ (x3:Nat),(((rfB (uV t.kind)∧rfB (sV t.name)∧rfB (bV t.neg)∧rfB (PV.f (Lf.lr t.digits t.digits.length))∧rfB (PV.wr 2)∧True)∧(rfB (uV 0)∧rfB (sV (ByteArray.mk #[]))∧rfB (bV false)∧rfB (nlP)∧rfB (nlP)∧True)∧Lf.dt Sh.tm t.kids=Lf.dt Sh.tm (t.kids.set (↑z2:Int).toNat (etaT (etaT (t.kids.getD (↑z2:Int).toNat Sh.tm.nil))))∧True)∧rfB (PV.bp 0 0)∧rfB (PV.bp 1 0)∧rfB (PV.wr 2)∧rfB (iV (↑t.kids.length:Int))∧SubB (iV (IntKind.i64.wrap ((↑z2:Int)+(1:Int)))) (iV (↑x3:Int))∧True)∧x3≤t.kids.length∧True∧(t.kids.length - x3).succ.le (t.kids.length - z2)) (true=true∧rfS (PV.agg (Qac (tmC t)))))) ?kr ?_
        case kr=>kernel_rfl
        refine ⟨⟨rfl⟩,⟨?s0,⟨⟨rfl⟩,⟨?s1,Qaa.2 ⟨fun hb0=>⟨⟨rfl⟩,⟨⟨rfl⟩,⟨⟨rfl⟩,⟨?x0,⟨?s2,⟨?s3,⟨trivial,fun z2=>fun hq1=>fun _=>Qaa.2 ⟨fun hb2=>⟨?s4,⟨?s5,⟨?s6,⟨?x1,⟨?s7,⟨?s8,⟨trivial,?m0⟩⟩⟩⟩⟩⟩⟩,fun hb2=>⟨rfl,?m1⟩⟩⟩⟩⟩⟩⟩⟩⟩,fun hb0=>⟨⟨rfl⟩,⟨⟨rfl⟩,⟨⟨rfl⟩,⟨?x2,⟨⟨⟨⟨.refl _,⟨.refl _,⟨.refl _,⟨.refl _,⟨.refl _,trivial⟩⟩⟩⟩⟩,⟨⟨.refl _,⟨.refl _,⟨.refl _,⟨.refl _,⟨.refl _,trivial⟩⟩⟩⟩⟩,⟨rfl,trivial⟩⟩⟩,⟨.refl _,⟨.refl _,⟨.refl _,⟨?m2,⟨?m3,trivial⟩⟩⟩⟩⟩⟩,⟨?s9,⟨trivial,fun z2=>fun hq3=>fun _=>Qaa.2 ⟨fun hb4=>⟨?s10,⟨?s11,⟨?s12,⟨?x3,⟨?s13,⟨?s14,⟨trivial,?m4⟩⟩⟩⟩⟩⟩⟩,fun hb4=>⟨rfl,?m5⟩⟩⟩⟩⟩⟩⟩⟩⟩⟩⟩⟩⟩⟩
        all_goals try simp only [etaT] at *
        case x0=>exact 0
        case x1=>exact z2+1
        case x2=>exact 0
        case x3=>exact z2+1
        all_goals try simp only [Int.toNat_natCast,decide_eq_true_eq,decide_eq_false_iff_not,Int.ofNat_lt,Tw.eta] at *
        case s0=>exact f2.2.1
        case s1=>exact f2.2.2.1
        case s2=>exact absurd (List.length_eq_zero_iff.1 hb0) hk0
        case s3=>exact absurd (List.length_eq_zero_iff.1 hb0) hk0
        case s4=>exact absurd (List.length_eq_zero_iff.1 hb0) hk0
        case s5=>exact absurd (List.length_eq_zero_iff.1 hb0) hk0
        case s6=>exact absurd (List.length_eq_zero_iff.1 hb0) hk0
        case s7=>exact absurd (List.length_eq_zero_iff.1 hb0) hk0
        case s8=>exact absurd (List.length_eq_zero_iff.1 hb0) hk0
        case s9=>exact Nat.zero_le _
        case m0=>exact absurd (List.length_eq_zero_iff.1 hb0) hk0
        case m1=>exact absurd (List.length_eq_zero_iff.1 hb0) hk0
        case m2=>exact .refl _
        case m3=>exact .refl _
        case m5=>exact .refl _
        case s10=>omega
        case s12=>omega
        case s14=>omega
        case m4=>exact (by omega:t.kids.length - (z2+1)<t.kids.length - z2)
        case s11 =>
         have h1:=Qqq hb4
         exact ⟨by unfold kidT at h1; omega,Qsj hf hb4⟩
        case s13=>repeat' first | exact SubB.refl _ | exact trivial | refine And.intro ?_ ?_ | exact congrArg (Lf.dt Sh.tm) (QrL hb4).symm | exact Qai (by rw [wJ _ (by omega) (by omega)]; rfl)
    · cases hs
  · cases hs
end Go.Proofs.YtemhncjjiomppaaGreatDoor
