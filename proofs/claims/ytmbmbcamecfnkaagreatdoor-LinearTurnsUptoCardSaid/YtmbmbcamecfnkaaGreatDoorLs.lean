/- Terms of the statements on linears. -/
import Derived.Test.YtmbmbcamecfnkaaGreatDoorLq
import Derived.Test.YtmbmbcamecfnkaaGreatDoorKk
namespace Go.Proofs.YtmbmbcamecfnkaaGreatDoor
open Go.RowKit
set_option linter.unusedVariables false
set_option linter.unusedSimpArgs false
set_option maxRecDepth 100000
def Qjs (e f:Ze):Bool:=(e.1==f.1) && eqB e.2.1 f.2.1
def Qhz (A B:List Ze):Bool:=decide (A.length=B.length∧∀ j,j<A.length→Qjs (zAt A j) (zAt B j)=true)
def Qer (A:List Ze):Prop:=A.length≤1000000000∧∀ e∈A,e.2.2≤100000
def QkL:Spec
 | [.f x,.f y]=>match QbC x,QbC y with
  | some A,some B=>some (some (Qer (zsOf A)∧Qer (zsOf B)),.nm Bool (Qhz (zsOf A) (zsOf B)) bV)
  | _,_=>none
 | _=>none
theorem Qut {E:Env} (hU:Up E):Contract Tryz.prog E 86 QkL:=by
 refine Qan [(78,Qpe)] [] Tryz.ntmps86 Tryz.func86 (by kernel_rfl) (by kernel_rfl) hU ⟨Quv,trivial⟩ trivial ?_
 intro xs p r hs hp
 unfold QkL at hs
 split at hs
 · rename_i x y
   split at hs
   · rename_i A' B' hA hB
     cases hs
     have hF:=hp _ rfl
     generalize hAe:zsOf A'=A at hF ⊢
     generalize hBe:zsOf B'=B at hF ⊢
     refine ⟨[.f (.zs A),.f (.zs B)],[(4,.s ⟨Nat,fun i=>⟨[(0,.f (.zs A)),(1,.f (.zs B)),(5,iV i)],[]⟩,fun i=>i≤A.length∧A.length=B.length∧∀ j,j<i→Qjs (zAt A j) (zAt B j)=true,fun i=>A.length - i⟩)],.cons (by rw [← hAe]; exact Qdb hA) (.cons (by rw [← hBe]; exact Qdb hB) .nil),rfl,fun _ hsh=>?_⟩
     refine Qag (p:=ifB ((↑A.length:Int) != (↑B.length:Int)) (true=true∧Sub (bV false) (bV (Qhz A B))) (∃ (x1:Nat),(True∧rfB (PV.f (Lf.zs A))∧rfB (PV.f (Lf.zs B))∧SubB (iV 0) (iV (↑x1:Int))∧True)∧(x1≤A.length∧A.length=B.length∧∀ (j:Nat),j<x1→Qjs (zAt A j) (zAt B j)=true)∧True∧∀ (z2:Nat),(z2≤A.length∧A.length=B.length∧∀ (j:Nat),j<z2→Qjs (zAt A j) (zAt B j)=true)→True→ifB (decide ((↑z2:Int)<(↑A.length:Int))) (((0:Int)≤(↑z2:Int)∧(↑z2:Int)<(↑A.length:Int))∧((0:Int)≤(↑z2:Int)∧(↑z2:Int)<(↑B.length:Int))∧(A.getD (↑z2:Int).toNat (false,[],0)).snd.snd+(B.getD (↑z2:Int).toNat (false,[],0)).snd.snd≤90000000∧ifB (!((A.getD (↑z2:Int).toNat (false,[],0)).fst==(B.getD (↑z2:Int).toNat (false,[],0)).fst && eqB (A.getD (↑z2:Int).toNat (false,[],0)).snd.fst (B.getD (↑z2:Int).toNat (false,[],0)).snd.fst)) (true=true∧Sub (bV false) (bV (Qhz A B))) (∃ (x3:Nat),(True∧rfB (PV.f (Lf.zs A))∧rfB (PV.f (Lf.zs B))∧SubB (iV (IntKind.i64.wrap ((↑z2:Int)+(1:Int)))) (iV (↑x3:Int))∧True)∧(x3≤A.length∧A.length=B.length∧∀ (j:Nat),j<x3→Qjs (zAt A j) (zAt B j)=true)∧True∧(A.length - x3).succ.le (A.length - z2))) (true=true∧Sub (bV true) (bV (Qhz A B))))) ?kr ?_
     case kr=>kernel_rfl
     refine Qae.2 ⟨fun hb0=>⟨rfl,?m0⟩,fun hb0=>⟨?x0,⟨⟨trivial,⟨.refl _,⟨.refl _,⟨?m1,trivial⟩⟩⟩⟩,⟨?s0,⟨trivial,fun z2=>fun hq1=>fun _=>Qae.2 ⟨fun hb2=>⟨?s1,⟨?s2,⟨?s3,Qae.2 ⟨fun hb3=>⟨rfl,?m2⟩,fun hb3=>⟨?x1,⟨⟨trivial,⟨.refl _,⟨.refl _,⟨?m3,trivial⟩⟩⟩⟩,⟨?s4,⟨trivial,?m4⟩⟩⟩⟩⟩⟩⟩⟩,fun hb2=>⟨rfl,?m5⟩⟩⟩⟩⟩⟩⟩
     case x0=>exact 0
     case x1=>exact z2+1
     all_goals try simp only [Int.toNat_natCast,decide_eq_true_eq,decide_eq_false_iff_not,Int.ofNat_lt,bne_iff_ne,ne_eq,bne_eq_false_iff_eq,Int.natCast_inj,Bool.not_eq_true',Bool.not_eq_false'] at *
     case m0=>exact (QaT (decide_eq_false fun h=>hb0 h.1).symm).sub
     case m1=>exact .refl _
     case s0=>exact ⟨Nat.zero_le _,hb0,fun j hj=>absurd hj (Nat.not_lt_zero j)⟩
     case s1=>omega
     case s2=>omega
     case s3 =>
      have h1:=hF.1.2 _ (gotD (l:=A) (false,[],0) hb2)
      have h2:=hF.2.2 _ (gotD (l:=B) (false,[],0) (by omega:z2<B.length))
      omega
     case m2=>exact (QaT (decide_eq_false fun h=>Bool.noConfusion ((h.2 z2 hb2).symm.trans hb3)).symm).sub
     case m3 =>
      have:=hF.1.1
      exact QaM (by rw [wJ _ (by omega) (by omega)]; rfl)
     case s4 =>
      refine ⟨hb2,hb0,fun j hj=>?_⟩
      by_cases hjz:j=z2
      · subst hjz; exact hb3
      · exact hq1.2.2 j (by omega)
     case m4=>exact (by omega:A.length - (z2+1)<A.length - z2)
     case m5 =>
      have hz:z2=A.length:=by omega
      subst hz
      exact (QaT (decide_eq_true ⟨hb0,hq1.2.2⟩).symm).sub
   · cases hs
 · cases hs
def Qcm (K:List ByteArray) (C:List Ze) (n:Bool) (l:List Nat) (K':List ByteArray) (C':List Ze) (n':Bool) (l':List Nat):Bool:=Qfe K K' && (Qhz C C' && ((n==n') && eqB l l'))
def Qff:Spec
 | [.agg [.f a,.f b,.f c,.f d],.agg [.f a',.f b',.f c',.f d']]=>match dtOf .str a,QbC b,asR c d,dtOf .str a',QbC b',asR c' d' with
  | some K,some C,some ((n,l),k,_),some K',some C',some ((n',l'),k',_)=>some (some (Qer (zsOf C)∧Qer (zsOf C')∧k≤100000∧k'≤100000),.nm Bool (Qcm K (zsOf C) n l K' (zsOf C') n' l') bV)
  | _,_,_,_,_,_=>none
 | _=>none
theorem Qh3 (L:List Ze):zsOf (L.map fun e=>((e.1,e.2.1),e.2.2,e.2.2+1))=L:=by
 unfold zsOf
 rw [List.map_map]
 exact (List.map_congr_left fun x _=>rfl).trans (List.map_id _)
theorem QlW {a b c d:Lf} {K:List ByteArray} {C:List ((Bool × List Nat) × Nat × Nat)} {n:Bool} {l:List Nat} {k j:Nat} (h1:dtOf .str a=some K) (h2:QbC b=some C) (h3:asR c d=some ((n,l),k,j)):Sub (.agg [.f a,.f b,.f c,.f d]) (.agg [.f (.dt .str K),.f (.zs (zsOf C)),.f (.v (.bool n)),.f (.lr l k)]):=by
 refine ⟨fun H v hv=>?_⟩
 obtain ⟨vs,rfl,g⟩:=PRs.of_agg hv
 obtain ⟨p,q,r,s,rfl⟩:∃ p q r s,vs=[p,q,r,s]:=by
  have:=g.1
  match vs,this with
  | [p,q,r,s],_=>exact ⟨p,q,r,s,rfl⟩
 obtain ⟨g3,g4⟩:=QgJ h3 (g.2 2 _ _ rfl rfl).rd (g.2 3 _ _ rfl rfl).rd
 exact (PRs.cons (H:=H) (B:=B0) (.f (Qcz h1 _ _ (g.2 0 _ _ rfl rfl).rd)) (.cons ((Qdb h2).out _ _ (g.2 1 _ _ rfl rfl)) (.cons (.f g3) (.cons (.f g4) .nil)))).agg
theorem Quu {E:Env} (hU:Up E):Contract Tryz.prog E 28 Qff:=by
 refine Qan [(17,QkJ),(86,QkL),(78,Qpe)] [] Tryz.ntmps28 Tryz.func28 (by kernel_rfl) (by kernel_rfl) hU ⟨QqG hU,Qut hU,Quv,trivial⟩ trivial ?_
 intro xs p r hs hp
 unfold Qff at hs
 split at hs
 · split at hs
   · rename_i K C n l k _ K' C' n' l' k' _ h1 h2 h3 h4 h5 h6
     cases hs
     obtain ⟨f1,f2,f3,f4⟩:=hp _ rfl
     refine ⟨[.agg [.f (.dt .str K),.f (.zs (zsOf C)),.f (.v (.bool n)),.f (.lr l k)],.agg [.f (.dt .str K'),.f (.zs (zsOf C')),.f (.v (.bool n')),.f (.lr l' k')]],[],.cons (QlW h1 h2 h3) (.cons (QlW h4 h5 h6) .nil),rfl,fun _ hsh=>?_⟩
     have h0:=f1
     refine Qag (p:=∀ (z1:Bool),z1=Qfe K K'→ifB z1 ((Qer (zsOf (List.map (fun (e:Bool × List Nat × Nat)=>((e.fst,e.snd.fst),e.snd.snd,e.snd.snd+1)) (zsOf C)))∧Qer (zsOf (List.map (fun (e:Bool × List Nat × Nat)=>((e.fst,e.snd.fst),e.snd.snd,e.snd.snd+1)) (zsOf C'))))∧∀ (z2:Bool),z2=Qhz (zsOf (List.map (fun (e:Bool × List Nat × Nat)=>((e.fst,e.snd.fst),e.snd.snd,e.snd.snd+1)) (zsOf C))) (zsOf (List.map (fun (e:Bool × List Nat × Nat)=>((e.fst,e.snd.fst),e.snd.snd,e.snd.snd+1)) (zsOf C')))→ifB z2 (k+k'≤90000000∧true=true∧Sub (bV (n==n' && eqB l l')) (bV (Qcm K (zsOf C) n l K' (zsOf C') n' l'))) (true=true∧Sub (bV false) (bV (Qcm K (zsOf C) n l K' (zsOf C') n' l')))) (true=true∧Sub (bV false) (bV (Qcm K (zsOf C) n l K' (zsOf C') n' l')))) ?kr ?_
     case kr=>kernel_rfl
     refine fun z1=>fun hz1=>Qae.2 ⟨fun hb0=>⟨?s0,fun z2=>fun hz2=>Qae.2 ⟨fun hb1=>⟨?s1,⟨rfl,?m0⟩⟩,fun hb1=>⟨rfl,?m1⟩⟩⟩,fun hb0=>⟨rfl,?m2⟩⟩
     all_goals try simp only [Qh3] at *
     case s0=>exact ⟨f1,f2⟩
     case s1=>omega
     case m0=>exact (QaT (by unfold Qcm; rw [← hz1,hb0,← hz2,hb1]; rfl)).sub
     case m1=>exact (QaT (by unfold Qcm; rw [← hz2,hb1,Bool.false_and,Bool.and_false])).sub
     case m2=>exact (QaT (by unfold Qcm; rw [← hz1,hb0,Bool.false_and])).sub
   · cases hs
 · cases hs
theorem cSame6 {E:Env} (hU:Up E):Contract Tryz.prog E 30 Qff:=by
 refine Qan [(28,Qff)] [] Tryz.ntmps30 Tryz.func30 (by kernel_rfl) (by kernel_rfl) hU ⟨Quu hU,trivial⟩ trivial ?_
 intro xs p r hs hp
 unfold Qff at hs
 split at hs
 · split at hs
   · rename_i K C n l k _ K' C' n' l' k' _ h1 h2 h3 h4 h5 h6
     cases hs
     obtain ⟨f1,f2,f3,f4⟩:=hp _ rfl
     refine ⟨[.agg [.f (.dt .str K),.f (.zs (zsOf C)),.f (.v (.bool n)),.f (.lr l k)],.agg [.f (.dt .str K'),.f (.zs (zsOf C')),.f (.v (.bool n')),.f (.lr l' k')]],[],.cons (QlW h1 h2 h3) (.cons (QlW h4 h5 h6) .nil),rfl,fun _ hsh=>?_⟩
     have h0:=f1
     refine Qag (p:=(Qer (zsOf (List.map (fun (e:Bool × List Nat × Nat)=>((e.fst,e.snd.fst),e.snd.snd,e.snd.snd+1)) (zsOf C)))∧Qer (zsOf (List.map (fun (e:Bool × List Nat × Nat)=>((e.fst,e.snd.fst),e.snd.snd,e.snd.snd+1)) (zsOf C')))∧k≤100000∧k'≤100000)∧∀ (z1:Bool),z1=Qcm K (zsOf (List.map (fun (e:Bool × List Nat × Nat)=>((e.fst,e.snd.fst),e.snd.snd,e.snd.snd+1)) (zsOf C))) n l K' (zsOf (List.map (fun (e:Bool × List Nat × Nat)=>((e.fst,e.snd.fst),e.snd.snd,e.snd.snd+1)) (zsOf C'))) n' l'→true=true∧Sub (bV z1) (bV (Qcm K (zsOf C) n l K' (zsOf C') n' l'))) ?kr ?_
     case kr=>kernel_rfl
     refine ⟨?s0,fun z1=>fun hz1=>⟨rfl,?m0⟩⟩
     all_goals try simp only [Qh3] at *
     case s0=>exact ⟨f1,f2,f3,f4⟩
     case m0=>exact (QaT hz1).sub
   · cases hs
 · cases hs
end Go.Proofs.YtmbmbcamecfnkaaGreatDoor
namespace Go.Proofs.YtmbmbcamecfnkaaGreatDoor
open Go.RowKit
set_option linter.unusedVariables false
set_option linter.unusedSimpArgs false
set_option maxRecDepth 100000
theorem QqV (z:Int) (k:Nat):SubB (.f (.zd z k)) (.f (.lr (digs 1000000000 z.natAbs) (digs 1000000000 z.natAbs).length)):=⟨fun H B v hv=>.f (Qis (f:=.zd z k) (f':=.lr (digs 1000000000 z.natAbs) (digs 1000000000 z.natAbs).length) (k:=1) (n:=(digs 1000000000 z.natAbs).length) (get:=fun i=>[.v (.int .u32 ((digs 1000000000 z.natAbs).getD i 0:Nat))]) rfl rfl ⟨Nat.le_refl _,fun x hx=>by have:=Qau 1000000000 (by omega) _ x hx; omega⟩ (Nat.le_refl _) (fun i hi=>rfl) hv.rd)⟩
theorem zn_b (z:Int):SubB (.f (.zn z)) (.f (.v (.bool (zNeg z)))):=⟨fun H B v hv=>by
 have h:=hv.rd
 generalize hf:Lf.zn z=f at h
 cases h with
 | zn z'=>cases hf; exact .f (.v _ rfl)
 | v x h1=>cases hf
 | sl h1=>subst hf; cases h1⟩
def x6:Tw:=.mk 1 ⟨#[120]⟩ false [] []
def n6 (k:Int):Tw:=.mk 2 ⟨#[]⟩ (zNeg k) (digs 1000000000 k.natAbs) []
def plus6 (l:List Tw):Tw:=.mk 5 ⟨#[]⟩ false [] l
def times6 (k:Int) (l:List Tw):Tw:=.mk 6 ⟨#[]⟩ (zNeg k) (digs 1000000000 k.natAbs) l
def sX6:Spec
 | []=>some (none,.one (tmP x6))
 | _=>none
def sN6:Spec
 | [.f (.v (.int .i64 n))]=>some (some (-9223372036854775808≤n∧n≤9223372036854775807),.nm Tw (n6 n) tmP)
 | _=>none
def Qph:Spec
 | [.f x]=>match dtOf .tm x with
  | some l=>some (none,.nm Tw (plus6 l) tmP)
  | none=>none
 | _=>none
def QkI:Spec
 | [.f (.v (.int .i64 n)),.f x]=>match dtOf .tm x with
  | some l=>some (some (-9223372036854775808≤n∧n≤9223372036854775807),.nm Tw (times6 n l) tmP)
  | none=>none
 | _=>none
theorem cX6 {E:Env} (hU:Up E):Contract Tryz.prog E 58 sX6:=by
 refine Qan [] [] Tryz.ntmps58 Tryz.func58 (by kernel_rfl) (by kernel_rfl) hU trivial trivial ?_
 intro xs p r hs hp
 unfold sX6 at hs
 split at hs
 · cases hs
   refine ⟨[],[],.nil,rfl,fun _ hsh=>?_⟩
   have h0:=hU
   refine Qag (p:=true=true∧Sub (PV.agg [uV 1,sV (ByteArray.mk #[(120:UInt8)]),bV false,nlP,nlP]) (PV.agg [uV x6.kind,sV x6.name,bV x6.neg,PV.f (Lf.lr x6.digits 0),dP Sh.tm []])) ?kr ?_
   case kr=>kernel_rfl
   refine ⟨rfl,?m0⟩
   case m0=>exact (Qfs (t:=x6) rfl).sub
 · cases hs
theorem cN6 {E:Env} (hU:Up E) (hO:Contract Tryz.prog E 63 sOf):Contract Tryz.prog E 61 sN6:=by
 refine Qan [(63,sOf)] [] Tryz.ntmps61 Tryz.func61 (by kernel_rfl) (by kernel_rfl) hU ⟨hO,trivial⟩ trivial ?_
 intro xs p r hs hp
 unfold sN6 at hs
 split at hs
 · rename_i n
   cases hs
   have hn:=hp _ rfl
   refine ⟨[iV n],[],.cons (.refl _) .nil,rfl,fun _ hsh=>?_⟩
   have h0:=hU
   refine Qag (p:=((-9223372036854775808:Int)≤n∧n≤(9223372036854775807:Int))∧∀ (z1:Int),z1=n→true=true∧Sub (PV.agg [uV 2,sV (ByteArray.mk #[]),PV.f (Lf.zn z1),PV.f (Lf.zd z1 3),nlP]) (PV.agg [uV ((n6 n).kind),sV ((n6 n).name),bV ((n6 n).neg),PV.f (Lf.lr (n6 n).digits (n6 n).digits.length),dP Sh.tm []])) ?kr ?_
   case kr=>kernel_rfl
   refine ⟨?s0,fun z1=>fun hz1=>⟨rfl,?m0⟩⟩
   case s0=>exact hn
   case m0 =>
    subst hz1
    exact (Qht (.cons (.refl _) (.cons (.refl _) (.cons (zn_b z1) (.cons (QqV z1 3) (.cons (Qie .tm) .nil)))))).sub
 · cases hs
theorem cPlus6 {E:Env} (hU:Up E):Contract Tryz.prog E 59 Qph:=by
 refine Qan [] [] Tryz.ntmps59 Tryz.func59 (by kernel_rfl) (by kernel_rfl) hU trivial trivial ?_
 intro xs p r hs hp
 unfold Qph at hs
 split at hs
 · rename_i x
   split at hs
   · rename_i l h1
     cases hs
     refine ⟨[.f (.dt .tm l)],[],.cons (QmS h1).sub .nil,rfl,fun _ hsh=>?_⟩
     have h0:=hU
     refine Qag (p:=true=true∧Sub (PV.agg [uV 5,sV (ByteArray.mk #[]),bV false,nlP,dP Sh.tm l]) (PV.agg [uV ((plus6 l).kind),sV ((plus6 l).name),bV ((plus6 l).neg),PV.f (Lf.lr (plus6 l).digits 0),dP Sh.tm (plus6 l).kids])) ?kr ?_
     case kr=>kernel_rfl
     refine ⟨rfl,?m0⟩
     case m0=>exact (Qfs (t:=plus6 l) rfl).sub
   · cases hs
 · cases hs
theorem Quq {E:Env} (hU:Up E) (hO:Contract Tryz.prog E 63 sOf):Contract Tryz.prog E 60 QkI:=by
 refine Qan [(63,sOf)] [] Tryz.ntmps60 Tryz.func60 (by kernel_rfl) (by kernel_rfl) hU ⟨hO,trivial⟩ trivial ?_
 intro xs p r hs hp
 unfold QkI at hs
 split at hs
 · rename_i n x
   split at hs
   · rename_i l h1
     cases hs
     have hn:=hp _ rfl
     refine ⟨[iV n,.f (.dt .tm l)],[],.cons (.refl _) (.cons (QmS h1).sub .nil),rfl,fun _ hsh=>?_⟩
     have h0:=hU
     refine Qag (p:=((-9223372036854775808:Int)≤n∧n≤(9223372036854775807:Int))∧∀ (z1:Int),z1=n→true=true∧Sub (PV.agg [uV 6,sV (ByteArray.mk #[]),PV.f (Lf.zn z1),PV.f (Lf.zd z1 3),dP Sh.tm l]) (PV.agg (QaU (tmC (times6 n l))))) ?kr ?_
     case kr=>kernel_rfl
     refine ⟨?s0,fun z1=>fun hz1=>⟨rfl,?m0⟩⟩
     case s0=>exact hn
     case m0 =>
      subst hz1
      exact (Qht (.cons (.refl _) (.cons (.refl _) (.cons (zn_b z1) (.cons (QqV z1 3) (.cons (.refl _) .nil)))))).sub
   · cases hs
 · cases hs
end Go.Proofs.YtmbmbcamecfnkaaGreatDoor
