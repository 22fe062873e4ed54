/- How much there is, as far as it is asked: the kit's counts. -/
import Derived.Test.YtemhncjjiomppaaGreatDoorFe
import Derived.Test.YtemhncjjiomppaaGreatDoorVt
set_option linter.unusedSimpArgs false
namespace Go.Proofs.YtemhncjjiomppaaGreatDoor
open Go.RowKit
set_option linter.unusedVariables false
set_option maxRecDepth 100000
def vlP (t:Vw):PV:=.agg (Qac (vlC t))
def vlOf:PV→Option Vw
 | .agg l=>match leafs l with
  | some m=>toVl m
  | none=>none
 | _=>none
theorem Qbu {x:PV} {t:Vw} (h:vlOf x=some t):SubB x (vlP t):=by
 unfold vlOf at h
 split at h
 · split at h
   · rename_i hm
     exact QmW hm (Qh0 h)
   · cases h
 · cases h
mutual
def Vw.fitV (m:Nat):Vw→Prop
 | .mk _ _ d _ n l=>n.size≤4611686018427387904∧d.length≤m∧l.length≤100000000∧QdR m l
def QdR (m:Nat):List Vw→Prop
 | []=>True
 | t::l=>t.fitV m∧QdR m l
def Vw.size:Vw→Nat
 | .mk _ _ _ _ _ l=>szVL l+1
def szVL:List Vw→Nat
 | []=>0
 | t::l=>t.size+szVL l
end
theorem Vw.fitV_eq (m:Nat) (t:Vw):t.fitV m↔t.name.size≤4611686018427387904∧t.digits.length≤m∧t.fields.length≤100000000∧QdR m t.fields:=by cases t; rfl
theorem Vw.size_eq (t:Vw):t.size=szVL t.fields+1:=by cases t; rfl
theorem Qcy {m:Nat}:∀ {l:List Vw} {i:Nat} (d:Vw),QdR m l→i<l.length→(l.getD i d).fitV m
 | t::l,0,d,h,_=>h.1
 | t::l,i+1,d,h,hi=>by simpa using Qcy (l:=l) d h.2 (by simpa using hi)
theorem QkR:∀ {l:List Vw} {i:Nat} (d:Vw),i<l.length→(l.getD i d).size≤szVL l
 | t::l,0,d,_=>by simp [szVL]
 | t::l,i+1,d,h=>by
  have:=QkR (l:=l) (i:=i) d (by simpa using h)
  simp only [List.getD_cons_succ,szVL]
  omega
theorem QiB {t:Vw} {i:Nat} (d:Vw) (h:i<t.fields.length):(t.fields.getD i d).size<t.size:=by
 have:=QkR d h
 rw [t.size_eq]; omega
def QdB (l:List Cn) (s:ByteArray):Int:=anyB l fun c=>decide (c.name=s)
def conM:List Dat→ByteArray→Nat→Option (Nat × Nat)
 | [],_,_=>none
 | d::D,s,k=>if 0≤QdB d.cons s then some (k,(QdB d.cons s).toNat) else conM D s (k+1)
theorem QsW {α:Type} (l:List α) (f:α→Bool):anyB l f=-1∨(0≤anyB l f∧anyB l f<l.length):=by
 unfold anyB
 cases h:l.findIdx? f with
 | none=>exact .inl rfl
 | some i =>
  rw [List.findIdx?_eq_some_iff_getElem] at h
  obtain ⟨h,-⟩:=h
  exact .inr ⟨by show (0:Int)≤i; omega,by show (i:Int)<l.length; omega⟩
theorem QdT {s:ByteArray}:∀ {D:List Dat} {k a b:Nat},conM D s k=some (a,b)→k≤a∧a - k<D.length∧b<((D.getD (a - k) Sh.dat.nil).cons).length
 | [],k,a,b,h=>by cases h
 | d::D,k,a,b,h=>by
  unfold conM at h
  split at h
  · rename_i hc
    cases h
    rcases QsW d.cons fun c=>decide (c.name=s) with h1 | h1
    · unfold QdB at hc; omega
    · refine ⟨Nat.le_refl _,by simp,?_⟩
      rw [Nat.sub_self]
      show (QdB d.cons s).toNat<d.cons.length
      unfold QdB
      omega
  · obtain ⟨h1,h2,h3⟩:=QdT h
    refine ⟨by omega,by simp; omega,?_⟩
    rw [show a - k=(a - (k+1))+1 by omega]
    simpa using h3
def Qaz (D:List Dat) (p:Nat × Nat):List ByteArray:=(((D.getD p.1 Sh.dat.nil).cons).getD p.2 Sh.con.nil).fields
def Qbo (v:Vw):Bool:=(decide (v.kind=1) || (decide (v.digits.length=0) && !v.neg)) && (decide (v.kind=2) || !v.truth) && (decide (v.kind=3) || (decide (v.name=⟨#[]⟩) && decide (v.fields.length=0)))
mutual
def ofV (D:List Dat) (s:ByteArray):Vw→Bool
 | .mk k neg dg tr name fs=>Qbo (.mk k neg dg tr name fs) &&
  (if k=1 then decide (s=bInt) && Qau neg dg
  else if k=2 then decide (s=QaM)
  else if k=3 then QaR D s && (if name=⟨#[]⟩ then decide (fs.length=0) else match conM D name 0 with
   | none=>false
   | some p=>decide ((D.getD p.1 Sh.dat.nil).name=s) && (decide ((Qaz D p).length=fs.length) && ofVL D (Qaz D p) fs))
  else false)
def ofVL (D:List Dat):List ByteArray→List Vw→Bool
 | s::l,v::m=>ofV D s v && ofVL D l m
 | _,_=>true
end
theorem Qe0 (D:List Dat) (s:ByteArray) (v:Vw):ofV D s v=(Qbo v && (if v.kind=1 then decide (s=bInt) && Qau v.neg v.digits
  else if v.kind=2 then decide (s=QaM)
  else if v.kind=3 then QaR D s && (if v.name=⟨#[]⟩ then decide (v.fields.length=0) else match conM D v.name 0 with
   | none=>false
   | some p=>decide ((D.getD p.1 Sh.dat.nil).name=s) && (decide ((Qaz D p).length=v.fields.length) && ofVL D (Qaz D p) v.fields))
  else false)):=by
 cases v; rw [ofV]; rfl
def QcM (D:List Dat) (v:Vw):Bool:=ofV D bInt v || (ofV D QaM v || decide (0≤anyB D fun d=>ofV D d.name v))
def Quk:Spec2
 | [.agg [.f (.v (.string n)),.f (.dt .str l)],.bp 0 0],[.cells [.f (.v (.string s))]]=>some (.ret (bV (decide (n=s))) [.cells [sV s]])
 | _,_=>none
theorem cConF {E:Env} (hU:Up E):Contract2 Tryz.prog E 168 Quk:=by
 refine contract2 [] [] Tryz.ntmps168 Tryz.func168 (by kernel_rfl) (by kernel_rfl) hU trivial trivial ?_
 intro xs ob o hs hok
 unfold Quk at hs
 split at hs
 · rename_i n l s
   cases hs
   refine ⟨[.agg [.f (.v (.string n)),.f (.dt .str l)],.bp 0 0],[],.cons (.refl _) (.cons (.refl _) .nil),rfl,fun _ hsh=>?_⟩
   refine Qab (p:=EndU 1 (Out.ret (bV (decide (n=s))) [PO.cells [sV s]]).fin true (bV (n.toList==s.toList)) [PO.cells [sV s],PO.cells [sV n,dP Sh.str l]]) ?kr ?_
   case kr=>kernel_rfl
   refine ?m0
   case m0=>exact endU rfl (QaA (bs_l n s)) rfl rfl (r:=[.cells [sV n,.f (.dt .str l)]]) rfl
 · cases hs
def Qk8:Spec2
 | [.f (.dt .con D),.fn f [] [.bp 0 0]],[.cells [.f (.v (.string s))]]=>match Nat.beq f 168 with
  | true=>some (.ret (iV (QdB D s)) [.cells [sV s]])
  | false=>none
 | _,_=>none
theorem QvA {E:Env} (hU:Up E):Contract2 Tryz.prog E 167 Qk8:=by
 refine contract2 [] [(168,Quk)] Tryz.ntmps167 Tryz.func167 (by kernel_rfl) (by kernel_rfl) hU trivial ⟨cConF hU,trivial⟩ ?_
 intro xs ob o hs hok
 unfold Qk8 at hs
 split at hs
 · rename_i D f s
   split at hs
   · rename_i hf
     cases hs
     have hf:=Nat.eq_of_beq_eq_true hf
     subst hf
     refine ⟨[.f (.dt .con D),.fn 168 [] [.bp 0 0]],[(2,.s ⟨Nat,fun i=>⟨[(0,.f (.dt .con D)),(1,.fn 168 [] [.bp 0 0]),(7,iV D.length),(8,iV i)],[.cells [sV s]]⟩,fun i=>i≤D.length∧∀ k,k<i→¬ (Cn.name (D.getD k Sh.con.nil)=s),fun i=>D.length - i⟩)],.cons (.refl _) (.cons (.refl _) .nil),rfl,fun _ hsh=>?_⟩
     have hl:=Qay hsh.1
     refine Qab (p:=∃ (x1:Nat),(((rfB (sV s)∧True)∧True)∧rfB (dP Sh.con D)∧rfB (PV.fn 168 [] [PV.bp 0 0])∧rfB (iV (↑D.length:Int))∧SubB (iV 0) (iV (↑x1:Int))∧True)∧(x1≤D.length∧∀ (k:Nat),k<x1→¬(D.getD k Sh.con.nil).name=s)∧True∧∀ (z2:Nat),(z2≤D.length∧∀ (k:Nat),k<z2→¬(D.getD k Sh.con.nil).name=s)→True→ifB (decide ((↑z2:Int)<(↑D.length:Int))) (((0:Int)≤(↑z2:Int)∧(↑z2:Int)<(↑D.length:Int))∧ifB (decide ((D.getD (↑z2:Int).toNat Sh.con.nil).name=s)) (EndU 1 (Out.ret (iV (QdB D s)) [PO.cells [sV s]]).fin true (iV (↑z2:Int)) [PO.cells [sV s]]) (∃ (x3:Nat),(((rfB (sV s)∧True)∧True)∧rfB (dP Sh.con D)∧rfB (PV.fn 168 [] [PV.bp 0 0])∧rfB (iV (↑D.length:Int))∧SubB (iV (IntKind.i64.wrap ((↑z2:Int)+(1:Int)))) (iV (↑x3:Int))∧True)∧(x3≤D.length∧∀ (k:Nat),k<x3→¬(D.getD k Sh.con.nil).name=s)∧True∧(D.length - x3).succ.le (D.length - z2))) (EndU 1 (Out.ret (iV (QdB D s)) [PO.cells [sV s]]).fin true (iV (-1:Int)) [PO.cells [sV s]])) ?kr ?_
     case kr=>kernel_rfl
     refine ⟨?x0,⟨⟨⟨⟨.refl _,trivial⟩,trivial⟩,⟨.refl _,⟨.refl _,⟨.refl _,⟨?m0,trivial⟩⟩⟩⟩⟩,⟨?s0,⟨trivial,fun z2=>fun hq0=>fun _=>Qaa.2 ⟨fun hb1=>⟨?s1,Qaa.2 ⟨fun hb2=>?m1,fun hb2=>⟨?x1,⟨⟨⟨⟨.refl _,trivial⟩,trivial⟩,⟨.refl _,⟨.refl _,⟨.refl _,⟨?m2,trivial⟩⟩⟩⟩⟩,⟨?s2,⟨trivial,?m3⟩⟩⟩⟩⟩⟩,fun hb1=>?m4⟩⟩⟩⟩⟩
     case x0=>exact 0
     case x1=>exact z2+1
     all_goals try simp only [decide_eq_true_eq,decide_eq_false_iff_not] at *
     case m0=>exact .refl _
     case s0=>exact ⟨Nat.zero_le _,fun k hk=>by omega⟩
     case s1=>omega
     case m1=>exact endU rfl (Qai (QcF Sh.con.nil (by omega) (by simpa using hb2) (fun k hk=>by simpa using hq0.2 k hk)).symm) rfl rfl (r:=[]) rfl
     case m2=>exact Qai (by rw [wJ _ (by omega) (by omega)]; omega)
     case s2 =>
      refine ⟨by omega,fun k hk=>?_⟩
      by_cases hkz:k=z2
      · subst hkz; exact hb2
      · exact hq0.2 k (by omega)
     case m3 => have : D.length - (z2 + 1) < D.length - z2 := by omega
                exact this
     case m4=>exact endU rfl (Qai (Qb1 Sh.con.nil fun k hk=>by simpa using hq0.2 k (by omega)).symm) rfl rfl (r:=[]) rfl
   · cases hs
 · cases hs
def plP (p:Nat × Nat):PV:=.agg [iV p.1,iV p.2]
theorem Qut {a b:Int} {p:Nat × Nat} (ha:a=p.1) (hb:b=p.2):Sub (.agg [iV a,iV b]) (plP p):=by subst ha hb; exact .refl _
def QpK:Spec
 | [.f (.dt .dat D),.f (.v (.string s))]=>some (none,.nm (Option (Nat × Nat)) (conM D s 0) fun r=>.tup [plP (r.getD (0,0)),bV r.isSome])
 | _=>none
theorem QvK {E:Env} (hU:Up E):Contract Tryz.prog E 128 QpK:=by
 refine Qad [] [(167,Qk8)] Tryz.ntmps128 Tryz.func128 (by kernel_rfl) (by kernel_rfl) hU trivial ⟨QvA hU,trivial⟩ ?_
 intro xs p r hs hp
 unfold QpK at hs
 split at hs
 · rename_i D s
   cases hs
   refine ⟨[.f (.dt .dat D),.f (.v (.string s))],[(2,.s ⟨Nat,fun i=>⟨[(3,.bp 0 0),(4,.bp 1 0),(9,.f (.dt .dat D)),(10,iV D.length),(11,iV i)],[.cells [sV s],.cells [iV 0,iV 0]]⟩,fun i=>i≤D.length∧conM (D.drop i) s i=conM D s 0,fun i=>D.length - i⟩)],.cons (.refl _) (.cons (.refl _) .nil),rfl,fun _ hsh=>?_⟩
   have hl:=Qay hsh.1
   refine Qab (p:=∃ (x1:Nat),(((rfB (sV s)∧True)∧(rfB (iV 0)∧rfB (iV 0)∧True)∧True)∧rfB (PV.bp 0 0)∧rfB (PV.bp 1 0)∧rfB (dP Sh.dat D)∧rfB (iV (↑D.length:Int))∧SubB (iV 0) (iV (↑x1:Int))∧True)∧(x1≤D.length∧conM (List.drop x1 D) s x1=conM D s 0)∧True∧∀ (z2:Nat),z2≤D.length∧conM (List.drop z2 D) s z2=conM D s 0→True→ifB (decide ((↑z2:Int)<(↑D.length:Int))) (((0:Int)≤(↑z2:Int)∧(↑z2:Int)<(↑D.length:Int))∧ifB (decide (QdB (D.getD (↑z2:Int).toNat Sh.dat.nil).cons s ≥ (0:Int))) (true=true∧Sub (PV.tup [PV.agg [iV (↑z2:Int),iV (QdB (D.getD (↑z2:Int).toNat Sh.dat.nil).cons s)],bV true]) (PV.tup [PV.agg [iV (↑((conM D s 0).getD (0,0)).fst:Int),iV (↑((conM D s 0).getD (0,0)).snd:Int)],bV ((conM D s 0).isSome)])) (∃ (x3:Nat),(((rfB (sV s)∧True)∧(rfB (iV 0)∧rfB (iV 0)∧True)∧True)∧rfB (PV.bp 0 0)∧rfB (PV.bp 1 0)∧rfB (dP Sh.dat D)∧rfB (iV (↑D.length:Int))∧SubB (iV (IntKind.i64.wrap ((↑z2:Int)+(1:Int)))) (iV (↑x3:Int))∧True)∧(x3≤D.length∧conM (List.drop x3 D) s x3=conM D s 0)∧True∧(D.length - x3).succ.le (D.length - z2))) (true=true∧Sub (PV.tup [PV.agg [iV 0,iV 0],bV false]) (PV.tup [PV.agg [iV (↑((conM D s 0).getD (0,0)).fst:Int),iV (↑((conM D s 0).getD (0,0)).snd:Int)],bV ((conM D s 0).isSome)]))) ?kr ?_
   case kr=>kernel_rfl
   refine ⟨?x0,⟨⟨⟨⟨.refl _,trivial⟩,⟨⟨.refl _,⟨.refl _,trivial⟩⟩,trivial⟩⟩,⟨.refl _,⟨.refl _,⟨.refl _,⟨.refl _,⟨?m0,trivial⟩⟩⟩⟩⟩⟩,⟨?s0,⟨trivial,fun z2=>fun hq0=>fun _=>Qaa.2 ⟨fun hb1=>⟨?s1,Qaa.2 ⟨fun hb2=>⟨rfl,?m1⟩,fun hb2=>⟨?x1,⟨⟨⟨⟨.refl _,trivial⟩,⟨⟨.refl _,⟨.refl _,trivial⟩⟩,trivial⟩⟩,⟨.refl _,⟨.refl _,⟨.refl _,⟨.refl _,⟨?m2,trivial⟩⟩⟩⟩⟩⟩,⟨?s2,⟨trivial,?m3⟩⟩⟩⟩⟩⟩,fun hb1=>⟨rfl,?m4⟩⟩⟩⟩⟩⟩
   case x0=>exact 0
   case x1=>exact z2+1
   all_goals try simp only [decide_eq_true_eq,decide_eq_false_iff_not,Int.toNat_natCast] at *
   case m0=>exact .refl _
   case s0=>exact ⟨Nat.zero_le _,rfl⟩
   case m4 =>
    have h:=hq0.2
    rw [List.drop_eq_nil_of_le (by omega)] at h
    rw [← h]; exact .refl _
   all_goals have hz:z2<D.length:=by omega
   all_goals have h:=hq0.2
   all_goals rw [Qgt D Sh.dat.nil hz,conM] at h
   case s1=>omega
   case m1 =>
    rw [if_pos hb2] at h
    rw [← h]
    have e:(((QdB (D.getD z2 Sh.dat.nil).cons s).toNat:Nat):Int)=QdB (D.getD z2 Sh.dat.nil).cons s:=by omega
    exact QtH (.cons (Qut rfl e.symm) (.cons (.refl _) .nil))
   case m2=>exact Qai (by rw [wJ _ (by omega) (by omega)]; rfl)
   case s2=>rw [if_neg hb2] at h; exact ⟨hz,h⟩
   case m3=>exact (by omega:D.length - (z2+1)<D.length - z2)
 · cases hs
def QpB:Spec
 | [.f (.dt .dat D),.agg [.f (.v (.int .i64 a)),.f (.v (.int .i64 b))]]=>some (some (0≤a∧0≤b∧a<D.length∧b<((D.getD a.toNat Sh.dat.nil).cons).length),.one (.f (.dt .str (Qaz D (a.toNat,b.toNat)))))
 | _=>none
theorem QvD {E:Env} (hU:Up E):Contract Tryz.prog E 130 QpB:=by
 refine Qad [] [] Tryz.ntmps130 Tryz.func130 (by kernel_rfl) (by kernel_rfl) hU trivial trivial ?_
 intro xs p r hs hp
 unfold QpB at hs
 split at hs
 · rename_i D a b
   cases hs
   have hq:=hp _ rfl
   refine ⟨[.f (.dt .dat D),.agg [.f (.v (.int .i64 a)),.f (.v (.int .i64 b))]],[],.cons (.refl _) (.cons (.refl _) .nil),rfl,fun _ hsh=>?_⟩
   refine Qab (p:=((0:Int)≤a∧a<(↑D.length:Int))∧((0:Int)≤b∧b<(↑(D.getD a.toNat Sh.dat.nil).cons.length:Int))∧true=true∧Sub (dP Sh.str ((D.getD a.toNat Sh.dat.nil).cons.getD b.toNat Sh.con.nil).fields) (dP Sh.str (Qaz D (a.toNat,b.toNat)))) ?kr ?_
   case kr=>kernel_rfl
   refine ⟨?s0,⟨?s1,⟨rfl,?m0⟩⟩⟩
   case s0=>exact ⟨hq.1,hq.2.2.1⟩
   case s1=>exact ⟨hq.2.1,hq.2.2.2⟩
   case m0=>exact .refl _
 · cases hs
def Qlc:Spec2
 | [.agg [.f (.v (.string n)),.f (.dt .con l)],.bp 0 0],[.cells [.f (.v (.string s))]]=>some (.ret (bV (decide (n=s))) [.cells [sV s]])
 | _,_=>none
theorem QvG {E:Env} (hU:Up E):Contract2 Tryz.prog E 169 Qlc:=by
 refine contract2 [] [] Tryz.ntmps169 Tryz.func169 (by kernel_rfl) (by kernel_rfl) hU trivial trivial ?_
 intro xs ob o hs hok
 unfold Qlc at hs
 split at hs
 · rename_i n l s
   cases hs
   refine ⟨[.agg [.f (.v (.string n)),.f (.dt .con l)],.bp 0 0],[],.cons (.refl _) (.cons (.refl _) .nil),rfl,fun _ hsh=>?_⟩
   refine Qab (p:=EndU 1 (Out.ret (bV (decide (n=s))) [PO.cells [sV s]]).fin true (bV (n.toList==s.toList)) [PO.cells [sV s],PO.cells [sV n,dP Sh.con l]]) ?kr ?_
   case kr=>kernel_rfl
   refine ?m0
   case m0=>exact endU rfl (QaA (bs_l n s)) rfl rfl (r:=[.cells [sV n,.f (.dt .con l)]]) rfl
 · cases hs
def Qh8:Spec2
 | [.f (.dt .dat D),.fn f [] [.bp 0 0]],[.cells [.f (.v (.string s))]]=>match Nat.beq f 169 with
  | true=>some (.ret (iV (anyD D s)) [.cells [sV s]])
  | false=>none
 | _,_=>none
theorem QsL {E:Env} (hU:Up E):Contract2 Tryz.prog E 172 Qh8:=by
 refine contract2 [] [(169,Qlc)] Tryz.ntmps172 Tryz.func172 (by kernel_rfl) (by kernel_rfl) hU trivial ⟨QvG hU,trivial⟩ ?_
 intro xs ob o hs hok
 unfold Qh8 at hs
 split at hs
 · rename_i D f s
   split at hs
   · rename_i hf
     cases hs
     have hf:=Nat.eq_of_beq_eq_true hf
     subst hf
     refine ⟨[.f (.dt .dat D),.fn 169 [] [.bp 0 0]],[(2,.s ⟨Nat,fun i=>⟨[(0,.f (.dt .dat D)),(1,.fn 169 [] [.bp 0 0]),(7,iV D.length),(8,iV i)],[.cells [sV s]]⟩,fun i=>i≤D.length∧∀ k,k<i→¬ (Dat.name (D.getD k Sh.dat.nil)=s),fun i=>D.length - i⟩)],.cons (.refl _) (.cons (.refl _) .nil),rfl,fun _ hsh=>?_⟩
     have hl:=Qay hsh.1
     refine Qab (p:=∃ (x1:Nat),(((rfB (sV s)∧True)∧True)∧rfB (dP Sh.dat D)∧rfB (PV.fn 169 [] [PV.bp 0 0])∧rfB (iV (↑D.length:Int))∧SubB (iV 0) (iV (↑x1:Int))∧True)∧(x1≤D.length∧∀ (k:Nat),k<x1→¬(D.getD k Sh.dat.nil).name=s)∧True∧∀ (z2:Nat),(z2≤D.length∧∀ (k:Nat),k<z2→¬(D.getD k Sh.dat.nil).name=s)→True→ifB (decide ((↑z2:Int)<(↑D.length:Int))) (((0:Int)≤(↑z2:Int)∧(↑z2:Int)<(↑D.length:Int))∧ifB (decide ((D.getD (↑z2:Int).toNat Sh.dat.nil).name=s)) (EndU 1 (Out.ret (iV (anyD D s)) [PO.cells [sV s]]).fin true (iV (↑z2:Int)) [PO.cells [sV s]]) (∃ (x3:Nat),(((rfB (sV s)∧True)∧True)∧rfB (dP Sh.dat D)∧rfB (PV.fn 169 [] [PV.bp 0 0])∧rfB (iV (↑D.length:Int))∧SubB (iV (IntKind.i64.wrap ((↑z2:Int)+(1:Int)))) (iV (↑x3:Int))∧True)∧(x3≤D.length∧∀ (k:Nat),k<x3→¬(D.getD k Sh.dat.nil).name=s)∧True∧(D.length - x3).succ.le (D.length - z2))) (EndU 1 (Out.ret (iV (anyD D s)) [PO.cells [sV s]]).fin true (iV (-1:Int)) [PO.cells [sV s]])) ?kr ?_
     case kr=>kernel_rfl
     refine ⟨?x0,⟨⟨⟨⟨.refl _,trivial⟩,trivial⟩,⟨.refl _,⟨.refl _,⟨.refl _,⟨?m0,trivial⟩⟩⟩⟩⟩,⟨?s0,⟨trivial,fun z2=>fun hq0=>fun _=>Qaa.2 ⟨fun hb1=>⟨?s1,Qaa.2 ⟨fun hb2=>?m1,fun hb2=>⟨?x1,⟨⟨⟨⟨.refl _,trivial⟩,trivial⟩,⟨.refl _,⟨.refl _,⟨.refl _,⟨?m2,trivial⟩⟩⟩⟩⟩,⟨?s2,⟨trivial,?m3⟩⟩⟩⟩⟩⟩,fun hb1=>?m4⟩⟩⟩⟩⟩
     case x0=>exact 0
     case x1=>exact z2+1
     all_goals try simp only [decide_eq_true_eq,decide_eq_false_iff_not] at *
     case m0=>exact .refl _
     case s0=>exact ⟨Nat.zero_le _,fun k hk=>by omega⟩
     case s1=>omega
     case m1=>exact endU rfl (Qai (QcF Sh.dat.nil (by omega) (by simpa using hb2) (fun k hk=>by simpa using hq0.2 k hk)).symm) rfl rfl (r:=[]) rfl
     case m2=>exact Qai (by rw [wJ _ (by omega) (by omega)]; omega)
     case s2 =>
      refine ⟨by omega,fun k hk=>?_⟩
      by_cases hkz:k=z2
      · subst hkz; exact hb2
      · exact hq0.2 k (by omega)
     case m3 => have : D.length - (z2 + 1) < D.length - z2 := by omega
                exact this
     case m4=>exact endU rfl (Qai (Qb1 Sh.dat.nil fun k hk=>by simpa using hq0.2 k (by omega)).symm) rfl rfl (r:=[]) rfl
   · cases hs
 · cases hs
def Qlf:Spec2
 | [.f (.dt .dat D),.fn f [] [.bp 0 0]],[.cells [.f (.v (.string s))]]=>match Nat.beq f 169 with
  | true=>some (.ret (bV (decide (0≤anyD D s))) [.cells [sV s]])
  | false=>none
 | _,_=>none
theorem QvJ {E:Env} (hU:Up E):Contract2 Tryz.prog E 136 Qlf:=by
 refine contract2 [] [(172,Qh8)] Tryz.ntmps136 Tryz.func136 (by kernel_rfl) (by kernel_rfl) hU trivial ⟨QsL hU,trivial⟩ ?_
 intro xs ob o hs hok
 unfold Qlf at hs
 split at hs
 · rename_i D f s
   split at hs
   · rename_i hf
     cases hs
     have hf:=Nat.eq_of_beq_eq_true hf
     subst hf
     refine ⟨[.f (.dt .dat D),.fn 169 [] [.bp 0 0]],[],.cons (.refl _) (.cons (.refl _) .nil),rfl,fun _ hsh=>?_⟩
     refine Qab (p:=EndU 1 (Out.ret (bV (decide ((0:Int)≤anyD D s))) [PO.cells [sV s]]).fin true (bV (decide (anyD D s ≥ (0:Int)))) [PO.cells [sV s]]) ?kr ?_
     case kr=>kernel_rfl
     refine ?m0
     case m0=>exact endU rfl (.refl _) rfl rfl (r:=[]) rfl
   · cases hs
 · cases hs
def QpE:Spec
 | [.f (.dt .dat D),.f (.v (.string s))]=>some (none,.nm Bool (QaR D s) bV)
 | _=>none
theorem cDataM {E:Env} (hU:Up E):Contract Tryz.prog E 129 QpE:=by
 refine Qad [] [(136,Qlf)] Tryz.ntmps129 Tryz.func129 (by kernel_rfl) (by kernel_rfl) hU trivial ⟨QvJ hU,trivial⟩ ?_
 intro xs p r hs hp
 unfold QpE at hs
 split at hs
 · rename_i D s
   cases hs
   refine ⟨[.f (.dt .dat D),.f (.v (.string s))],[],.cons (.refl _) (.cons (.refl _) .nil),rfl,fun _ hsh=>?_⟩
   refine Qab (p:=ifB (!s.toList==(ByteArray.mk #[(105:UInt8),(110:UInt8),(116:UInt8)]).toList) (ifB (!s.toList==(ByteArray.mk #[(98:UInt8),(111:UInt8),(111:UInt8),(108:UInt8)]).toList) (true=true∧Sub (bV (decide ((0:Int)≤anyD D s))) (bV (QaR D s))) (true=true∧Sub (bV false) (bV (QaR D s)))) (true=true∧Sub (bV false) (bV (QaR D s)))) ?kr ?_
   case kr=>kernel_rfl
   refine Qaa.2 ⟨fun hb0=>Qaa.2 ⟨fun hb1=>⟨rfl,?m0⟩,fun hb1=>⟨rfl,?m1⟩⟩,fun hb0=>⟨rfl,?m2⟩⟩
   all_goals refine (QaA ?_).sub
   all_goals simp only [bs_l,QaR,anyD] at *
   all_goals simp_all [bInt,QaM]
   all_goals rfl
 · cases hs
def Qpy:Spec
 | [x]=>match vlOf x with
  | some v=>some (none,.nm Bool (Qbo v) bV)
  | none=>none
 | _=>none
theorem cNoneM {E:Env} (hU:Up E):Contract Tryz.prog E 127 Qpy:=by
 refine Qad [] [] Tryz.ntmps127 Tryz.func127 (by kernel_rfl) (by kernel_rfl) hU trivial trivial ?_
 intro xs p r hs hp
 unfold Qpy at hs
 split at hs
 · rename_i x
   split at hs
   · rename_i v hv
     cases hs
     refine ⟨[vlP v],[],.cons (Qbu hv).sub .nil,rfl,fun _ hsh=>?_⟩
     refine Qab (p:=ifB (v.kind==(1:Int)) (ifB (v.kind==(2:Int)) (ifB (v.kind==(3:Int)) (true=true∧Sub (bV true) (bV (Qbo v))) (ifB (v.name.toList==(ByteArray.mk #[]).toList) (true=true∧Sub (bV ((↑v.fields.length:Int)==(0:Int))) (bV (Qbo v))) (true=true∧Sub (bV false) (bV (Qbo v))))) (ifB (!v.truth) (ifB (v.kind==(3:Int)) (true=true∧Sub (bV true) (bV (Qbo v))) (ifB (v.name.toList==(ByteArray.mk #[]).toList) (true=true∧Sub (bV ((↑v.fields.length:Int)==(0:Int))) (bV (Qbo v))) (true=true∧Sub (bV false) (bV (Qbo v))))) (true=true∧Sub (bV false) (bV (Qbo v))))) (ifB ((↑v.digits.length:Int)==(0:Int)) (ifB (!v.neg) (ifB (v.kind==(2:Int)) (ifB (v.kind==(3:Int)) (true=true∧Sub (bV true) (bV (Qbo v))) (ifB (v.name.toList==(ByteArray.mk #[]).toList) (true=true∧Sub (bV ((↑v.fields.length:Int)==(0:Int))) (bV (Qbo v))) (true=true∧Sub (bV false) (bV (Qbo v))))) (ifB (!v.truth) (ifB (v.kind==(3:Int)) (true=true∧Sub (bV true) (bV (Qbo v))) (ifB (v.name.toList==(ByteArray.mk #[]).toList) (true=true∧Sub (bV ((↑v.fields.length:Int)==(0:Int))) (bV (Qbo v))) (true=true∧Sub (bV false) (bV (Qbo v))))) (true=true∧Sub (bV false) (bV (Qbo v))))) (true=true∧Sub (bV false) (bV (Qbo v)))) (true=true∧Sub (bV false) (bV (Qbo v))))) ?kr ?_
     case kr=>kernel_rfl
     refine Qaa.2 ⟨fun hb0=>Qaa.2 ⟨fun hb1=>Qaa.2 ⟨fun hb2=>⟨rfl,?m0⟩,fun hb2=>Qaa.2 ⟨fun hb3=>⟨rfl,?m1⟩,fun hb3=>⟨rfl,?m2⟩⟩⟩,fun hb1=>Qaa.2 ⟨fun hb4=>Qaa.2 ⟨fun hb5=>⟨rfl,?m3⟩,fun hb5=>Qaa.2 ⟨fun hb6=>⟨rfl,?m4⟩,fun hb6=>⟨rfl,?m5⟩⟩⟩,fun hb4=>⟨rfl,?m6⟩⟩⟩,fun hb0=>Qaa.2 ⟨fun hb7=>Qaa.2 ⟨fun hb8=>Qaa.2 ⟨fun hb9=>Qaa.2 ⟨fun hb10=>⟨rfl,?m7⟩,fun hb10=>Qaa.2 ⟨fun hb11=>⟨rfl,?m8⟩,fun hb11=>⟨rfl,?m9⟩⟩⟩,fun hb9=>Qaa.2 ⟨fun hb12=>Qaa.2 ⟨fun hb13=>⟨rfl,?m10⟩,fun hb13=>Qaa.2 ⟨fun hb14=>⟨rfl,?m11⟩,fun hb14=>⟨rfl,?m12⟩⟩⟩,fun hb12=>⟨rfl,?m13⟩⟩⟩,fun hb8=>⟨rfl,?m14⟩⟩,fun hb7=>⟨rfl,?m15⟩⟩⟩
     all_goals refine (QaA ?_).sub
     all_goals try simp only [bs_l] at *
     all_goals unfold Qbo
     all_goals grind
   · cases hs
 · cases hs
end Go.Proofs.YtemhncjjiomppaaGreatDoor
namespace Go.Proofs.YtemhncjjiomppaaGreatDoor
open Go.RowKit
set_option linter.unusedVariables false
set_option maxRecDepth 100000
theorem Qp8 {D:List Dat}:∀ {l:List ByteArray} {m:List Vw} {i:Nat} (s:ByteArray) (d:Vw),i<l.length→i<m.length→ofV D (l.getD i s) (m.getD i d)=false→ofVL D l m=false
 | a::l,v::m,0,s,d,_,_,h=>by
  have h:ofV D a v=false:=by simpa using h
  simp only [ofVL,h,Bool.false_and]
 | a::l,v::m,i+1,s,d,h1,h2,h=>by
  simp only [ofVL]
  rw [Qp8 (l:=l) (m:=m) (i:=i) s d (by simpa using h1) (by simpa using h2) (by simpa using h),Bool.and_false]
theorem QmM {D:List Dat}:∀ {l:List ByteArray} {m:List Vw} (s:ByteArray) (d:Vw),l.length=m.length→(∀ i,i<l.length→ofV D (l.getD i s) (m.getD i d)=true)→ofVL D l m=true
 | [],m,s,d,_,_=>by cases m <;> rfl
 | a::l,[],s,d,h,_=>by simp at h
 | a::l,v::m,s,d,h,hi=>by
  have h0:ofV D a v=true:=by simpa using hi 0 (by simp)
  simp only [ofVL,h0,Bool.true_and]
  exact QmM (l:=l) (m:=m) s d (by simpa using h) fun i hil=>by simpa using hi (i+1) (by simpa using hil)
theorem QkB {α:Type} (l:List α):((l.length:Int)==0)=decide (l.length=0):=by
 cases l with
 | nil=>rfl
 | cons a m=>exact (decide_eq_false (by simp; omega)).trans (decide_eq_false (by simp)).symm
def Qpw (n:Nat):Spec
 | [.f (.dt .dat D),.f (.v (.string s)),x]=>match vlOf x with
  | some v=>some (some (v.size<n∧v.fitV 40000000),.nm Bool (ofV D s v) bV)
  | none=>none
 | _=>none
theorem cOfMN {E:Env} (hU:Up E):∀ n,Contract Tryz.prog E 80 (Qpw n)
 | 0=>by
  intro xs p r hs hp
  unfold Qpw at hs
  split at hs
  · split at hs
    · cases hs
      exact absurd (hp _ rfl).1 (Nat.not_lt_zero _)
    · cases hs
  · cases hs
 | n+1=>by
  refine Qad [(127,Qpy),(83,QfK),(128,QpK),(129,QpE),(130,QpB),(80,Qpw n)] [] Tryz.ntmps80 Tryz.func80 (by kernel_rfl) (by kernel_rfl) hU ⟨cNoneM hU,Qnv hU,QvK hU,cDataM hU,QvD hU,cOfMN hU n,trivial⟩ trivial ?_
  intro xs p r hs hp
  unfold Qpw at hs
  split at hs
  · rename_i D s x
    split at hs
    · rename_i v hv
      cases hs
      obtain ⟨hn,hf⟩:=hp _ rfl
      have f2:=(Vw.fitV_eq _ v).1 hf
      refine ⟨[.f (.dt .dat D),.f (.v (.string s)),vlP v],[(20,.s ⟨Nat,fun i=>⟨[(0,.f (.dt .dat D)),(5,.bp 0 0),(72,.f (.dt .str (Qaz D ((conM D v.name 0).getD (0,0))))),(73,iV v.fields.length),(74,iV i)],[.cells (Qac (vlC v))]⟩,fun i=>i≤v.fields.length∧(Qaz D ((conM D v.name 0).getD (0,0))).length=v.fields.length∧∀ k,k<i→ofV D ((Qaz D ((conM D v.name 0).getD (0,0))).getD k Sh.str.nil) (v.fields.getD k Sh.vl.nil)=true,fun i=>v.fields.length - i⟩)],.cons (.refl _) (.cons (.refl _) (.cons (Qbu hv).sub .nil)),rfl,fun _ hsh=>?_⟩
      refine Qab (p:=∀ (z1:Bool),z1=Qbo (etaV v)→ifB (!z1) (true=true∧Sub (bV false) (bV (ofV D s v))) (ifB (v.kind==(1:Int)) (ifB (s.toList==(ByteArray.mk #[(105:UInt8),(110:UInt8),(116:UInt8)]).toList) (v.digits.length≤100000000∧true=true∧Sub (bV (Qau v.neg v.digits)) (bV (ofV D s v))) (true=true∧Sub (bV false) (bV (ofV D s v)))) (ifB (v.kind==(2:Int)) (true=true∧Sub (bV (s.toList==(ByteArray.mk #[(98:UInt8),(111:UInt8),(111:UInt8),(108:UInt8)]).toList)) (bV (ofV D s v))) (ifB (v.kind==(3:Int)) (∀ (z2:Option (Nat × Nat)),z2=conM D v.name 0→∀ (z3:Bool),z3=QaR D s→ifB (!z3) (true=true∧Sub (bV false) (bV (ofV D s v))) (ifB (v.name.toList==(ByteArray.mk #[]).toList) (true=true∧Sub (bV ((↑v.fields.length:Int)==(0:Int))) (bV (ofV D s v))) (ifB (!z2.isSome) (true=true∧Sub (bV false) (bV (ofV D s v))) (((0:Int)≤(↑(z2.getD (0,0)).fst:Int)∧(↑(z2.getD (0,0)).fst:Int)<(↑D.length:Int))∧ifB (!(D.getD (↑(z2.getD (0,0)).fst:Int).toNat Sh.dat.nil).name.toList==s.toList) (true=true∧Sub (bV false) (bV (ofV D s v))) (((0:Int)≤(↑(z2.getD (0,0)).fst:Int)∧(0:Int)≤(↑(z2.getD (0,0)).snd:Int)∧(↑(z2.getD (0,0)).fst:Int)<(↑D.length:Int)∧(↑(z2.getD (0,0)).snd:Int)<(↑(D.getD (↑(z2.getD (0,0)).fst:Int).toNat Sh.dat.nil).cons.length:Int))∧ifB ((↑(Qaz D ((↑(z2.getD (0,0)).fst:Int).toNat,(↑(z2.getD (0,0)).snd:Int).toNat)).length:Int) != (↑v.fields.length:Int)) (true=true∧Sub (bV false) (bV (ofV D s v))) (((0:Int)≤(↑(z2.getD (0,0)).fst:Int)∧(0:Int)≤(↑(z2.getD (0,0)).snd:Int)∧(↑(z2.getD (0,0)).fst:Int)<(↑D.length:Int)∧(↑(z2.getD (0,0)).snd:Int)<(↑(D.getD (↑(z2.getD (0,0)).fst:Int).toNat Sh.dat.nil).cons.length:Int))∧∃ (x4:Nat),(((rfB (uV v.kind)∧rfB (bV v.neg)∧rfB (PV.f (Lf.lr v.digits v.digits.length))∧rfB (bV v.truth)∧rfB (sV v.name)∧rfB (dP Sh.vl v.fields)∧True)∧True)∧rfB (dP Sh.dat D)∧rfB (PV.bp 0 0)∧SubB (dP Sh.str (Qaz D ((↑(z2.getD (0,0)).fst:Int).toNat,(↑(z2.getD (0,0)).snd:Int).toNat))) (dP Sh.str (Qaz D ((conM D v.name 0).getD (0,0))))∧SubB (iV (↑(Qaz D ((↑(z2.getD (0,0)).fst:Int).toNat,(↑(z2.getD (0,0)).snd:Int).toNat)).length:Int)) (iV (↑v.fields.length:Int))∧SubB (iV 0) (iV (↑x4:Int))∧True)∧(x4≤v.fields.length∧(Qaz D ((conM D v.name 0).getD (0,0))).length=v.fields.length∧∀ (k:Nat),k<x4→ofV D ((Qaz D ((conM D v.name 0).getD (0,0))).getD k Sh.str.nil) (v.fields.getD k Sh.vl.nil)=true)∧True∧∀ (z5:Nat),(z5≤v.fields.length∧(Qaz D ((conM D v.name 0).getD (0,0))).length=v.fields.length∧∀ (k:Nat),k<z5→ofV D ((Qaz D ((conM D v.name 0).getD (0,0))).getD k Sh.str.nil) (v.fields.getD k Sh.vl.nil)=true)→True→ifB (decide ((↑z5:Int)<(↑v.fields.length:Int))) (((0:Int)≤(↑z5:Int)∧(↑z5:Int)<(↑(Qaz D ((conM D v.name 0).getD (0,0))).length:Int))∧((0:Int)≤(↑z5:Int)∧(↑z5:Int)<(↑v.fields.length:Int))∧((etaV (v.fields.getD (↑z5:Int).toNat Sh.vl.nil)).size<n∧Vw.fitV 40000000 (etaV (v.fields.getD (↑z5:Int).toNat Sh.vl.nil)))∧∀ (z6:Bool),z6=ofV D ((Qaz D ((conM D v.name 0).getD (0,0))).getD (↑z5:Int).toNat Sh.str.nil) (etaV (v.fields.getD (↑z5:Int).toNat Sh.vl.nil))→ifB (!z6) (true=true∧Sub (bV false) (bV (ofV D s v))) (∃ (x7:Nat),(((rfB (uV v.kind)∧rfB (bV v.neg)∧rfB (PV.f (Lf.lr v.digits v.digits.length))∧rfB (bV v.truth)∧rfB (sV v.name)∧rfB (dP Sh.vl v.fields)∧True)∧True)∧rfB (dP Sh.dat D)∧rfB (PV.bp 0 0)∧rfB (dP Sh.str (Qaz D ((conM D v.name 0).getD (0,0))))∧rfB (iV (↑v.fields.length:Int))∧SubB (iV (IntKind.i64.wrap ((↑z5:Int)+(1:Int)))) (iV (↑x7:Int))∧True)∧(x7≤v.fields.length∧(Qaz D ((conM D v.name 0).getD (0,0))).length=v.fields.length∧∀ (k:Nat),k<x7→ofV D ((Qaz D ((conM D v.name 0).getD (0,0))).getD k Sh.str.nil) (v.fields.getD k Sh.vl.nil)=true)∧True∧(v.fields.length - x7).succ.le (v.fields.length - z5))) (true=true∧Sub (bV true) (bV (ofV D s v))))))))) (true=true∧Sub (bV false) (bV (ofV D s v))))))) ?kr ?_
      case kr=>kernel_rfl
      refine fun z1=>fun hz1=>Qaa.2 ⟨fun hb0=>⟨rfl,?m0⟩,fun hb0=>Qaa.2 ⟨fun hb1=>Qaa.2 ⟨fun hb2=>⟨?s0,⟨rfl,?m1⟩⟩,fun hb2=>⟨rfl,?m2⟩⟩,fun hb1=>Qaa.2 ⟨fun hb3=>⟨rfl,?m3⟩,fun hb3=>Qaa.2 ⟨fun hb4=>fun z2=>fun hz2=>fun z3=>fun hz3=>Qaa.2 ⟨fun hb5=>⟨rfl,?m4⟩,fun hb5=>Qaa.2 ⟨fun hb6=>⟨rfl,?m5⟩,fun hb6=>Qaa.2 ⟨fun hb7=>⟨rfl,?m6⟩,fun hb7=>⟨?s1,Qaa.2 ⟨fun hb8=>⟨rfl,?m7⟩,fun hb8=>⟨?s2,Qaa.2 ⟨fun hb9=>⟨rfl,?m8⟩,fun hb9=>⟨?s3,⟨?x0,⟨⟨⟨⟨.refl _,⟨.refl _,⟨.refl _,⟨.refl _,⟨.refl _,⟨.refl _,trivial⟩⟩⟩⟩⟩⟩,trivial⟩,⟨.refl _,⟨.refl _,⟨?m9,⟨?m10,⟨?m11,trivial⟩⟩⟩⟩⟩⟩,⟨?s4,⟨trivial,fun z5=>fun hq10=>fun _=>Qaa.2 ⟨fun hb11=>⟨?s5,⟨?s6,⟨?s7,fun z6=>fun hz6=>Qaa.2 ⟨fun hb12=>⟨rfl,?m12⟩,fun hb12=>⟨?x1,⟨⟨⟨⟨.refl _,⟨.refl _,⟨.refl _,⟨.refl _,⟨.refl _,⟨.refl _,trivial⟩⟩⟩⟩⟩⟩,trivial⟩,⟨.refl _,⟨.refl _,⟨.refl _,⟨.refl _,⟨?m13,trivial⟩⟩⟩⟩⟩⟩,⟨?s8,⟨trivial,?m14⟩⟩⟩⟩⟩⟩⟩⟩,fun hb11=>⟨rfl,?m15⟩⟩⟩⟩⟩⟩⟩⟩⟩⟩⟩⟩⟩⟩,fun hb4=>⟨rfl,?m16⟩⟩⟩⟩⟩
      all_goals try simp only [etaV] at *
      case x0=>exact 0
      case x1=>exact z5+1
      all_goals try simp only [bs_l,Vw.eta,decide_eq_true_eq,decide_eq_false_iff_not,Int.toNat_natCast,beq_iff_eq,beq_eq_false_iff_ne,bne_iff_ne,bne_eq_false_iff_eq,ne_eq,Bool.not_eq_true',Bool.not_eq_false',Int.natCast_inj] at *
      all_goals have he:=Qe0 D s v
      all_goals have hI:bInt=ByteArray.mk #[(105:UInt8),(110:UInt8),(116:UInt8)]:=rfl
      all_goals have hB:QaM=ByteArray.mk #[(98:UInt8),(111:UInt8),(111:UInt8),(108:UInt8)]:=rfl
      all_goals try refine (QaA ?_).sub
      case m0=>rw [he,← hz1,hb0]; rfl
      case s0=>have:=f2.2.1; omega
      case m1=>rw [he,← hz1,hb0,if_pos hb1,hI,← hb2]; simp
      case m2=>rw [he,← hz1,hb0,if_pos hb1,hI]; simp [hb2]
      case m3=>rw [he,← hz1,hb0,if_neg hb1,if_pos hb3,hB]; simp
      all_goals try rw [← hz1,hb0,if_neg hb1,if_neg hb3] at he
      case m16=>rw [he,if_neg hb4]; rfl
      all_goals rw [if_pos hb4,← hz3] at he
      case m4=>rw [he,hb5]; rfl
      all_goals rw [hb5] at he
      case m5=>rw [he,if_pos hb6,Bool.true_and,Bool.true_and]; exact (QkB v.fields)
      all_goals have hp0:∀ q,z2=some q→0≤q.1∧q.1 - 0<D.length∧q.2<((D.getD (q.1 - 0) Sh.dat.nil).cons).length:=fun q hq=>QdT (hz2.symm.trans hq)
      all_goals rw [if_neg hb6] at he
      all_goals generalize conM D v.name 0=cp at *
      all_goals subst hz2
      case m6 =>
       cases z2 with
       | none=>rw [he]; rfl
       | some p=>cases hb7
      all_goals cases z2 with
       | none=>cases hb7
       | some p=>_
      all_goals obtain ⟨-,hp1,hp2⟩:=hp0 p rfl
      all_goals simp only [Option.getD_some,Nat.sub_zero,Bool.true_and] at *
      all_goals have hq0:(Qaz D p)=(Qaz D (p.1,p.2)):=rfl
      case s1=>omega
      case m7=>rw [he,decide_eq_false hb8]; rfl
      all_goals rw [decide_eq_true hb8,Bool.true_and] at he
      case s2=>exact ⟨by omega,by omega,by omega,by omega⟩
      case m8=>rw [he,decide_eq_false hb9]; rfl
      all_goals rw [decide_eq_true hb9,Bool.true_and] at he
      case s3=>exact ⟨by omega,by omega,by omega,by omega⟩
      case m9=>exact .refl _
      case m10=>exact Qai (by rw [hb9])
      case m11=>exact .refl _
      case s4=>exact ⟨Nat.zero_le _,hb9,fun k hk=>by omega⟩
      case s5=>have:=hq10.2.1; omega
      case s6=>omega
      case s7 =>
       have h1:=QiB (t:=v) (i:=z5) Sh.vl.nil (by omega)
       exact ⟨by omega,Qcy _ f2.2.2.2 (by omega)⟩
      case m12=>rw [he,Qp8 Sh.str.nil Sh.vl.nil (i:=z5) (by have:=hq10.2.1; omega) (by omega) (by rw [← hz6,hb12])]
      case m13=>exact Qai (by rw [wJ _ (by omega) (by omega)]; rfl)
      case s8 =>
       refine ⟨by omega,hb9,fun k hk=>?_⟩
       by_cases hkz:k=z5
       · subst hkz; rw [← hz6,hb12]
       · exact hq10.2.2 k (by omega)
      case m14=>exact (by omega:v.fields.length - (z5+1)<v.fields.length - z5)
      case m15=>rw [he]; exact (QmM Sh.str.nil Sh.vl.nil hb9 fun i hi=>hq10.2.2 i (by have:=hq10.2.1; omega)).symm
    · cases hs
  · cases hs
def sOfM:Spec
 | [.f (.dt .dat D),.f (.v (.string s)),x]=>match vlOf x with
  | some v=>some (some (v.fitV 40000000),.nm Bool (ofV D s v) bV)
  | none=>none
 | _=>none
theorem cOfM {E:Env} (hU:Up E):Contract Tryz.prog E 80 sOfM:=by
 intro xs p r hs hp
 unfold sOfM at hs
 split at hs
 · rename_i D s x
   split at hs
   · rename_i v hv
     cases hs
     exact cOfMN hU (v.size+1) [.f (.dt .dat D),.f (.v (.string s)),x] _ _ (by simp only [Qpw,hv]; rfl) (fun q hq=>by cases hq; exact ⟨Nat.lt_succ_self _,hp _ rfl⟩)
   · cases hs
 · cases hs
end Go.Proofs.YtemhncjjiomppaaGreatDoor
namespace Go.Proofs.YtemhncjjiomppaaGreatDoor
open Go.RowKit
set_option linter.unusedVariables false
set_option maxRecDepth 100000
def vlO (D:List Dat) (v:Vw):List PO:=[.cells [.f (.dt .dat D)],.cells (Qac (vlC v))]
def Qpr:Spec2
 | [.agg [.f (.v (.string n)),.f (.dt .con l)],.bp 0 0,.bp 1 0],[.cells [.f (.dt .dat D)],.cells [.f (.v (.int .u8 k)),.f (.v (.bool g)),.f (.lr dg m),.f (.v (.bool tr)),.f (.v (.string nm)),.f (.dt .vl fs)]] =>
  some (.need (m=dg.length∧(Vw.mk k g dg tr nm fs).fitV 40000000) (.nm Bool (ofV D n (.mk k g dg tr nm fs)) fun z=>.ret (bV z) (vlO D (.mk k g dg tr nm fs))))
 | _,_=>none
theorem cSomeF {E:Env} (hU:Up E):Contract2 Tryz.prog E 137 Qpr:=by
 refine contract2 [(80,sOfM)] [] Tryz.ntmps137 Tryz.func137 (by kernel_rfl) (by kernel_rfl) hU ⟨cOfM hU,trivial⟩ trivial ?_
 intro xs ob o hs hok
 unfold Qpr at hs
 split at hs
 · rename_i n l D k g dg m tr nm fs
   cases hs
   obtain ⟨⟨rfl,hf⟩,-⟩:=hok
   refine ⟨[.agg [.f (.v (.string n)),.f (.dt .con l)],.bp 0 0,.bp 1 0],[],.cons (.refl _) (.cons (.refl _) (.cons (.refl _) .nil)),rfl,fun _ hsh=>?_⟩
   refine Qab (p:=Vw.fitV 40000000 (Vw.mk k g dg tr nm fs)∧∀ (z1:Bool),z1=ofV D n (Vw.mk k g dg tr nm fs)→EndU 2 (Out.need (dg.length=dg.length∧Vw.fitV 40000000 (Vw.mk k g dg tr nm fs)) (Out.nm Bool (ofV D n (Vw.mk k g dg tr nm fs)) fun (z:Bool)=>Out.ret (bV z) (vlO D (Vw.mk k g dg tr nm fs)))).fin true (bV z1) [PO.cells [dP Sh.dat D],PO.cells [uV k,bV g,PV.f (Lf.lr dg dg.length),bV tr,sV nm,dP Sh.vl fs],PO.cells [sV n,dP Sh.con l]]) ?kr ?_
   case kr=>kernel_rfl
   refine ⟨?s0,fun z1=>fun hz1=>?m0⟩
   case s0=>exact hf
   case m0=>exact endU rfl (QaA hz1) rfl rfl (r:=[.cells [sV n,.f (.dt .con l)]]) rfl
 · cases hs
def Qk5:Spec2
 | [.f (.dt .dat D),.fn f [] [.bp 0 0,.bp 1 0]],[.cells [.f (.dt .dat D')],.cells [.f (.v (.int .u8 k)),.f (.v (.bool g)),.f (.lr dg m),.f (.v (.bool tr)),.f (.v (.string nm)),.f (.dt .vl fs)]]=>match Nat.beq f 137 with
  | true=>some (.need (m=dg.length∧(Vw.mk k g dg tr nm fs).fitV 40000000) (.nm Int (anyB D fun d=>ofV D' d.name (.mk k g dg tr nm fs)) fun z=>.ret (iV z) (vlO D' (.mk k g dg tr nm fs))))
  | false=>none
 | _,_=>none
theorem Qvx {E:Env} (hU:Up E):Contract2 Tryz.prog E 172 Qk5:=by
 refine contract2 [] [(137,Qpr)] Tryz.ntmps172 Tryz.func172 (by kernel_rfl) (by kernel_rfl) hU trivial ⟨cSomeF hU,trivial⟩ ?_
 intro xs ob o hs hok
 unfold Qk5 at hs
 split at hs
 · rename_i D f D' k g dg m tr nm fs
   split at hs
   · rename_i hf
     cases hs
     have hf:=Nat.eq_of_beq_eq_true hf
     subst hf
     obtain ⟨⟨rfl,hf⟩,-⟩:=hok
     refine ⟨[.f (.dt .dat D),.fn 137 [] [.bp 0 0,.bp 1 0]],[(2,.s ⟨Nat,fun i=>⟨[(0,.f (.dt .dat D)),(1,.fn 137 [] [.bp 0 0,.bp 1 0]),(7,iV D.length),(8,iV i)],[.cells [.f (.dt .dat D')],.cells (Qac (vlC (.mk k g dg tr nm fs)))]⟩,fun i=>i≤D.length∧∀ j,j<i→¬ (ofV D' (Dat.name (D.getD j Sh.dat.nil)) (.mk k g dg tr nm fs)=true),fun i=>D.length - i⟩)],.cons (.refl _) (.cons (.refl _) .nil),rfl,fun _ hsh=>?_⟩
     have hl:=Qay hsh.1
     refine Qab (p:=∃ (x1:Nat),(((rfB (dP Sh.dat D')∧True)∧(SubB (uV k) (uV ((Vw.mk k g dg tr nm fs).kind))∧SubB (bV g) (bV ((Vw.mk k g dg tr nm fs).neg))∧SubB (PV.f (Lf.lr dg dg.length)) (PV.f (Lf.lr (Vw.mk k g dg tr nm fs).digits (Vw.mk k g dg tr nm fs).digits.length))∧SubB (bV tr) (bV ((Vw.mk k g dg tr nm fs).truth))∧SubB (sV nm) (sV ((Vw.mk k g dg tr nm fs).name))∧SubB (dP Sh.vl fs) (dP Sh.vl (Vw.mk k g dg tr nm fs).fields)∧True)∧True)∧rfB (dP Sh.dat D)∧rfB (PV.fn 137 [] [PV.bp 0 0,PV.bp 1 0])∧rfB (iV (↑D.length:Int))∧SubB (iV 0) (iV (↑x1:Int))∧True)∧(x1≤D.length∧∀ (j:Nat),j<x1→¬ofV D' (D.getD j Sh.dat.nil).name (Vw.mk k g dg tr nm fs)=true)∧True∧∀ (z2:Nat),(z2≤D.length∧∀ (j:Nat),j<z2→¬ofV D' (D.getD j Sh.dat.nil).name (Vw.mk k g dg tr nm fs)=true)→True→ifB (decide ((↑z2:Int)<(↑D.length:Int))) (((0:Int)≤(↑z2:Int)∧(↑z2:Int)<(↑D.length:Int))∧((Vw.mk k g dg tr nm fs).digits.length=(Vw.mk k g dg tr nm fs).digits.length∧Vw.fitV 40000000 (etaV (Vw.mk k g dg tr nm fs)))∧∀ (z3:Bool),z3=ofV D' (D.getD (↑z2:Int).toNat Sh.dat.nil).name (etaV (Vw.mk k g dg tr nm fs))→ifB z3 (EndU 2 (Out.need (dg.length=dg.length∧Vw.fitV 40000000 (Vw.mk k g dg tr nm fs)) (Out.nm Int (anyB D fun (d:Sh.dat.T)=>ofV D' d.name (Vw.mk k g dg tr nm fs)) fun (z:Int)=>Out.ret (iV z) (vlO D' (Vw.mk k g dg tr nm fs)))).fin true (iV (↑z2:Int)) [PO.cells [dP Sh.dat D'],PO.cells (Qac (vlC (etaV (Vw.mk k g dg tr nm fs))))]) (∃ (x4:Nat),(((rfB (dP Sh.dat D')∧True)∧(SubB (uV ((etaV (Vw.mk k g dg tr nm fs)).kind)) (uV ((Vw.mk k g dg tr nm fs).kind))∧SubB (bV ((etaV (Vw.mk k g dg tr nm fs)).neg)) (bV ((Vw.mk k g dg tr nm fs).neg))∧SubB (PV.f (Lf.lr (etaV (Vw.mk k g dg tr nm fs)).digits (etaV (Vw.mk k g dg tr nm fs)).digits.length)) (PV.f (Lf.lr (Vw.mk k g dg tr nm fs).digits (Vw.mk k g dg tr nm fs).digits.length))∧SubB (bV ((etaV (Vw.mk k g dg tr nm fs)).truth)) (bV ((Vw.mk k g dg tr nm fs).truth))∧SubB (sV ((etaV (Vw.mk k g dg tr nm fs)).name)) (sV ((Vw.mk k g dg tr nm fs).name))∧SubB (dP Sh.vl (etaV (Vw.mk k g dg tr nm fs)).fields) (dP Sh.vl (Vw.mk k g dg tr nm fs).fields)∧True)∧True)∧rfB (dP Sh.dat D)∧rfB (PV.fn 137 [] [PV.bp 0 0,PV.bp 1 0])∧rfB (iV (↑D.length:Int))∧SubB (iV (IntKind.i64.wrap ((↑z2:Int)+(1:Int)))) (iV (↑x4:Int))∧True)∧(x4≤D.length∧∀ (j:Nat),j<x4→¬ofV D' (D.getD j Sh.dat.nil).name (Vw.mk k g dg tr nm fs)=true)∧True∧(D.length - x4).succ.le (D.length - z2))) (EndU 2 (Out.need (dg.length=dg.length∧Vw.fitV 40000000 (Vw.mk k g dg tr nm fs)) (Out.nm Int (anyB D fun (d:Sh.dat.T)=>ofV D' d.name (Vw.mk k g dg tr nm fs)) fun (z:Int)=>Out.ret (iV z) (vlO D' (Vw.mk k g dg tr nm fs)))).fin true (iV (-1:Int)) [PO.cells [dP Sh.dat D'],PO.cells (Qac (vlC (Vw.mk k g dg tr nm fs)))])) ?kr ?_
     case kr=>kernel_rfl
     refine ⟨?x0,⟨⟨⟨⟨.refl _,trivial⟩,⟨⟨?m0,⟨?m1,⟨?m2,⟨?m3,⟨?m4,⟨?m5,trivial⟩⟩⟩⟩⟩⟩,trivial⟩⟩,⟨.refl _,⟨.refl _,⟨.refl _,⟨?m6,trivial⟩⟩⟩⟩⟩,⟨?s0,⟨trivial,fun z2=>fun hq0=>fun _=>Qaa.2 ⟨fun hb1=>⟨?s1,⟨?s2,fun z3=>fun hz3=>Qaa.2 ⟨fun hb2=>?m7,fun hb2=>⟨?x1,⟨⟨⟨⟨.refl _,trivial⟩,⟨⟨?m8,⟨?m9,⟨?m10,⟨?m11,⟨?m12,⟨?m13,trivial⟩⟩⟩⟩⟩⟩,trivial⟩⟩,⟨.refl _,⟨.refl _,⟨.refl _,⟨?m14,trivial⟩⟩⟩⟩⟩,⟨?s3,⟨trivial,?m15⟩⟩⟩⟩⟩⟩⟩,fun hb1=>?m16⟩⟩⟩⟩⟩
     all_goals try simp only [etaV] at *
     case x0=>exact 0
     case x1=>exact z2+1
     all_goals try simp only [Vw.eta,decide_eq_true_eq,decide_eq_false_iff_not,Int.toNat_natCast] at *
     all_goals try exact .refl _
     case s0=>exact ⟨Nat.zero_le _,fun k hk=>by omega⟩
     case s1=>omega
     case s2=>exact ⟨trivial,hf⟩
     case m7=>exact endU rfl (Qai (QcF Sh.dat.nil (by omega) (by rw [← hz3,hb2]) (fun k hk=>by simpa using hq0.2 k hk)).symm) rfl rfl (r:=[]) rfl
     case m14=>exact Qai (by rw [wJ _ (by omega) (by omega)]; omega)
     case s3 =>
      refine ⟨by omega,fun k hk=>?_⟩
      by_cases hkz:k=z2
      · subst hkz; rw [← hz3,hb2]; decide
      · exact hq0.2 k (by omega)
     case m15=>exact (by omega:D.length - (z2+1)<D.length - z2)
     case m16=>exact endU rfl (Qai (Qb1 Sh.dat.nil fun k hk=>by simpa using hq0.2 k (by omega)).symm) rfl rfl (r:=[]) rfl
   · cases hs
 · cases hs
def QpG:Spec2
 | [.f (.dt .dat D),.fn f [] [.bp 0 0,.bp 1 0]],[.cells [.f (.dt .dat D')],.cells [.f (.v (.int .u8 k)),.f (.v (.bool g)),.f (.lr dg m),.f (.v (.bool tr)),.f (.v (.string nm)),.f (.dt .vl fs)]]=>match Nat.beq f 137 with
  | true=>some (.need (m=dg.length∧(Vw.mk k g dg tr nm fs).fitV 40000000) (.nm Int (anyB D fun d=>ofV D' d.name (.mk k g dg tr nm fs)) fun z=>.ret (bV (decide (0≤z))) (vlO D' (.mk k g dg tr nm fs))))
  | false=>none
 | _,_=>none
theorem cContS {E:Env} (hU:Up E):Contract2 Tryz.prog E 136 QpG:=by
 refine contract2 [] [(172,Qk5)] Tryz.ntmps136 Tryz.func136 (by kernel_rfl) (by kernel_rfl) hU trivial ⟨Qvx hU,trivial⟩ ?_
 intro xs ob o hs hok
 unfold QpG at hs
 split at hs
 · rename_i D f D' k g dg m tr nm fs
   split at hs
   · rename_i hf
     cases hs
     have hf:=Nat.eq_of_beq_eq_true hf
     subst hf
     obtain ⟨⟨rfl,hf⟩,-⟩:=hok
     refine ⟨[.f (.dt .dat D),.fn 137 [] [.bp 0 0,.bp 1 0]],[],.cons (.refl _) (.cons (.refl _) .nil),rfl,fun _ hsh=>?_⟩
     refine Qab (p:=(dg.length=dg.length∧Vw.fitV 40000000 (Vw.mk k g dg tr nm fs))∧∀ (z1:Int),(z1=anyB D fun (d:Sh.dat.T)=>ofV D' d.name (Vw.mk k g dg tr nm fs))→EndU 2 (Out.need (dg.length=dg.length∧Vw.fitV 40000000 (Vw.mk k g dg tr nm fs)) (Out.nm Int (anyB D fun (d:Sh.dat.T)=>ofV D' d.name (Vw.mk k g dg tr nm fs)) fun (z:Int)=>Out.ret (bV (decide ((0:Int)≤z))) (vlO D' (Vw.mk k g dg tr nm fs)))).fin true (bV (decide (z1 ≥ (0:Int)))) [PO.cells [dP Sh.dat D'],PO.cells (Qac (vlC (Vw.mk k g dg tr nm fs)))]) ?kr ?_
     case kr=>kernel_rfl
     refine ⟨?s0,fun z1=>fun hz1=>?m0⟩
     case s0=>exact ⟨rfl,hf⟩
     case m0=>exact endU rfl (QaA (by rw [hz1])) rfl rfl (r:=[]) rfl
   · cases hs
 · cases hs
def Qpq:Spec
 | [.f (.dt .dat D),x]=>match vlOf x with
  | some v=>some (some (v.fitV 40000000),.nm Bool (QcM D v) bV)
  | none=>none
 | _=>none
theorem cSomeM {E:Env} (hU:Up E):Contract Tryz.prog E 88 Qpq:=by
 refine Qad [(80,sOfM)] [(136,QpG)] Tryz.ntmps88 Tryz.func88 (by kernel_rfl) (by kernel_rfl) hU ⟨cOfM hU,trivial⟩ ⟨cContS hU,trivial⟩ ?_
 intro xs p r hs hp
 unfold Qpq at hs
 split at hs
 · rename_i D x
   split at hs
   · rename_i v hv
     cases hs
     have hf:=hp _ rfl
     refine ⟨[.f (.dt .dat D),vlP v],[],.cons (.refl _) (.cons (Qbu hv).sub .nil),rfl,fun _ hsh=>?_⟩
     refine Qab (p:=Vw.fitV 40000000 (etaV v)∧∀ (z1:Bool),z1=ofV D (ByteArray.mk #[(105:UInt8),(110:UInt8),(116:UInt8)]) (etaV v)→ifB z1 (true=true∧Sub (bV true) (bV (QcM D v))) (Vw.fitV 40000000 (etaV v)∧∀ (z2:Bool),z2=ofV D (ByteArray.mk #[(98:UInt8),(111:UInt8),(111:UInt8),(108:UInt8)]) (etaV v)→ifB z2 (true=true∧Sub (bV true) (bV (QcM D v))) ((v.digits.length=v.digits.length∧Vw.fitV 40000000 (etaV v))∧∀ (z3:Int),(z3=anyB D fun (d:Sh.dat.T)=>ofV D d.name (etaV v))→true=true∧Sub (bV (decide ((0:Int)≤z3))) (bV (QcM D v))))) ?kr ?_
     case kr=>kernel_rfl
     refine ⟨?s0,fun z1=>fun hz1=>Qaa.2 ⟨fun hb0=>⟨rfl,?m0⟩,fun hb0=>⟨?s1,fun z2=>fun hz2=>Qaa.2 ⟨fun hb1=>⟨rfl,?m1⟩,fun hb1=>⟨?s2,fun z3=>fun hz3=>⟨rfl,?m2⟩⟩⟩⟩⟩⟩
     all_goals try simp only [etaV] at *
     all_goals try simp only [Vw.eta] at *
     case s0=>exact hf
     all_goals have e1:ofV D bInt v=z1:=hz1.symm
     case m0=>exact (QaA (by unfold QcM; rw [e1,hb0]; rfl)).sub
     case s1=>exact hf
     all_goals have e2:ofV D QaM v=z2:=hz2.symm
     case m1=>exact (QaA (by unfold QcM; rw [e1,e2,hb0,hb1]; rfl)).sub
     case s2=>exact ⟨trivial,hf⟩
     case m2=>exact (QaA (by unfold QcM; rw [e1,e2,hb0,hb1,← hz3]; rfl)).sub
   · cases hs
 · cases hs
def QjB (n:Nat):Spec
 | [x]=>match vlOf x with
  | some v=>some (some (v.size<n∧v.fitV 40000000),.one (vlP v))
  | none=>none
 | _=>none
theorem Qts {E:Env} (hU:Up E):∀ n,Contract Tryz.prog E 89 (QjB n)
 | 0=>by
  intro xs p r hs hp
  unfold QjB at hs
  split at hs
  · split at hs
    · cases hs
      exact absurd (hp _ rfl).1 (Nat.not_lt_zero _)
    · cases hs
  · cases hs
 | n+1=>by
  refine Qad [(138,Qmh),(89,QjB n)] [] Tryz.ntmps89 Tryz.func89 (by kernel_rfl) (by kernel_rfl) hU ⟨Qtt hU,Qts hU n,trivial⟩ trivial ?_
  intro xs p r hs hp
  unfold QjB at hs
  split at hs
  · rename_i x
    split at hs
    · rename_i v hv
      cases hs
      obtain ⟨hn,hf⟩:=hp _ rfl
      have f2:=(Vw.fitV_eq _ v).1 hf
      refine ⟨[vlP v],[(4,.s ⟨Nat,fun i=>⟨[(1,.bp 0 0),(2,.bp 1 0),(3,.tl 2 (.dt .vl (v.fields.take i))),(13,.f (.dt .vl v.fields)),(14,iV v.fields.length),(15,iV i)],[.cells (Qac (vlC v)),.cells [.f (.v (.int .u8 0)),.f (.v (.bool false)),.f (.v (.slice none 0 0)),.f (.v (.bool false)),.f (.v (.string ⟨#[]⟩)),.f (.v (.slice none 0 0))],.tail 96 6]⟩,fun i=>i≤v.fields.length,fun i=>v.fields.length - i⟩)],.cons (Qbu hv).sub .nil,rfl,fun _ hsh=>?_⟩
      refine Qab (p:=v.digits.length≤40000000∧∃ (x1:Nat),(((rfB (uV v.kind)∧rfB (bV v.neg)∧rfB (PV.f (Lf.lr v.digits v.digits.length))∧rfB (bV v.truth)∧rfB (sV v.name)∧rfB (dP Sh.vl v.fields)∧True)∧(rfB (uV 0)∧rfB (bV false)∧rfB (nlP)∧rfB (bV false)∧rfB (sV (ByteArray.mk #[]))∧rfB (nlP)∧True)∧True)∧rfB (PV.bp 0 0)∧rfB (PV.bp 1 0)∧QcK (PV.tl 2 (Lf.dt Sh.vl (List.take x1 v.fields)))∧rfB (dP Sh.vl v.fields)∧rfB (iV (↑v.fields.length:Int))∧SubB (iV 0) (iV (↑x1:Int))∧True)∧x1≤v.fields.length∧True∧∀ (z2:Nat),z2≤v.fields.length→True→ifB (decide ((↑z2:Int)<(↑v.fields.length:Int))) (((0:Int)≤(↑z2:Int)∧(↑z2:Int)<(↑v.fields.length:Int))∧((etaV (v.fields.getD (↑z2:Int).toNat Sh.vl.nil)).size<n∧Vw.fitV 40000000 (etaV (v.fields.getD (↑z2:Int).toNat Sh.vl.nil)))∧((List.take z2 v.fields).length+1≤9223372036854775807∧((List.take z2 v.fields).length+1) * 88≤140737488355328)∧∃ (x3:Nat),(((rfB (uV v.kind)∧rfB (bV v.neg)∧rfB (PV.f (Lf.lr v.digits v.digits.length))∧rfB (bV v.truth)∧rfB (sV v.name)∧rfB (dP Sh.vl v.fields)∧True)∧(rfB (uV 0)∧rfB (bV false)∧rfB (nlP)∧rfB (bV false)∧rfB (sV (ByteArray.mk #[]))∧rfB (nlP)∧True)∧True)∧rfB (PV.bp 0 0)∧rfB (PV.bp 1 0)∧SubB (PV.tl 2 (Lf.dt Sh.vl (List.take z2 v.fields++[etaV (etaV (v.fields.getD (↑z2:Int).toNat Sh.vl.nil))]))) (PV.tl 2 (Lf.dt Sh.vl (List.take x3 v.fields)))∧rfB (dP Sh.vl v.fields)∧rfB (iV (↑v.fields.length:Int))∧SubB (iV (IntKind.i64.wrap ((↑z2:Int)+(1:Int)))) (iV (↑x3:Int))∧True)∧x3≤v.fields.length∧True∧(v.fields.length - x3).succ.le (v.fields.length - z2)) (true=true∧Sub (PV.agg [uV v.kind,bV v.neg,PV.f (Lf.lr v.digits v.digits.length),bV v.truth,sV v.name,dP Sh.vl (List.take z2 v.fields)]) (PV.agg (Qac (vlC v))))) ?kr ?_
      case kr=>kernel_rfl
      refine ⟨?s0,⟨?x0,⟨?s1,⟨?s2,⟨trivial,fun z2=>fun hq0=>fun _=>Qaa.2 ⟨fun hb1=>⟨?s3,⟨?s4,⟨?s5,⟨?x1,⟨⟨⟨⟨.refl _,⟨.refl _,⟨.refl _,⟨.refl _,⟨.refl _,⟨.refl _,trivial⟩⟩⟩⟩⟩⟩,⟨⟨.refl _,⟨.refl _,⟨.refl _,⟨.refl _,⟨.refl _,⟨.refl _,trivial⟩⟩⟩⟩⟩⟩,trivial⟩⟩,⟨.refl _,⟨.refl _,⟨?m0,⟨.refl _,⟨.refl _,⟨?m1,trivial⟩⟩⟩⟩⟩⟩⟩,⟨?s6,⟨trivial,?m2⟩⟩⟩⟩⟩⟩⟩,fun hb1=>⟨rfl,?m3⟩⟩⟩⟩⟩⟩⟩
      all_goals try simp only [etaV] at *
      case x0=>exact 0
      case x1=>exact z2+1
      all_goals try simp only [decide_eq_true_eq,decide_eq_false_iff_not,Int.toNat_natCast,Vw.eta] at *
      case s0=>exact f2.2.1
      case s1=>exact ⟨⟨⟨.refl _,.refl _,.refl _,.refl _,.refl _,.refl _,trivial⟩,⟨.refl _,.refl _,.refl _,.refl _,.refl _,.refl _,trivial⟩,trivial⟩,.refl _,.refl _,rfl,.refl _,.refl _,.refl _,trivial⟩
      case s2=>exact Nat.zero_le _
      case m3 =>
       rw [List.take_of_length_le (by omega)]
       exact .refl _
      all_goals have hz:z2<v.fields.length:=by omega
      case s3=>omega
      case s4 =>
       have h1:=QiB (t:=v) (i:=z2) Sh.vl.nil hz
       exact ⟨by omega,Qcy _ f2.2.2.2 hz⟩
      case s5 =>
       rw [List.length_take]
       have:=f2.2.2.1
       omega
      case m0 =>
       rw [List.take_add_one,List.getElem?_eq_getElem hz,List.getD_eq_getElem?_getD,List.getElem?_eq_getElem hz]
       exact .refl _
      case m1=>exact Qai (by rw [wJ _ (by omega) (by have:=f2.2.2.1; omega)]; rfl)
      case s6=>exact hz
      case m2=>exact (by omega:v.fields.length - (z2+1)<v.fields.length - z2)
    · cases hs
  · cases hs
def sEqD:Spec
 | [.f x,.f y]=>match Qgv x,Qgv y with
  | some l,some m=>some (some (l.length≤40000000),.nm Bool (decide (l=m)) bV)
  | _,_=>none
 | _=>none
theorem Qng {x:Lf} {l:List Nat} (h:Qgv x=some l):SubB (.f x) (.f (.lr l l.length)):=⟨fun H B v hv=>.f (Qgu h H v hv.rd)⟩
theorem cEqD {E:Env} (hU:Up E):Contract Tryz.prog E 181 sEqD:=by
 refine Qad [] [] Tryz.ntmps181 Tryz.func181 (by kernel_rfl) (by kernel_rfl) hU trivial trivial ?_
 intro xs p r hs hp
 unfold sEqD at hs
 split at hs
 · rename_i x y
   split at hs
   · rename_i l m hl hm
     cases hs
     have hf:=hp _ rfl
     refine ⟨[.f (.lr l l.length),.f (.lr m m.length)],[(4,.s ⟨Nat,fun i=>⟨[(0,.f (.lr l l.length)),(1,.f (.lr m m.length)),(12,iV l.length),(13,iV i)],[]⟩,fun i=>i≤l.length∧l.length=m.length∧l.take i=m.take i,fun i=>l.length - i⟩)],.cons (Qng hl).sub (.cons (Qng hm).sub .nil),rfl,fun _ hsh=>?_⟩
     refine Qab (p:=ifB ((↑l.length:Int) != (↑m.length:Int)) (true=true∧Sub (bV false) (bV (decide (l=m)))) (∃ (x1:Nat),(True∧rfB (PV.f (Lf.lr l l.length))∧rfB (PV.f (Lf.lr m m.length))∧rfB (iV (↑l.length:Int))∧SubB (iV 0) (iV (↑x1:Int))∧True)∧(x1≤l.length∧l.length=m.length∧List.take x1 l=List.take x1 m)∧True∧∀ (z2:Nat),z2≤l.length∧l.length=m.length∧List.take z2 l=List.take z2 m→True→ifB (decide ((↑z2:Int)<(↑l.length:Int))) (((0:Int)≤(↑z2:Int)∧(↑z2:Int)<(↑l.length:Int))∧((0:Int)≤(↑z2:Int)∧(↑z2:Int)<(↑m.length:Int))∧ifB ((↑(l.getD (↑z2:Int).toNat 0):Int) != (↑(m.getD (↑z2:Int).toNat 0):Int)) (true=true∧Sub (bV false) (bV (decide (l=m)))) (∃ (x3:Nat),(True∧rfB (PV.f (Lf.lr l l.length))∧rfB (PV.f (Lf.lr m m.length))∧rfB (iV (↑l.length:Int))∧SubB (iV (IntKind.i64.wrap ((↑z2:Int)+(1:Int)))) (iV (↑x3:Int))∧True)∧(x3≤l.length∧l.length=m.length∧List.take x3 l=List.take x3 m)∧True∧(l.length - x3).succ.le (l.length - z2))) (true=true∧Sub (bV true) (bV (decide (l=m)))))) ?kr ?_
     case kr=>kernel_rfl
     refine Qaa.2 ⟨fun hb0=>⟨rfl,?m0⟩,fun hb0=>⟨?x0,⟨⟨trivial,⟨.refl _,⟨.refl _,⟨.refl _,⟨?m1,trivial⟩⟩⟩⟩⟩,⟨?s0,⟨trivial,fun z2=>fun hq1=>fun _=>Qaa.2 ⟨fun hb2=>⟨?s1,⟨?s2,Qaa.2 ⟨fun hb3=>⟨rfl,?m2⟩,fun hb3=>⟨?x1,⟨⟨trivial,⟨.refl _,⟨.refl _,⟨.refl _,⟨?m3,trivial⟩⟩⟩⟩⟩,⟨?s3,⟨trivial,?m4⟩⟩⟩⟩⟩⟩⟩,fun hb2=>⟨rfl,?m5⟩⟩⟩⟩⟩⟩⟩
     case x0=>exact 0
     case x1=>exact z2+1
     all_goals try simp only [bne_iff_ne,ne_eq,bne_eq_false_iff_eq,decide_eq_true_eq,decide_eq_false_iff_not,Int.toNat_natCast,Int.natCast_inj] at *
     case m0=>exact (QaA (decide_eq_false fun h=>hb0 (by rw [h])).symm).sub
     case m1=>exact .refl _
     case s0=>exact ⟨Nat.zero_le _,hb0,rfl⟩
     case m5 =>
      refine (QaA (decide_eq_true ?_).symm).sub
      have h:=hq1.2.2
      rwa [List.take_of_length_le (by omega),List.take_of_length_le (by omega)] at h
     case s1=>omega
     case s2=>have:=hq1.2.1; omega
     case m2=>exact (QaA (decide_eq_false fun h=>hb3 (by rw [h])).symm).sub
     case m3=>exact Qai (by rw [wJ _ (by omega) (by omega)]; rfl)
     case s3=>exact ⟨by omega,hq1.2.1,QfE 0 (by omega) (by have:=hq1.2.1; omega) hq1.2.2 hb3⟩
     case m4=>exact (by omega:l.length - (z2+1)<l.length - z2)
   · cases hs
 · cases hs
noncomputable def sameV (t u:Vw):Bool:=@decide (t=u) (Classical.propDecidable _)
noncomputable def sameVL (l m:List Vw):Bool:=@decide (l=m) (Classical.propDecidable _)
theorem Qci {t u:Vw}:sameV t u=true↔t=u:=by simp [sameV]
theorem Qdo {l m:List Vw}:sameVL l m=true↔l=m:=by simp [sameVL]
theorem Vw.ext {t u:Vw} (h1:t.kind=u.kind) (h2:t.neg=u.neg) (h3:t.digits=u.digits) (h4:t.truth=u.truth) (h5:t.name=u.name) (h6:t.fields=u.fields):t=u:=by
 rw [← t.eta,← u.eta,h1,h2,h3,h4,h5,h6]
noncomputable def sSameVN (n:Nat):Spec
 | [x,y]=>match vlOf x,vlOf y with
  | some t,some u=>some (some (2 * t.size<n∧t.fitV 40000000∧u.fitV 40000000),.nm Bool (sameV t u) bV)
  | _,_=>none
 | _=>none
noncomputable def sSameVLN (n:Nat):Spec
 | [.f (.dt .vl l),.f (.dt .vl m),.f (.v (.func (.func f) ⟨[]⟩ ⟨[]⟩))]=>match Nat.beq f 149 with
  | true=>some (some (2 * szVL l+1<n∧QdR 40000000 l∧QdR 40000000 m),.nm Bool (sameVL l m) bV)
  | false=>none
 | _=>none
noncomputable def sSameV:Spec
 | [x,y]=>match vlOf x,vlOf y with
  | some t,some u=>some (some (t.fitV 40000000∧u.fitV 40000000),.nm Bool (sameV t u) bV)
  | _,_=>none
 | _=>none
theorem QlP {E:Env} (hU:Up E):∀ n,Contract Tryz.prog E 149 (sSameVN n)∧Contract Tryz.prog E 182 (sSameVLN n)
 | 0=>by
  refine ⟨?_,?_⟩
  · intro xs p r hs hp
    unfold sSameVN at hs
    split at hs
    · split at hs
      · cases hs
        exact absurd (hp _ rfl).1 (Nat.not_lt_zero _)
      · cases hs
    · cases hs
  · intro xs p r hs hp
    unfold sSameVLN at hs
    split at hs
    · split at hs
      · cases hs
        exact absurd (hp _ rfl).1 (Nat.not_lt_zero _)
      · cases hs
    · cases hs
 | n+1=>by
  refine ⟨?_,?_⟩
  · refine Qad [(181,sEqD),(182,sSameVLN n)] [] Tryz.ntmps149 Tryz.func149 (by kernel_rfl) (by kernel_rfl) hU ⟨cEqD hU,(QlP hU n).2,trivial⟩ trivial ?_
    intro xs p r hs hp
    unfold sSameVN at hs
    split at hs
    · rename_i x y
      split at hs
      · rename_i t u ht hu
        cases hs
        obtain ⟨hn,hf,hg⟩:=hp _ rfl
        refine ⟨[vlP t,vlP u],[],.cons (Qbu ht).sub (.cons (Qbu hu).sub .nil),rfl,fun _ hsh=>?_⟩
        have e2:=t.size_eq
        have f2:=(Vw.fitV_eq _ t).1 hf
        have g2:=(Vw.fitV_eq _ u).1 hg
        refine Qab (p:=ifB (t.kind==u.kind) (ifB (t.truth==u.truth) (ifB (t.name.toList==u.name.toList) (ifB (t.neg==u.neg) (t.digits.length≤40000000∧∀ (z1:Bool),z1=decide (t.digits=u.digits)→ifB z1 ((2 * szVL t.fields+1<n∧QdR 40000000 t.fields∧QdR 40000000 u.fields)∧∀ (z2:Bool),z2=sameVL t.fields u.fields→true=true∧Sub (bV z2) (bV (sameV t u))) (true=true∧Sub (bV false) (bV (sameV t u)))) (true=true∧Sub (bV false) (bV (sameV t u)))) (true=true∧Sub (bV false) (bV (sameV t u)))) (true=true∧Sub (bV false) (bV (sameV t u)))) (true=true∧Sub (bV false) (bV (sameV t u)))) ?kr ?_
        case kr=>kernel_rfl
        refine Qaa.2 ⟨fun hb0=>Qaa.2 ⟨fun hb1=>Qaa.2 ⟨fun hb2=>Qaa.2 ⟨fun hb3=>⟨?s0,fun z1=>fun hz1=>Qaa.2 ⟨fun hb4=>⟨?s1,fun z2=>fun hz2=>⟨rfl,?m0⟩⟩,fun hb4=>⟨rfl,?m1⟩⟩⟩,fun hb3=>⟨rfl,?m2⟩⟩,fun hb2=>⟨rfl,?m3⟩⟩,fun hb1=>⟨rfl,?m4⟩⟩,fun hb0=>⟨rfl,?m5⟩⟩
        all_goals try simp only [bs_l,decide_eq_true_eq,decide_eq_false_iff_not,beq_iff_eq,beq_eq_false_iff_ne,ne_eq] at *
        case s0=>exact f2.2.1
        case s1=>exact ⟨by omega,f2.2.2.2,g2.2.2.2⟩
        case m0 =>
         rw [hb4] at hz1
         refine (QaA ?_).sub
         rw [hz2]
         exact b_iff (by rw [Qdo,Qci]; exact ⟨fun h=>Vw.ext hb0 hb3 (of_decide_eq_true hz1.symm) hb1 hb2 h,fun h=>by rw [h]⟩)
        all_goals refine (QaA ?_).sub
        all_goals refine (Bool.eq_false_iff.2 fun h=>?_).symm
        all_goals rw [Qci] at h
        all_goals subst h
        case m1=>rw [hb4] at hz1; simp at hz1
        case m2=>exact hb3 rfl
        case m3=>exact hb2 rfl
        case m4=>exact hb1 rfl
        case m5=>exact hb0 rfl
      · cases hs
    · cases hs
  · refine Qad [(149,sSameVN n)] [] Tryz.ntmps182 Tryz.func182 (by kernel_rfl) (by kernel_rfl) hU ⟨(QlP hU n).1,trivial⟩ trivial ?_
    intro xs p r hs hp
    unfold sSameVLN at hs
    split at hs
    · rename_i l m f
      split at hs
      · rename_i hfn
        cases hs
        have hfn:=Nat.eq_of_beq_eq_true hfn
        subst hfn
        obtain ⟨hn,hf,hg⟩:=hp _ rfl
        refine ⟨[.f (.dt .vl l),.f (.dt .vl m),.f (.v (.func (.func 149) ⟨[]⟩ ⟨[]⟩))],[(4,.s ⟨Nat,fun i=>⟨[(0,.f (.dt .vl l)),(1,.f (.dt .vl m)),(2,.f (.v (.func (.func 149) ⟨[]⟩ ⟨[]⟩))),(15,.f (.dt .vl l)),(16,iV l.length),(17,iV i)],[]⟩,fun i=>i≤l.length∧l.length=m.length∧l.take i=m.take i,fun i=>l.length - i⟩)],.cons (.refl _) (.cons (.refl _) (.cons (.refl _) .nil)),rfl,fun _ hsh=>?_⟩
        have hl:=Qay hsh.1
        refine Qab (p:=ifB ((↑l.length:Int) != (↑m.length:Int)) (true=true∧Sub (bV false) (bV (sameVL l m))) (∃ (x1:Nat),(True∧rfB (dP Sh.vl l)∧rfB (dP Sh.vl m)∧rfB (PV.f (Lf.v (Value.func (Fn.func 149) (Array.mk []) (Array.mk []))))∧rfB (dP Sh.vl l)∧rfB (iV (↑l.length:Int))∧SubB (iV 0) (iV (↑x1:Int))∧True)∧(x1≤l.length∧l.length=m.length∧List.take x1 l=List.take x1 m)∧True∧∀ (z2:Nat),z2≤l.length∧l.length=m.length∧List.take z2 l=List.take z2 m→True→ifB (decide ((↑z2:Int)<(↑l.length:Int))) (((0:Int)≤(↑z2:Int)∧(↑z2:Int)<(↑l.length:Int))∧((0:Int)≤(↑z2:Int)∧(↑z2:Int)<(↑m.length:Int))∧(2 * (etaV (l.getD (↑z2:Int).toNat Sh.vl.nil)).size<n∧Vw.fitV 40000000 (etaV (l.getD (↑z2:Int).toNat Sh.vl.nil))∧Vw.fitV 40000000 (etaV (m.getD (↑z2:Int).toNat Sh.vl.nil)))∧∀ (z3:Bool),z3=sameV (etaV (l.getD (↑z2:Int).toNat Sh.vl.nil)) (etaV (m.getD (↑z2:Int).toNat Sh.vl.nil))→ifB (!z3) (true=true∧Sub (bV false) (bV (sameVL l m))) (∃ (x4:Nat),(True∧rfB (dP Sh.vl l)∧rfB (dP Sh.vl m)∧rfB (PV.f (Lf.v (Value.func (Fn.func 149) (Array.mk []) (Array.mk []))))∧rfB (dP Sh.vl l)∧rfB (iV (↑l.length:Int))∧SubB (iV (IntKind.i64.wrap ((↑z2:Int)+(1:Int)))) (iV (↑x4:Int))∧True)∧(x4≤l.length∧l.length=m.length∧List.take x4 l=List.take x4 m)∧True∧(l.length - x4).succ.le (l.length - z2))) (true=true∧Sub (bV true) (bV (sameVL l m))))) ?kr ?_
        case kr=>kernel_rfl
        refine Qaa.2 ⟨fun hb0=>⟨rfl,?m0⟩,fun hb0=>⟨?x0,⟨⟨trivial,⟨.refl _,⟨.refl _,⟨.refl _,⟨.refl _,⟨.refl _,⟨?m1,trivial⟩⟩⟩⟩⟩⟩⟩,⟨?s0,⟨trivial,fun z2=>fun hq1=>fun _=>Qaa.2 ⟨fun hb2=>⟨?s1,⟨?s2,⟨?s3,fun z3=>fun hz3=>Qaa.2 ⟨fun hb3=>⟨rfl,?m2⟩,fun hb3=>⟨?x1,⟨⟨trivial,⟨.refl _,⟨.refl _,⟨.refl _,⟨.refl _,⟨.refl _,⟨?m3,trivial⟩⟩⟩⟩⟩⟩⟩,⟨?s4,⟨trivial,?m4⟩⟩⟩⟩⟩⟩⟩⟩,fun hb2=>⟨rfl,?m5⟩⟩⟩⟩⟩⟩⟩
        all_goals try simp only [etaV] at *
        case x0=>exact 0
        case x1=>exact z2+1
        all_goals try simp only [Vw.eta,bne_iff_ne,ne_eq,bne_eq_false_iff_eq,decide_eq_true_eq,decide_eq_false_iff_not,Int.toNat_natCast,Int.natCast_inj,Bool.not_eq_true',Bool.not_eq_false'] at *
        case m0=>exact (QaA (Bool.eq_false_iff.2 fun h=>hb0 (by rw [Qdo.1 h])).symm).sub
        case m1=>exact .refl _
        case s0=>exact ⟨Nat.zero_le _,hb0,rfl⟩
        case m5 =>
         refine (QaA (Qdo.2 ?_).symm).sub
         have h:=hq1.2.2
         rwa [List.take_of_length_le (by omega),List.take_of_length_le (by omega)] at h
        all_goals have hz:z2<l.length:=by omega
        all_goals have hm:z2<m.length:=by have:=hq1.2.1; omega
        case s1=>omega
        case s2=>omega
        case s3=>exact ⟨by have:=QkR (l:=l) (i:=z2) Sh.vl.nil hz; omega,Qcy _ hf hz,Qcy _ hg hm⟩
        case m2 =>
         refine (QaA (Bool.eq_false_iff.2 fun h=>?_).symm).sub
         rw [Qdo] at h
         subst h
         rw [hb3] at hz3
         exact absurd (Qci.2 rfl) (Bool.eq_false_iff.1 hz3.symm)
        case m3=>exact Qai (by rw [wJ _ (by omega) (by omega)]; rfl)
        case s4 =>
         rw [hb3] at hz3
         exact ⟨by omega,hq1.2.1,QfE Sh.vl.nil hz hm hq1.2.2 (Qci.1 hz3.symm)⟩
        case m4=>exact (by omega:l.length - (z2+1)<l.length - z2)
      · cases hs
    · cases hs
theorem cSameV {E:Env} (hU:Up E):Contract Tryz.prog E 149 sSameV:=by
 intro xs p r hs hp
 unfold sSameV at hs
 split at hs
 · rename_i x y
   split at hs
   · rename_i t u ht hu
     cases hs
     exact (QlP hU (2 * t.size+1)).1 [x,y] _ _ (by simp only [sSameVN,ht,hu]; rfl) (fun q hq=>by cases hq; exact ⟨Nat.lt_succ_self _,hp _ rfl⟩)
   · cases hs
 · cases hs
def Quj:Spec
 | [x]=>match vlOf x with
  | some v=>some (some (v.fitV 40000000),.one (vlP v))
  | none=>none
 | _=>none
theorem cCopy {E:Env} (hU:Up E):Contract Tryz.prog E 89 Quj:=by
 intro xs p r hs hp
 unfold Quj at hs
 split at hs
 · rename_i x
   split at hs
   · rename_i v hv
     cases hs
     exact Qts hU (v.size+1) [x] _ _ (by simp only [QjB,hv]; rfl) (fun q hq=>by cases hq; exact ⟨Nat.lt_succ_self _,hp _ rfl⟩)
   · cases hs
 · cases hs
end Go.Proofs.YtemhncjjiomppaaGreatDoor
namespace Go.Proofs.YtemhncjjiomppaaGreatDoor
open Go.RowKit
set_option linter.unusedVariables false
set_option maxRecDepth 100000
theorem Qma {b:Nat}:∀ {l:List ((Bool × List Nat) × Nat × Nat)} {a:Int},(∀ x∈l,(zV x.1.1 x.1.2).natAbs≤b)→(sumR l a).natAbs≤a.natAbs+l.length * b
 | [],a,_=>by simp [sumR]
 | x::l,a,h=>by
  have h1:=Qma (l:=l) (a:=a+zV x.1.1 x.1.2) fun y hy=>h y (List.mem_cons_of_mem _ hy)
  have h2:=h x List.mem_cons_self
  have e:(l.length+1) * b=l.length * b+b:=by rw [Nat.add_mul,Nat.one_mul]
  show (sumR l _).natAbs≤a.natAbs+(l.length+1) * b
  rw [e]
  have:=Int.natAbs_add_le a (zV x.1.1 x.1.2)
  omega
theorem QtR {k:Nat} {l:List ((Bool × List Nat) × Nat × Nat)} (h:∀ x∈l,ZB (zV x.1.1 x.1.2) k) (hl:l.length≤100000000):ZB (sumR l 0) (k+1):=by
 unfold ZB at *
 have h1:=Qma (a:=0) fun x hx=>Nat.le_of_lt (h x hx)
 have h0:0<1000000000 ^ k:=Nat.pow_pos (by omega)
 have e:1000000000 ^ (k+1)=1000000000 ^ k * 1000000000:=Nat.pow_succ ..
 generalize 1000000000 ^ k=b at *
 rw [e]
 have h2:l.length * b≤100000000 * b:=Nat.mul_le_mul_right b hl
 simp only [Int.natAbs_zero,Nat.zero_add] at h1
 omega
theorem Qo5 {l:List ((Bool × List Nat) × Nat × Nat)} (h:∀ x∈l,ZB (zV x.1.1 x.1.2) 2000001) (hl:l.length≤100000000):ZB (sumR l 0) 2000002:=QtR h hl
theorem Qtz {l:List ((Bool × List Nat) × Nat × Nat)} (h:∀ x∈l,x.2.1≤2000000):∀ x∈zsB l,x.2.1≤2000000:=by
 intro x hx
 unfold zsB zsOf at hx
 simp only [List.map_map,List.mem_map] at hx
 obtain ⟨y,hy,rfl⟩:=hx
 exact h y hy
theorem Qty (l:List ((Bool × List Nat) × Nat × Nat)):(zsB l).length=l.length:=by simp [zsB,zsOf]
def Qt7:Spec
 | [u,.f (.v (.func (.func g) x y)),.f L]=>match QcT L,Nat.beq g 174,x.size,y.size with
  | some l,true,0,0=>some (some (Sub u (nP 0 0)∧(∀ x∈l,x.2.1≤2000000)∧l.length≤100000000),.nm Int (sumR l 0) fun r=>zP r 2000002)
  | _,_,_,_=>none
 | _=>none
def QrS:Spec
 | [.f y]=>match QcT y with
  | some l=>some (some ((∀ x∈l,x.2.1≤2000000)∧l.length≤100000000),.nm Int (sumR l 0) fun z=>zP z 2000002)
  | none=>none
 | _=>none
def Qc1 (R:List (List Lf)):Int:=match Qeb R with
 | some l=>Qbx l 1
 | none=>0
def QlY (R:List (List Lf)):Prop:=∃ l,Qeb R=some l∧QbS l≤2000000
def Que:Spec
 | [.f (.row 2 R)]=>some (some (QlY R),.nm Int (Qc1 R) fun z=>zP z 2000001)
 | _=>none
section
variable {E : Env} (hU : Up E)
include hU
theorem cTogW:Contract Tryz.prog E 173 Qt7:=by
 refine Qak [(183,Qpv),(174,Qd9 (fun _ _=>True)),(179,Qpu)] Tryz.ntmps173 Tryz.func173 (by kernel_rfl) (by kernel_rfl) hU ⟨Qvu hU,cPlusN hU,Qvt hU,trivial⟩ ?_
 intro xs p r hs hp
 unfold Qt7 at hs
 split at hs
 · rename_i u g x y L
   split at hs
   · rename_i l hl hg hx hy
     cases hs
     obtain ⟨hu,hk,hc⟩:=hp _ rfl
     obtain rfl:x=#[]:=Array.eq_empty_of_size_eq_zero hx
     obtain rfl:y=#[]:=Array.eq_empty_of_size_eq_zero hy
     obtain rfl:=Nat.eq_of_beq_eq_true hg
     have hsub:=Qjn hl
     have hL:(zsOf l).length=l.length:=by simp [zsOf]
     refine ⟨[nP 0 0,.f (.v (.func (.func 174) #[] #[])),.f (.zs (zsOf l))],[(2,.s ⟨Nat × Int,fun x=>⟨[(1,.f (.v (.func (.func 174) #[] #[]))),(3,.bp 0 0),(6,.bp 1 0),(9,.f (.zs (zsOf l))),(10,.f (.v (.int .i64 l.length))),(11,.f (.v (.int .i64 (x.1:Nat))))],[.cells [.f (.zd x.2 2000002),.f (.zn x.2)],.cells [.f (.v (.bool false)),.f (.v (.slice none 0 0))]]⟩,
      fun x=>x.1≤l.length∧x.2=sumR (l.take x.1) 0,fun x=>l.length - x.1⟩)],(.cons hu (.cons (.refl _) (.cons hsub .nil))),rfl,fun hgx hg=>?_⟩
     have hgood:=Qcr hl hgx.2.2.1.2
     have hbnd:∀ i,ZB (sumR (l.take i) 0) 2000002:=fun i=>Qo5 (fun x hx=>(hgood x (List.mem_of_mem_take hx)).2.2.mono (by have h1:=hk x (List.mem_of_mem_take hx); have h2:=Qff hl x (List.mem_of_mem_take hx); omega)) (by rw [List.length_take]; omega)
     refine Qab (p:=∃ (x1:Nat × Int),(((SubB (PV.f (Lf.zd (0:Int) 0)) (PV.f (Lf.zd x1.snd 2000002))∧SubB (PV.f (Lf.zn (0:Int))) (PV.f (Lf.zn x1.snd))∧True)∧(rfB (PV.f (Lf.v (Value.bool false)))∧rfB (nlP)∧True)∧True)∧rfB (PV.f (Lf.v (Value.func (Fn.func 174) #[] #[])))∧rfB (PV.bp 0 0)∧rfB (PV.bp 1 0)∧rfB (PV.f (Lf.zs (zsOf l)))∧SubB (PV.f (Lf.v (Value.int IntKind.i64 (↑(zsOf l).length:Int)))) (PV.f (Lf.v (Value.int IntKind.i64 (↑l.length:Int))))∧SubB (PV.f (Lf.v (Value.int IntKind.i64 (0:Int)))) (PV.f (Lf.v (Value.int IntKind.i64 (↑x1.fst:Int))))∧True)∧(x1.fst≤l.length∧x1.snd=sumR (List.take x1.fst l) (0:Int))∧True∧∀ (z2:Nat × Int),z2.fst≤l.length∧z2.snd=sumR (List.take z2.fst l) (0:Int)→True→ifB (decide ((↑z2.fst:Int)<(↑l.length:Int))) (((0:Int)≤(↑z2.fst:Int)∧(↑z2.fst:Int)<(↑(zsOf l).length:Int))∧((zsOf l).getD (↑z2.fst:Int).toNat (false,[],0)).snd.snd≤100000000∧∀ (z3:Int),z3=zV ((zsOf l).getD (↑z2.fst:Int).toNat (false,[],0)).fst ((zsOf l).getD (↑z2.fst:Int).toNat (false,[],0)).snd.fst→(z2.snd=z2.snd∧z3=z3∧2000002+(((zsOf l).getD (↑z2.fst:Int).toNat (false,[],0)).snd.snd+1)≤4500000∧True)∧∀ (z4:Int),z4=z2.snd+z3→∃ (x5:Nat × Int),(((SubB (PV.f (Lf.zd z4 (2000002+(((zsOf l).getD (↑z2.fst:Int).toNat (false,[],0)).snd.snd+1)+1))) (PV.f (Lf.zd x5.snd 2000002))∧SubB (PV.f (Lf.zn z4)) (PV.f (Lf.zn x5.snd))∧True)∧(rfB (PV.f (Lf.v (Value.bool false)))∧rfB (nlP)∧True)∧True)∧rfB (PV.f (Lf.v (Value.func (Fn.func 174) #[] #[])))∧rfB (PV.bp 0 0)∧rfB (PV.bp 1 0)∧rfB (PV.f (Lf.zs (zsOf l)))∧rfB (PV.f (Lf.v (Value.int IntKind.i64 (↑l.length:Int))))∧SubB (PV.f (Lf.v (Value.int IntKind.i64 (IntKind.i64.wrap ((↑z2.fst:Int)+(1:Int)))))) (PV.f (Lf.v (Value.int IntKind.i64 (↑x5.fst:Int))))∧True)∧(x5.fst≤l.length∧x5.snd=sumR (List.take x5.fst l) (0:Int))∧True∧(l.length - x5.fst).succ.le (l.length - z2.fst)) (z2.snd=z2.snd∧true=true∧Sub (PV.agg [PV.f (Lf.zn z2.snd),PV.f (Lf.zd z2.snd 2000002)]) (PV.agg [PV.f (Lf.zn (sumR l (0:Int))),PV.f (Lf.zd (sumR l (0:Int)) 2000002)]))) ?kr ?_
     case kr=>kernel_rfl
     refine ⟨?x0,⟨⟨⟨⟨?m0,⟨?m1,trivial⟩⟩,⟨⟨.refl _,⟨.refl _,trivial⟩⟩,trivial⟩⟩,⟨.refl _,⟨.refl _,⟨.refl _,⟨.refl _,⟨?m2,⟨?m3,trivial⟩⟩⟩⟩⟩⟩⟩,⟨?s0,⟨trivial,fun z2=>fun hq0=>fun _=>Qaa.2 ⟨fun hb1=>⟨?s1,⟨?s2,fun z3=>fun hz3=>⟨?s3,fun z4=>fun hz4=>⟨?x1,⟨⟨⟨⟨?m4,⟨?m5,trivial⟩⟩,⟨⟨.refl _,⟨.refl _,trivial⟩⟩,trivial⟩⟩,⟨.refl _,⟨.refl _,⟨.refl _,⟨.refl _,⟨.refl _,⟨?m6,trivial⟩⟩⟩⟩⟩⟩⟩,⟨?s4,⟨trivial,?m7⟩⟩⟩⟩⟩⟩⟩,fun hb1=>⟨rfl,⟨rfl,?m8⟩⟩⟩⟩⟩⟩⟩
     case x0=>exact (0,0)
     case x1=>exact (z2.1+1,z4)
     case m0=>exact Qfd rfl (ZB.zero _)
     case m1=>exact .refl _
     case m2=>rw [hL]; exact .refl _
     case m3=>exact .refl _
     case s0=>exact ⟨Nat.zero_le _,rfl⟩
     case m8 =>
      have h1:=of_decide_eq_false hb1
      have h2:z2.1=l.length:=by omega
      have h3:=hq0.2
      rw [h2,List.take_of_length_le (Nat.le_refl _)] at h3
      rw [h3]; exact .refl _
     all_goals have h1:=of_decide_eq_true hb1
     all_goals have hil:z2.1<l.length:=(by omega)
     all_goals have hat:=QkK hil
     all_goals have hmem:=List.getElem_mem hil
     all_goals have hsz:=hk _ hmem
     all_goals simp only [Int.toNat_natCast,hat] at *
     case s1=>exact ⟨by omega,by omega⟩
     case s2=>omega
     case s3=>exact ⟨by trivial,by trivial,by omega,trivial⟩
     all_goals have hz:z4=sumR (l.take (z2.1+1)) 0:=(by rw [hz4,hz3,Qo6 l z2.1 hil,← hq0.2])
     case m4=>exact Qfd rfl (by rw [hz]; exact hbnd _)
     case m5=>exact .refl _
     case m6=>exact Qjo (by omega)
     case s4=>exact ⟨hil,hz⟩
     case m7=>show l.length - (z2.1+1)+1≤l.length - z2.1; omega
   · cases hs
 · cases hs
theorem cAddW:Contract Tryz.prog E 140 QrS:=by
 refine Qak [(173,Qt7)] Tryz.ntmps140 Tryz.func140 (by kernel_rfl) (by kernel_rfl) hU ⟨cTogW hU,trivial⟩ ?_
 intro xs p r hs hp
 unfold QrS at hs
 split at hs
 · rename_i y
   split at hs
   · rename_i l hl
     cases hs
     obtain ⟨hk,hc⟩:=hp _ rfl
     refine ⟨[.f (.zs (zsOf l))],[],.cons (Qjn hl) .nil,rfl,fun hgx hg=>?_⟩
     have hgood:=Qcr hl hgx.1.2
     have hall:ZB (sumR l 0) 2000002:=Qo5 (fun x hx=>(hgood x hx).2.2.mono (by have h1:=hk x hx; have h2:=Qff hl x hx; omega)) hc
     refine Qab (p:=(Sub (flat (PV.agg [nlP,PV.f (Lf.v (Value.bool false))])) (nP (0:Int) 0)∧(∀ (x:(Bool × List Nat) × Nat × Nat),x∈List.map (fun (e:Bool × List Nat × Nat)=>((e.fst,e.snd.fst),e.snd.snd,e.snd.snd+1)) (zsOf l)→x.snd.fst≤2000000)∧(List.map (fun (e:Bool × List Nat × Nat)=>((e.fst,e.snd.fst),e.snd.snd,e.snd.snd+1)) (zsOf l)).length≤100000000)∧∀ (z1:Int),z1=sumR (List.map (fun (e:Bool × List Nat × Nat)=>((e.fst,e.snd.fst),e.snd.snd,e.snd.snd+1)) (zsOf l)) (0:Int)→true=true∧Sub (PV.agg [PV.f (Lf.zn z1),PV.f (Lf.zd z1 2000002)]) (PV.agg [PV.f (Lf.zn (sumR l (0:Int))),PV.f (Lf.zd (sumR l (0:Int)) 2000002)])) ?kr ?_
     case kr=>kernel_rfl
     refine ⟨?s0,fun z1=>fun hz1=>⟨rfl,?m0⟩⟩
     case s0=>exact ⟨nP_nil,Qtz hk,by rw [show List.map _ (zsOf l)=zsB l from rfl,Qty]; exact hc⟩
     case m0 =>
      rw [hz1,show List.map _ (zsOf l)=zsB l from rfl,QoQ]
      exact Qs2 hall
   · cases hs
 · cases hs
theorem cMulR:Contract Tryz.prog E 144 Que:=by
 refine Qak [(177,Qme),(173,Qt8)] Tryz.ntmps144 Tryz.func144 (by kernel_rfl) (by kernel_rfl) hU ⟨Qto hU,cTogM hU,trivial⟩ ?_
 intro xs p r hs hp
 unfold Que at hs
 split at hs
 · rename_i R
   cases hs
   obtain ⟨l,hl0,hk⟩:=hp _ rfl
   have hl:QcT (.row 2 R)=some l:=hl0
   have hpr:Qc1 R=Qbx l 1:=by unfold Qc1; rw [hl0]
   refine ⟨[.f (.zs (zsOf l))],[],.cons (Qjn hl) .nil,rfl,fun hgx hg=>?_⟩
   have hgood:=Qcr hl hgx.1.2
   have hall:ZB (Qbx l 1) 2000001:=(Qii _ 1 1 ZB.one fun x hx=>(hgood x hx).2.2).mono (by have:=QgM l 1 (Qff hl); omega)
   refine Qab (p:=((0:Int)≤(1:Int)∧(1:Int)<(18446744073709551616:Int))∧∀ (z1:Int),z1=zOf false (Int.toNat (1:Int))→(Sub (flat (nP z1 3)) (nP (1:Int) 3)∧QbS (List.map (fun (e:Bool × List Nat × Nat)=>((e.fst,e.snd.fst),e.snd.snd,e.snd.snd+1)) (zsOf l))≤2000000)∧∀ (z2:Int),z2=Qbx (List.map (fun (e:Bool × List Nat × Nat)=>((e.fst,e.snd.fst),e.snd.snd,e.snd.snd+1)) (zsOf l)) (1:Int)→true=true∧Sub (PV.agg [PV.f (Lf.zn z2),PV.f (Lf.zd z2 (bndP (List.map (fun (e:Bool × List Nat × Nat)=>((e.fst,e.snd.fst),e.snd.snd,e.snd.snd+1)) (zsOf l)) 1))]) (PV.agg [PV.f (Lf.zn (Qc1 R)),PV.f (Lf.zd (Qc1 R) 2000001)])) ?kr ?_
   case kr=>kernel_rfl
   refine ⟨?s0,fun z1=>fun hz1=>⟨?s1,fun z2=>fun hz2=>⟨rfl,?m0⟩⟩⟩
   case s0=>exact ⟨by decide,by decide⟩
   case s1 =>
    refine ⟨?_,(Ql0 l).symm ▸ hk⟩
    have e1:z1=1:=hz1
    subst e1
    exact .refl _
   case m0 =>
    rw [hpr,hz2,show List.map _ (zsOf l)=zsB l from rfl,Ql1]
    exact Qs2 hall
 · cases hs
end
end Go.Proofs.YtemhncjjiomppaaGreatDoor
namespace Go.Proofs.YtemhncjjiomppaaGreatDoor
open Go.RowKit
set_option linter.unusedVariables false
set_option maxRecDepth 100000
def wkC (D:List Dat) (t:Tw) (l:List Vw):List Lf:=.dt .dat D::(tmC t++[.dt .vl l])
def wkP (D:List Dat) (t:Tw) (l:List Vw):PV:=.agg (Qac (wkC D t l))
def wkOf:PV→Option (List Dat × Tw × List Vw)
 | .agg l=>match leafs l with
  | some [d,k,n,b,g,x,v]=>match dtOf .dat d,toTm [k,n,b,g,x],dtOf .vl v with
   | some D,some t,some m=>some (D,t,m)
   | _,_,_=>none
  | _=>none
 | _=>none
theorem QbD {x:PV} {D:List Dat} {t:Tw} {l:List Vw} (h:wkOf x=some (D,t,l)):SubB x (wkP D t l):=by
 unfold wkOf at h
 split at h
 · split at h
   · rename_i d k n b g x v hm
     split at h
     · rename_i D t m hd ht hv
       cases h
       have h5:=Qd3 ht
       unfold tmC at h5
       cases h5 with
       | cons h1 h5=>cases h5 with
        | cons h2 h5=>cases h5 with
         | cons h3 h5=>cases h5 with
          | cons h4 h5=>cases h5 with
           | cons h6 _=>exact QmW hm (.cons (QbB hd) (.cons h1 (.cons h2 (.cons h3 (.cons h4 (.cons h6 (.cons (QbB hv) .nil)))))))
     · cases h
   · cases h
 · cases h
def numV (z:Int):Vw:=.mk 1 (zNeg z) (digs 1000000000 z.natAbs) false ⟨#[]⟩ []
def Qao (b:Bool):Vw:=.mk 2 false [] b ⟨#[]⟩ []
def anyK (l:List Vw) (k:Int):Int:=anyB l fun v=>decide (v.kind≠k)
def anyT (l:List Vw) (b:Bool):Int:=anyB l fun v=>decide (v.truth≠b)
def hasK (l:List Vw) (k:Int):Bool:=decide (0≤anyK l k)
def hasT (l:List Vw) (b:Bool):Bool:=decide (0≤anyT l b)
def allV (l:List Vw) (k:Int):Bool:=!hasK l k
def Qbt (l:List Vw) (b:Bool):Bool:=!hasT l b
def Quo:Spec2
 | [x,.bp 0 0],[.cells [.f (.v (.int .u8 k))]]=>match vlOf x with
  | some v=>some (.ret (bV (decide (v.kind≠k))) [.cells [.f (.v (.int .u8 k))]])
  | none=>none
 | _,_=>none
theorem cAllF {E:Env} (hU:Up E):Contract2 Tryz.prog E 176 Quo:=by
 refine contract2 [] [] Tryz.ntmps176 Tryz.func176 (by kernel_rfl) (by kernel_rfl) hU trivial trivial ?_
 intro xs ob o hs hok
 unfold Quo at hs
 split at hs
 · rename_i x k
   split at hs
   · rename_i v hv
     cases hs
     refine ⟨[vlP v,.bp 0 0],[],.cons (Qbu hv) (.cons (.refl _) .nil),rfl,fun _ hsh=>?_⟩
     refine Qab (p:=EndU 1 (Out.ret (bV (decide (v.kind≠k))) [PO.cells [uV k]]).fin true (bV (v.kind != k)) [PO.cells [uV k],PO.cells (Qac (vlC v))]) ?kr ?_
     case kr=>kernel_rfl
     refine ?m0
     case m0=>exact endU rfl (QaA (by by_cases h:v.kind=k <;> simp [h])) rfl rfl (r:=[.cells (Qac (vlC v))]) rfl
   · cases hs
 · cases hs
def QpD:Spec2
 | [x,.bp 0 0],[.cells [.f (.v (.bool k))]]=>match vlOf x with
  | some v=>some (.ret (bV (decide (v.truth≠k))) [.cells [.f (.v (.bool k))]])
  | none=>none
 | _,_=>none
theorem cEachF {E:Env} (hU:Up E):Contract2 Tryz.prog E 185 QpD:=by
 refine contract2 [] [] Tryz.ntmps185 Tryz.func185 (by kernel_rfl) (by kernel_rfl) hU trivial trivial ?_
 intro xs ob o hs hok
 unfold QpD at hs
 split at hs
 · rename_i x k
   split at hs
   · rename_i v hv
     cases hs
     refine ⟨[vlP v,.bp 0 0],[],.cons (Qbu hv) (.cons (.refl _) .nil),rfl,fun _ hsh=>?_⟩
     refine Qab (p:=EndU 1 (Out.ret (bV (decide (v.truth≠k))) [PO.cells [bV k]]).fin true (bV (!v.truth==k)) [PO.cells [bV k],PO.cells (Qac (vlC v))]) ?kr ?_
     case kr=>kernel_rfl
     refine ?m0
     case m0=>exact endU rfl (QaA (by cases v.truth <;> cases k <;> rfl)) rfl rfl (r:=[.cells (Qac (vlC v))]) rfl
   · cases hs
 · cases hs
def Qk9:Spec2
 | [.f (.dt .vl l),.fn f [] [.bp 0 0]],[.cells [.f (.v (.int .u8 k))]]=>match Nat.beq f 176 with
  | true=>some (.ret (iV (anyK l k)) [.cells [.f (.v (.int .u8 k))]])
  | false=>none
 | _,_=>none
theorem QvB {E:Env} (hU:Up E):Contract2 Tryz.prog E 205 Qk9:=by
 refine contract2 [] [(176,Quo)] Tryz.ntmps205 Tryz.func205 (by kernel_rfl) (by kernel_rfl) hU trivial ⟨cAllF hU,trivial⟩ ?_
 intro xs ob o hs hok
 unfold Qk9 at hs
 split at hs
 · rename_i l f k
   split at hs
   · rename_i hf
     cases hs
     have hf:=Nat.eq_of_beq_eq_true hf
     subst hf
     refine ⟨[.f (.dt .vl l),.fn 176 [] [.bp 0 0]],[(2,.s ⟨Nat,fun i=>⟨[(0,.f (.dt .vl l)),(1,.fn 176 [] [.bp 0 0]),(7,iV l.length),(8,iV i)],[.cells [.f (.v (.int .u8 k))]]⟩,fun i=>i≤l.length∧∀ j,j<i→(Vw.kind (l.getD j Sh.vl.nil)=k),fun i=>l.length - i⟩)],.cons (.refl _) (.cons (.refl _) .nil),rfl,fun _ hsh=>?_⟩
     have hl:=Qay hsh.1
     refine Qab (p:=∃ (x1:Nat),(((rfB (uV k)∧True)∧True)∧rfB (dP Sh.vl l)∧rfB (PV.fn 176 [] [PV.bp 0 0])∧rfB (iV (↑l.length:Int))∧SubB (iV 0) (iV (↑x1:Int))∧True)∧(x1≤l.length∧∀ (j:Nat),j<x1→Vw.kind (l.getD j Sh.vl.nil)=k)∧True∧∀ (z2:Nat),(z2≤l.length∧∀ (j:Nat),j<z2→Vw.kind (l.getD j Sh.vl.nil)=k)→True→ifB (decide ((↑z2:Int)<(↑l.length:Int))) (((0:Int)≤(↑z2:Int)∧(↑z2:Int)<(↑l.length:Int))∧ifB (decide ((etaV (l.getD (↑z2:Int).toNat Sh.vl.nil)).kind≠k)) (EndU 1 (Out.ret (iV (anyK l k)) [PO.cells [uV k]]).fin true (iV (↑z2:Int)) [PO.cells [uV k]]) (∃ (x3:Nat),(((rfB (uV k)∧True)∧True)∧rfB (dP Sh.vl l)∧rfB (PV.fn 176 [] [PV.bp 0 0])∧rfB (iV (↑l.length:Int))∧SubB (iV (IntKind.i64.wrap ((↑z2:Int)+(1:Int)))) (iV (↑x3:Int))∧True)∧(x3≤l.length∧∀ (j:Nat),j<x3→Vw.kind (l.getD j Sh.vl.nil)=k)∧True∧(l.length - x3).succ.le (l.length - z2))) (EndU 1 (Out.ret (iV (anyK l k)) [PO.cells [uV k]]).fin true (iV (-1:Int)) [PO.cells [uV k]])) ?kr ?_
     case kr=>kernel_rfl
     refine ⟨?x0,⟨⟨⟨⟨.refl _,trivial⟩,trivial⟩,⟨.refl _,⟨.refl _,⟨.refl _,⟨?m0,trivial⟩⟩⟩⟩⟩,⟨?s0,⟨trivial,fun z2=>fun hq0=>fun _=>Qaa.2 ⟨fun hb1=>⟨?s1,Qaa.2 ⟨fun hb2=>?m1,fun hb2=>⟨?x1,⟨⟨⟨⟨.refl _,trivial⟩,trivial⟩,⟨.refl _,⟨.refl _,⟨.refl _,⟨?m2,trivial⟩⟩⟩⟩⟩,⟨?s2,⟨trivial,?m3⟩⟩⟩⟩⟩⟩,fun hb1=>?m4⟩⟩⟩⟩⟩
     all_goals try simp only [etaV] at *
     case x0=>exact 0
     case x1=>exact z2+1
     all_goals try simp only [Vw.eta,ne_eq,decide_eq_true_eq,decide_eq_false_iff_not,Decidable.not_not,Int.toNat_natCast] at *
     case m0=>exact .refl _
     case s0=>exact ⟨Nat.zero_le _,fun k hk=>by omega⟩
     case s1=>omega
     case m1=>exact endU rfl (Qai (QcF Sh.vl.nil (by omega) (by simpa using hb2) (fun j hj=>by simpa using hq0.2 j hj)).symm) rfl rfl (r:=[]) rfl
     case m2=>exact Qai (by rw [wJ _ (by omega) (by omega)]; omega)
     case s2 =>
      refine ⟨by omega,fun j hj=>?_⟩
      by_cases hjz:j=z2
      · subst hjz; exact hb2
      · exact hq0.2 j (by omega)
     case m3=>exact (by omega:l.length - (z2+1)<l.length - z2)
     case m4=>exact endU rfl (Qai (Qb1 Sh.vl.nil fun j hj=>by simpa using hq0.2 j (by omega)).symm) rfl rfl (r:=[]) rfl
   · cases hs
 · cases hs
def Qk6:Spec2
 | [.f (.dt .vl l),.fn f [] [.bp 0 0]],[.cells [.f (.v (.bool k))]]=>match Nat.beq f 185 with
  | true=>some (.ret (iV (anyT l k)) [.cells [.f (.v (.bool k))]])
  | false=>none
 | _,_=>none
theorem Qvy {E:Env} (hU:Up E):Contract2 Tryz.prog E 205 Qk6:=by
 refine contract2 [] [(185,QpD)] Tryz.ntmps205 Tryz.func205 (by kernel_rfl) (by kernel_rfl) hU trivial ⟨cEachF hU,trivial⟩ ?_
 intro xs ob o hs hok
 unfold Qk6 at hs
 split at hs
 · rename_i l f k
   split at hs
   · rename_i hf
     cases hs
     have hf:=Nat.eq_of_beq_eq_true hf
     subst hf
     refine ⟨[.f (.dt .vl l),.fn 185 [] [.bp 0 0]],[(2,.s ⟨Nat,fun i=>⟨[(0,.f (.dt .vl l)),(1,.fn 185 [] [.bp 0 0]),(7,iV l.length),(8,iV i)],[.cells [.f (.v (.bool k))]]⟩,fun i=>i≤l.length∧∀ j,j<i→(Vw.truth (l.getD j Sh.vl.nil)=k),fun i=>l.length - i⟩)],.cons (.refl _) (.cons (.refl _) .nil),rfl,fun _ hsh=>?_⟩
     have hl:=Qay hsh.1
     refine Qab (p:=∃ (x1:Nat),(((rfB (bV k)∧True)∧True)∧rfB (dP Sh.vl l)∧rfB (PV.fn 185 [] [PV.bp 0 0])∧rfB (iV (↑l.length:Int))∧SubB (iV 0) (iV (↑x1:Int))∧True)∧(x1≤l.length∧∀ (j:Nat),j<x1→Vw.truth (l.getD j Sh.vl.nil)=k)∧True∧∀ (z2:Nat),(z2≤l.length∧∀ (j:Nat),j<z2→Vw.truth (l.getD j Sh.vl.nil)=k)→True→ifB (decide ((↑z2:Int)<(↑l.length:Int))) (((0:Int)≤(↑z2:Int)∧(↑z2:Int)<(↑l.length:Int))∧ifB (decide ((etaV (l.getD (↑z2:Int).toNat Sh.vl.nil)).truth≠k)) (EndU 1 (Out.ret (iV (anyT l k)) [PO.cells [bV k]]).fin true (iV (↑z2:Int)) [PO.cells [bV k]]) (∃ (x3:Nat),(((rfB (bV k)∧True)∧True)∧rfB (dP Sh.vl l)∧rfB (PV.fn 185 [] [PV.bp 0 0])∧rfB (iV (↑l.length:Int))∧SubB (iV (IntKind.i64.wrap ((↑z2:Int)+(1:Int)))) (iV (↑x3:Int))∧True)∧(x3≤l.length∧∀ (j:Nat),j<x3→Vw.truth (l.getD j Sh.vl.nil)=k)∧True∧(l.length - x3).succ.le (l.length - z2))) (EndU 1 (Out.ret (iV (anyT l k)) [PO.cells [bV k]]).fin true (iV (-1:Int)) [PO.cells [bV k]])) ?kr ?_
     case kr=>kernel_rfl
     refine ⟨?x0,⟨⟨⟨⟨.refl _,trivial⟩,trivial⟩,⟨.refl _,⟨.refl _,⟨.refl _,⟨?m0,trivial⟩⟩⟩⟩⟩,⟨?s0,⟨trivial,fun z2=>fun hq0=>fun _=>Qaa.2 ⟨fun hb1=>⟨?s1,Qaa.2 ⟨fun hb2=>?m1,fun hb2=>⟨?x1,⟨⟨⟨⟨.refl _,trivial⟩,trivial⟩,⟨.refl _,⟨.refl _,⟨.refl _,⟨?m2,trivial⟩⟩⟩⟩⟩,⟨?s2,⟨trivial,?m3⟩⟩⟩⟩⟩⟩,fun hb1=>?m4⟩⟩⟩⟩⟩
     all_goals try simp only [etaV] at *
     case x0=>exact 0
     case x1=>exact z2+1
     all_goals try simp only [Vw.eta,ne_eq,decide_eq_true_eq,decide_eq_false_iff_not,Decidable.not_not,Int.toNat_natCast] at *
     case m0=>exact .refl _
     case s0=>exact ⟨Nat.zero_le _,fun k hk=>by omega⟩
     case s1=>omega
     case m1=>exact endU rfl (Qai (QcF Sh.vl.nil (by omega) (by simpa using hb2) (fun j hj=>by simpa using hq0.2 j hj)).symm) rfl rfl (r:=[]) rfl
     case m2=>exact Qai (by rw [wJ _ (by omega) (by omega)]; omega)
     case s2 =>
      refine ⟨by omega,fun j hj=>?_⟩
      by_cases hjz:j=z2
      · subst hjz; exact hb2
      · exact hq0.2 j (by omega)
     case m3=>exact (by omega:l.length - (z2+1)<l.length - z2)
     case m4=>exact endU rfl (Qai (Qb1 Sh.vl.nil fun j hj=>by simpa using hq0.2 j (by omega)).symm) rfl rfl (r:=[]) rfl
   · cases hs
 · cases hs
def QpJ:Spec2
 | [.f (.dt .vl l),.fn f [] [.bp 0 0]],[.cells [.f (.v (.int .u8 k))]]=>match Nat.beq f 176 with
  | true=>some (.ret (bV (hasK l k)) [.cells [.f (.v (.int .u8 k))]])
  | false=>none
 | _,_=>none
theorem cContA {E:Env} (hU:Up E):Contract2 Tryz.prog E 175 QpJ:=by
 refine contract2 [] [(205,Qk9)] Tryz.ntmps175 Tryz.func175 (by kernel_rfl) (by kernel_rfl) hU trivial ⟨QvB hU,trivial⟩ ?_
 intro xs ob o hs hok
 unfold QpJ at hs
 split at hs
 · rename_i l f k
   split at hs
   · rename_i hf
     cases hs
     have hf:=Nat.eq_of_beq_eq_true hf
     subst hf
     refine ⟨[.f (.dt .vl l),.fn 176 [] [.bp 0 0]],[],.cons (.refl _) (.cons (.refl _) .nil),rfl,fun _ hsh=>?_⟩
     refine Qab (p:=EndU 1 (Out.ret (bV (hasK l k)) [PO.cells [uV k]]).fin true (bV (decide (anyK l k ≥ (0:Int)))) [PO.cells [uV k]]) ?kr ?_
     case kr=>kernel_rfl
     refine ?m0
     case m0=>exact endU rfl (QaA rfl) rfl rfl (r:=[]) rfl
   · cases hs
 · cases hs
def QpH:Spec2
 | [.f (.dt .vl l),.fn f [] [.bp 0 0]],[.cells [.f (.v (.bool k))]]=>match Nat.beq f 185 with
  | true=>some (.ret (bV (hasT l k)) [.cells [.f (.v (.bool k))]])
  | false=>none
 | _,_=>none
theorem cContE {E:Env} (hU:Up E):Contract2 Tryz.prog E 175 QpH:=by
 refine contract2 [] [(205,Qk6)] Tryz.ntmps175 Tryz.func175 (by kernel_rfl) (by kernel_rfl) hU trivial ⟨Qvy hU,trivial⟩ ?_
 intro xs ob o hs hok
 unfold QpH at hs
 split at hs
 · rename_i l f k
   split at hs
   · rename_i hf
     cases hs
     have hf:=Nat.eq_of_beq_eq_true hf
     subst hf
     refine ⟨[.f (.dt .vl l),.fn 185 [] [.bp 0 0]],[],.cons (.refl _) (.cons (.refl _) .nil),rfl,fun _ hsh=>?_⟩
     refine Qab (p:=EndU 1 (Out.ret (bV (hasT l k)) [PO.cells [bV k]]).fin true (bV (decide (anyT l k ≥ (0:Int)))) [PO.cells [bV k]]) ?kr ?_
     case kr=>kernel_rfl
     refine ?m0
     case m0=>exact endU rfl (QaA rfl) rfl rfl (r:=[]) rfl
   · cases hs
 · cases hs
def QfO:Spec
 | [x,.f (.v (.int .u8 k))]=>match wkOf x with
  | some (D,t,l)=>some (none,.nm Bool (allV l k) bV)
  | none=>none
 | _=>none
theorem QiX {E:Env} (hU:Up E):Contract Tryz.prog E 143 QfO:=by
 refine Qad [] [(175,QpJ)] Tryz.ntmps143 Tryz.func143 (by kernel_rfl) (by kernel_rfl) hU trivial ⟨cContA hU,trivial⟩ ?_
 intro xs p r hs hp
 unfold QfO at hs
 split at hs
 · rename_i x k
   split at hs
   · rename_i D t l hv
     cases hs
     refine ⟨[wkP D t l,.f (.v (.int .u8 k))],[],.cons (QbD hv).sub (.cons (.refl _) .nil),rfl,fun _ hsh=>?_⟩
     have h0:=hv
     refine Qab (p:=true=true∧Sub (bV (!hasK l k)) (bV (allV l k))) ?kr ?_
     case kr=>kernel_rfl
     refine ⟨rfl,?m0⟩
     case m0=>exact .refl _
   · cases hs
 · cases hs
def Qmg:Spec
 | [x,.f (.v (.bool k))]=>match wkOf x with
  | some (D,t,l)=>some (none,.nm Bool (Qbt l k) bV)
  | none=>none
 | _=>none
theorem Qtr {E:Env} (hU:Up E):Contract Tryz.prog E 151 Qmg:=by
 refine Qad [] [(175,QpH)] Tryz.ntmps151 Tryz.func151 (by kernel_rfl) (by kernel_rfl) hU trivial ⟨cContE hU,trivial⟩ ?_
 intro xs p r hs hp
 unfold Qmg at hs
 split at hs
 · rename_i x k
   split at hs
   · rename_i D t l hv
     cases hs
     refine ⟨[wkP D t l,.f (.v (.bool k))],[],.cons (QbD hv).sub (.cons (.refl _) .nil),rfl,fun _ hsh=>?_⟩
     have h0:=hv
     refine Qab (p:=true=true∧Sub (bV (!hasT l k)) (bV (Qbt l k))) ?kr ?_
     case kr=>kernel_rfl
     refine ⟨rfl,?m0⟩
     case m0=>exact .refl _
   · cases hs
 · cases hs
end Go.Proofs.YtemhncjjiomppaaGreatDoor
namespace Go.Proofs.YtemhncjjiomppaaGreatDoor
open Go.RowKit
set_option linter.unusedVariables false
set_option maxRecDepth 100000
def nilV:Vw:=.mk 3 false [] false ⟨#[]⟩ []
def QaO (s:ByteArray):Vw:=.mk (if s=QaM then 2 else if s=bInt then 1 else 0) false [] false ⟨#[]⟩ []
def vz (v:Vw):Bool × List Nat × Nat:=(v.neg,v.digits,v.digits.length)
def sumW:List Vw→Int→Int
 | [],a=>a
 | v::l,a=>sumW l (a+zV v.neg v.digits)
def QaP:List Vw→Int→Int
 | [],a=>a
 | v::l,a=>QaP l (a * zV v.neg v.digits)
def sizV:List Vw→Nat
 | []=>0
 | v::l=>v.digits.length+2+sizV l
def rowZ (L:List (Bool × List Nat × Nat)):List ((Bool × List Nat) × Nat × Nat):=L.map fun e=>((e.1,e.2.1),e.2.2,e.2.2+1)
theorem Qrx (L:List (Bool × List Nat × Nat)):zsOf (rowZ L)=L:=by
 unfold zsOf rowZ
 rw [List.map_map]
 exact (List.map_congr_left fun e _=>rfl).trans (List.map_id L)
theorem row_zs (L:List (Bool × List Nat × Nat)):Sub (.f (.row 2 (QaT L))) (.f (.zs L)):=by
 have h:QcT (.row 2 (QaT L))=some (rowZ L):=Qfi L
 have:=Qjn h
 rwa [Qrx] at this
theorem QpP:∀ (l:List Vw) (a:Int),sumR (rowZ (l.map vz)) a=sumW l a
 | [],a=>rfl
 | v::l,a=>QpP l _
theorem Qmo:∀ (l:List Vw) (a:Int),Qbx (rowZ (l.map vz)) a=QaP l a
 | [],a=>rfl
 | v::l,a=>Qmo l _
theorem Qmn:∀ (l:List Vw),QbS (rowZ (l.map vz))=sizV l
 | []=>rfl
 | v::l=>by
  show v.digits.length+2+QbS (rowZ (l.map vz))=_
  rw [Qmn l]; rfl
theorem Quq {l:List Vw} {n:Nat} (h:∀ v∈l,v.digits.length≤n):∀ x∈rowZ (l.map vz),x.2.1≤n:=by
 intro x hx
 unfold rowZ at hx
 rw [List.map_map,List.mem_map] at hx
 obtain ⟨v,hv,rfl⟩:=hx
 exact h v hv
theorem Qmm (l:List Vw) (b:Bool) (d:List Nat):QaT (l.map vz)++[[.v (.bool b),.lr d d.length]]=QaT (l.map vz++[(b,d,d.length)]):=by
 unfold QaT; rw [List.map_append]; rfl
theorem Qju:∀ (l m:List ((Bool × List Nat) × Nat × Nat)),QbS (l++m)=QbS l+QbS m
 | [],m=>by simp [QbS]
 | x::l,m=>by
  have:=Qju l m
  show x.2.1+2+QbS (l++m)=x.2.1+2+QbS l+QbS m
  omega
theorem QjG:∀ (l m:List ((Bool × List Nat) × Nat × Nat)) (a:Int),Qbx (l++m) a=Qbx m (Qbx l a)
 | [],m,a=>rfl
 | x::l,m,a=>QjG l m _
theorem QjC {l:List Vw} {b:Bool} {d:List Nat} (h:sizV l+d.length+2≤2000000):QlY (QaT (l.map vz)++[[.v (.bool b),.lr d d.length]]):=by
 rw [Qmm]
 refine ⟨rowZ (l.map vz++[(b,d,d.length)]),Qfi _,?_⟩
 unfold rowZ
 rw [List.map_append,Qju]
 have h1:=Qmn l
 unfold rowZ at h1
 rw [h1]
 show sizV l+(d.length+2+0)≤2000000
 omega
theorem QeZ (l:List Vw) (b:Bool) (d:List Nat):Qc1 (QaT (l.map vz)++[[.v (.bool b),.lr d d.length]])=QaP l 1 * zV b d:=by
 rw [Qmm]
 have h:Qeb (QaT (l.map vz++[(b,d,d.length)]))=some (rowZ (l.map vz++[(b,d,d.length)])):=Qfi _
 unfold Qc1
 rw [h]
 dsimp only
 unfold rowZ
 rw [List.map_append,QjG]
 have h1:=Qmo l 1
 unfold rowZ at h1
 rw [h1]
 rfl
theorem Qc9 {l:List Vw} {i:Nat} (h:i<l.length):l.getD i Sh.vl.nil∈l:=by
 rw [List.getD_eq_getElem?_getD,List.getElem?_eq_getElem h]
 exact List.getElem_mem h
theorem Qup (l:List Vw):(rowZ (l.map vz)).length=l.length:=by simp [rowZ]
def QeF:Spec
 | [.agg [.f (.zn z),.f (.zd z' k)]]=>some (some (z=z'),.one (vlP (numV z)))
 | _=>none
theorem QiW {E:Env} (hU:Up E):Contract Tryz.prog E 139 QeF:=by
 refine Qad [] [] Tryz.ntmps139 Tryz.func139 (by kernel_rfl) (by kernel_rfl) hU trivial trivial ?_
 intro xs p r hs hp
 unfold QeF at hs
 split at hs
 · rename_i z z' k
   cases hs
   obtain rfl:=hp _ rfl
   refine ⟨[zP z k],[],.cons (.refl _) .nil,rfl,fun _ hsh=>?_⟩
   refine Qab (p:=true=true∧Sub (PV.agg [uV 1,PV.f (Lf.zn z),PV.f (Lf.zd z k),bV false,sV (ByteArray.mk #[]),nlP]) (PV.agg [uV ((numV z).kind),bV ((numV z).neg),PV.f (Lf.lr (numV z).digits (numV z).digits.length),bV ((numV z).truth),sV ((numV z).name),dP Sh.vl []])) ?kr ?_
   case kr=>kernel_rfl
   refine ⟨rfl,?m0⟩
   case m0=>exact (Qbu (t:=numV z) rfl).sub
 · cases hs
def QdE:Spec
 | [.f (.v (.bool b))]=>some (none,.one (vlP (Qao b)))
 | _=>none
theorem Qe2 {E:Env} (hU:Up E):Contract Tryz.prog E 141 QdE:=by
 refine Qad [] [] Tryz.ntmps141 Tryz.func141 (by kernel_rfl) (by kernel_rfl) hU trivial trivial ?_
 intro xs p r hs hp
 unfold QdE at hs
 split at hs
 · rename_i b
   cases hs
   refine ⟨[.f (.v (.bool b))],[],.cons (.refl _) .nil,rfl,fun _ hsh=>?_⟩
   refine Qab (p:=true=true∧Sub (PV.agg [uV 2,bV false,nlP,bV b,sV (ByteArray.mk #[]),nlP]) (PV.agg (vl0 (Qao b)))) ?kr ?_
   case kr=>kernel_rfl
   refine ⟨rfl,?m0⟩
   case m0=>exact (Qbu (t:=Qao b) rfl).sub
 · cases hs
def Qh6:Spec
 | []=>some (none,.one (vlP nilV))
 | _=>none
theorem QsI {E:Env} (hU:Up E):Contract Tryz.prog E 148 Qh6:=by
 refine Qad [] [] Tryz.ntmps148 Tryz.func148 (by kernel_rfl) (by kernel_rfl) hU trivial trivial ?_
 intro xs p r hs hp
 unfold Qh6 at hs
 split at hs
 · cases hs
   refine ⟨[],[],.nil,rfl,fun _ hsh=>?_⟩
   refine Qab (p:=true=true∧Sub (PV.agg [uV 3,bV false,nlP,bV false,sV (ByteArray.mk #[]),nlP]) (PV.agg (vl0 nilV))) ?kr ?_
   case kr=>kernel_rfl
   refine ⟨rfl,?m0⟩
   case m0=>exact (Qbu (t:=nilV) rfl).sub
 · cases hs
def Qt6:Spec
 | [.f (.v (.string s))]=>some (none,.one (vlP (QaO s)))
 | _=>none
theorem cZero {E:Env} (hU:Up E):Contract Tryz.prog E 147 Qt6:=by
 refine Qad [] [] Tryz.ntmps147 Tryz.func147 (by kernel_rfl) (by kernel_rfl) hU trivial trivial ?_
 intro xs p r hs hp
 unfold Qt6 at hs
 split at hs
 · rename_i s
   cases hs
   refine ⟨[.f (.v (.string s))],[],.cons (.refl _) .nil,rfl,fun _ hsh=>?_⟩
   refine Qab (p:=ifB (Kt.str.eq s (ByteArray.mk #[(98:UInt8),(111:UInt8),(111:UInt8),(108:UInt8)])) (true=true∧Sub (PV.agg [uV 2,bV false,nlP,bV false,sV (ByteArray.mk #[]),nlP]) (PV.agg (vl0 (QaO s)))) (ifB (Kt.str.eq s (ByteArray.mk #[(105:UInt8),(110:UInt8),(116:UInt8)])) (true=true∧Sub (PV.agg [uV 1,bV false,nlP,bV false,sV (ByteArray.mk #[]),nlP]) (PV.agg (vl0 (QaO s)))) (true=true∧Sub (PV.agg zVP) (PV.agg (vl0 (QaO s)))))) ?kr ?_
   case kr=>kernel_rfl
   refine Qaa.2 ⟨fun hb0=>⟨rfl,?m0⟩,fun hb0=>Qaa.2 ⟨fun hb1=>⟨rfl,?m1⟩,fun hb1=>⟨rfl,?m2⟩⟩⟩
   all_goals have eB:Kt.str.eq s QaM=decide (s=QaM):=rfl
   all_goals have eI:Kt.str.eq s bInt=decide (s=bInt):=rfl
   case m0 =>
    have h:s=QaM:=of_decide_eq_true (eB.symm.trans hb0)
    exact (Qbu (t:=QaO s) (by unfold QaO; rw [if_pos h]; rfl)).sub
   all_goals have h0:¬ s=QaM:=of_decide_eq_false (eB.symm.trans hb0)
   case m1 =>
    have h:s=bInt:=of_decide_eq_true (eI.symm.trans hb1)
    exact (Qbu (t:=QaO s) (by unfold QaO; rw [if_neg h0,if_pos h]; rfl)).sub
   case m2 =>
    have h:¬ s=bInt:=of_decide_eq_false (eI.symm.trans hb1)
    exact (Qbu (t:=QaO s) (by unfold QaO; rw [if_neg h0,if_neg h]; rfl)).sub
 · cases hs
def Quc:Spec
 | [x]=>match wkOf x with
  | some (D,t,l)=>some (some (l.length≤100000000),.one (.f (.zs (l.map vz))))
  | none=>none
 | _=>none
theorem cNums {E:Env} (hU:Up E):Contract Tryz.prog E 142 Quc:=by
 refine Qad [] [] Tryz.ntmps142 Tryz.func142 (by kernel_rfl) (by kernel_rfl) hU trivial trivial ?_
 intro xs p r hs hp
 unfold Quc at hs
 split at hs
 · rename_i x
   split at hs
   · rename_i D t l hv
     cases hs
     have hf:=hp _ rfl
     refine ⟨[wkP D t l],[(3,.s ⟨Nat,fun i=>⟨[(3,.tl 1 (.row 2 (QaT ((l.take i).map vz)))),(7,.f (.dt .vl l)),(8,iV l.length),(9,iV i)],[.cells (Qac (wkC D t l)),.tail 25 2]⟩,fun i=>i≤l.length,fun i=>l.length - i⟩)],.cons (QbD hv).sub .nil,rfl,fun _ hsh=>?_⟩
     have h0:=hv
     refine Qab (p:=∃ (x1:Nat),(((rfB (dP Sh.dat D)∧rfB (uV t.kind)∧rfB (sV t.name)∧rfB (bV t.neg)∧rfB (PV.f (Lf.lr t.digits t.digits.length))∧rfB (dP Sh.tm t.kids)∧rfB (dP Sh.vl l)∧True)∧True)∧QcK (PV.tl 1 (Lf.row 2 (QaT (List.map vz (List.take x1 l)))))∧rfB (dP Sh.vl l)∧rfB (iV (↑l.length:Int))∧SubB (iV 0) (iV (↑x1:Int))∧True)∧x1≤l.length∧True∧∀ (z2:Nat),z2≤l.length→True→ifB (decide ((↑z2:Int)<(↑l.length:Int))) (((0:Int)≤(↑z2:Int)∧(↑z2:Int)<(↑l.length:Int))∧((QaT (List.map vz (List.take z2 l))).length+1≤9223372036854775807∧((QaT (List.map vz (List.take z2 l))).length+1) * 32≤140737488355328)∧∃ (x3:Nat),(((rfB (dP Sh.dat D)∧rfB (uV t.kind)∧rfB (sV t.name)∧rfB (bV t.neg)∧rfB (PV.f (Lf.lr t.digits t.digits.length))∧rfB (dP Sh.tm t.kids)∧rfB (dP Sh.vl l)∧True)∧True)∧SubB (PV.tl 1 (Lf.row 2 (QaT (List.map vz (List.take z2 l))++[[Lf.v (Value.bool (Vw.neg (l.getD (↑z2:Int).toNat Sh.vl.nil))),Lf.lr (Vw.digits (l.getD (↑z2:Int).toNat Sh.vl.nil)) (Vw.digits (l.getD (↑z2:Int).toNat Sh.vl.nil)).length]]))) (PV.tl 1 (Lf.row 2 (QaT (List.map vz (List.take x3 l)))))∧rfB (dP Sh.vl l)∧rfB (iV (↑l.length:Int))∧SubB (iV (IntKind.i64.wrap ((↑z2:Int)+(1:Int)))) (iV (↑x3:Int))∧True)∧x3≤l.length∧True∧(l.length - x3).succ.le (l.length - z2)) (true=true∧Sub (PV.f (Lf.row 2 (QaT (List.map vz (List.take z2 l))))) (PV.f (Lf.zs (List.map vz l))))) ?kr ?_
     case kr=>kernel_rfl
     refine ⟨?x0,⟨?s0,⟨?s1,⟨trivial,fun z2=>fun hq0=>fun _=>Qaa.2 ⟨fun hb1=>⟨?s2,⟨?s3,⟨?x1,⟨⟨⟨⟨.refl _,⟨.refl _,⟨.refl _,⟨.refl _,⟨.refl _,⟨.refl _,⟨.refl _,trivial⟩⟩⟩⟩⟩⟩⟩,trivial⟩,⟨?m0,⟨.refl _,⟨.refl _,⟨?m1,trivial⟩⟩⟩⟩⟩,⟨?s4,⟨trivial,?m2⟩⟩⟩⟩⟩⟩,fun hb1=>⟨rfl,?m3⟩⟩⟩⟩⟩⟩
     case x0=>exact 0
     case x1=>exact z2+1
     all_goals try simp only [decide_eq_true_eq,decide_eq_false_iff_not,Int.toNat_natCast] at *
     case s0=>exact ⟨⟨⟨.refl _,.refl _,.refl _,.refl _,.refl _,.refl _,.refl _,trivial⟩,trivial⟩,rfl,.refl _,.refl _,.refl _,trivial⟩
     case s1=>exact Nat.zero_le _
     case m3 =>
      rw [List.take_of_length_le (by omega)]
      exact row_zs _
     all_goals have hz:z2<l.length:=by omega
     case s2=>omega
     case s3 =>
      rw [show (QaT ((l.take z2).map vz)).length=z2 by simp [QaT]; omega]
      omega
     case m0 =>
      have e:QaT ((l.take (z2+1)).map vz)=QaT ((l.take z2).map vz)++[[.v (.bool (Vw.neg (l.getD z2 Sh.vl.nil))),.lr (Vw.digits (l.getD z2 Sh.vl.nil)) (Vw.digits (l.getD z2 Sh.vl.nil)).length]]:=by
       rw [List.take_add_one,List.getElem?_eq_getElem hz,List.getD_eq_getElem?_getD,List.getElem?_eq_getElem hz]
       unfold QaT
       rw [List.map_append,List.map_append]
       rfl
      rw [e]
      exact .refl _
     case m1=>exact Qai (by rw [wJ _ (by omega) (by omega)]; rfl)
     case s4=>exact hz
     case m2=>exact (by omega:l.length - (z2+1)<l.length - z2)
   · cases hs
 · cases hs
def Qpx:Spec2
 | [x],[]=>match wkOf x with
  | some (D,t,l)=>some (.need (l.length≤100000000) (.ret (.tl 1 (.row 2 (QaT (l.map vz)))) [.cells (Qac (wkC D t l)),.tail 25 2]))
  | none=>none
 | _,_=>none
theorem cNumsO {E:Env} (hU:Up E):Contract2 Tryz.prog E 142 Qpx:=by
 refine QlI [] [] Tryz.ntmps142 Tryz.func142 (by kernel_rfl) (by kernel_rfl) hU trivial trivial ?_
 intro xs ob o hs hok
 unfold Qpx at hs
 split at hs
 · rename_i x
   split at hs
   · rename_i D t l hv
     cases hs
     have hf:=hok.1
     refine ⟨[wkP D t l],[(3,.s ⟨Nat,fun i=>⟨[(3,.tl 1 (.row 2 (QaT ((l.take i).map vz)))),(7,.f (.dt .vl l)),(8,iV l.length),(9,iV i)],[.cells (Qac (wkC D t l)),.tail 25 2]⟩,fun i=>i≤l.length,fun i=>l.length - i⟩)],.cons (QbD hv) .nil,rfl,fun _ hsh=>?_⟩
     have h0:=hv
     refine Qab (p:=∃ (x1:Nat),(((rfB (dP Sh.dat D)∧rfB (uV t.kind)∧rfB (sV t.name)∧rfB (bV t.neg)∧rfB (PV.f (Lf.lr t.digits t.digits.length))∧rfB (dP Sh.tm t.kids)∧rfB (dP Sh.vl l)∧True)∧True)∧QcK (PV.tl 1 (Lf.row 2 (QaT (List.map vz (List.take x1 l)))))∧rfB (dP Sh.vl l)∧rfB (iV (↑l.length:Int))∧SubB (iV 0) (iV (↑x1:Int))∧True)∧x1≤l.length∧True∧∀ (z2:Nat),z2≤l.length→True→ifB (decide ((↑z2:Int)<(↑l.length:Int))) (((0:Int)≤(↑z2:Int)∧(↑z2:Int)<(↑l.length:Int))∧((QaT (List.map vz (List.take z2 l))).length+1≤9223372036854775807∧((QaT (List.map vz (List.take z2 l))).length+1) * 32≤140737488355328)∧∃ (x3:Nat),(((rfB (dP Sh.dat D)∧rfB (uV t.kind)∧rfB (sV t.name)∧rfB (bV t.neg)∧rfB (PV.f (Lf.lr t.digits t.digits.length))∧rfB (dP Sh.tm t.kids)∧rfB (dP Sh.vl l)∧True)∧True)∧SubB (PV.tl 1 (Lf.row 2 (QaT (List.map vz (List.take z2 l))++[[Lf.v (Value.bool (Vw.neg (l.getD (↑z2:Int).toNat Sh.vl.nil))),Lf.lr (Vw.digits (l.getD (↑z2:Int).toNat Sh.vl.nil)) (Vw.digits (l.getD (↑z2:Int).toNat Sh.vl.nil)).length]]))) (PV.tl 1 (Lf.row 2 (QaT (List.map vz (List.take x3 l)))))∧rfB (dP Sh.vl l)∧rfB (iV (↑l.length:Int))∧SubB (iV (IntKind.i64.wrap ((↑z2:Int)+(1:Int)))) (iV (↑x3:Int))∧True)∧x3≤l.length∧True∧(l.length - x3).succ.le (l.length - z2)) (EndU 0 (Out.need (l.length≤100000000) (Out.ret (PV.tl 1 (Lf.row 2 (QaT (List.map vz l)))) [PO.cells (Qac (wkC D t l)),PO.tail 25 2])).fin true (PV.tl 1 (Lf.row 2 (QaT (List.map vz (List.take z2 l))))) [PO.cells ([dP Sh.dat D]++(Qac (tmC t)++[dP Sh.vl l])),PO.tail 25 2])) ?kr ?_
     case kr=>kernel_rfl
     refine ⟨?x0,⟨?s0,⟨?s1,⟨trivial,fun z2=>fun hq0=>fun _=>Qaa.2 ⟨fun hb1=>⟨?s2,⟨?s3,⟨?x1,⟨⟨⟨⟨.refl _,⟨.refl _,⟨.refl _,⟨.refl _,⟨.refl _,⟨.refl _,⟨.refl _,trivial⟩⟩⟩⟩⟩⟩⟩,trivial⟩,⟨?m0,⟨.refl _,⟨.refl _,⟨?m1,trivial⟩⟩⟩⟩⟩,⟨?s4,⟨trivial,?m2⟩⟩⟩⟩⟩⟩,fun hb1=>?m3⟩⟩⟩⟩⟩
     case x0=>exact 0
     case x1=>exact z2+1
     all_goals try simp only [decide_eq_true_eq,decide_eq_false_iff_not,Int.toNat_natCast] at *
     case s0=>exact ⟨⟨⟨.refl _,.refl _,.refl _,.refl _,.refl _,.refl _,.refl _,trivial⟩,trivial⟩,rfl,.refl _,.refl _,.refl _,trivial⟩
     case s1=>exact Nat.zero_le _
     case m3 =>
      rw [List.take_of_length_le (by omega)]
      exact endU rfl (.refl _) rfl rfl (r:=[]) rfl
     all_goals have hz:z2<l.length:=by omega
     case s2=>omega
     case s3 =>
      rw [show (QaT ((l.take z2).map vz)).length=z2 by simp [QaT]; omega]
      omega
     case m0 =>
      have e:QaT ((l.take (z2+1)).map vz)=QaT ((l.take z2).map vz)++[[.v (.bool (Vw.neg (l.getD z2 Sh.vl.nil))),.lr (Vw.digits (l.getD z2 Sh.vl.nil)) (Vw.digits (l.getD z2 Sh.vl.nil)).length]]:=by
       rw [List.take_add_one,List.getElem?_eq_getElem hz,List.getD_eq_getElem?_getD,List.getElem?_eq_getElem hz]
       unfold QaT
       rw [List.map_append,List.map_append]
       rfl
      rw [e]
      exact .refl _
     case m1=>exact Qai (by rw [wJ _ (by omega) (by omega)]; rfl)
     case s4=>exact hz
     case m2=>exact (by omega:l.length - (z2+1)<l.length - z2)
   · cases hs
 · cases hs
def sLit:Spec
 | [x]=>match wkOf x with
  | some (D,t,l)=>some (some (t.digits.length≤1500000),.one (.tup [vlP (numV (zV t.neg t.digits)),bV (Qau t.neg t.digits)]))
  | none=>none
 | _=>none
theorem cLit {E:Env} (hU:Up E):Contract Tryz.prog E 90 sLit:=by
 refine Qad [(140,QrS),(139,QeF),(83,QfK)] [] Tryz.ntmps90 Tryz.func90 (by kernel_rfl) (by kernel_rfl) hU ⟨cAddW hU,QiW hU,Qnv hU,trivial⟩ trivial ?_
 intro xs p r hs hp
 unfold sLit at hs
 split at hs
 · rename_i x
   split at hs
   · rename_i D t l hv
     cases hs
     have hf:=hp _ rfl
     refine ⟨[wkP D t l],[],.cons (QbD hv).sub .nil,rfl,fun _ hsh=>?_⟩
     have h0:=hv
     refine Qab (p:=((∀ (x:(Bool × List Nat) × Nat × Nat),x∈[((t.neg,t.digits),t.digits.length,t.digits.length+1)]→x.snd.fst≤2000000)∧1≤100000000)∧∀ (z1:Int),z1=(0:Int)+zV t.neg t.digits→z1=z1∧t.digits.length≤100000000∧true=true∧Sub (PV.tup [PV.agg [uV ((numV z1).kind),bV ((numV z1).neg),PV.f (Lf.lr (numV z1).digits (numV z1).digits.length),bV ((numV z1).truth),sV ((numV z1).name),dP Sh.vl []],bV (Qau t.neg t.digits)]) (PV.tup [PV.agg [uV ((numV (zV t.neg t.digits)).kind),bV ((numV (zV t.neg t.digits)).neg),PV.f (Lf.lr (numV (zV t.neg t.digits)).digits (numV (zV t.neg t.digits)).digits.length),bV ((numV (zV t.neg t.digits)).truth),sV ((numV (zV t.neg t.digits)).name),dP Sh.vl []],bV (Qau t.neg t.digits)])) ?kr ?_
     case kr=>kernel_rfl
     refine ⟨?s0,fun z1=>fun hz1=>⟨rfl,⟨?s1,⟨rfl,?m0⟩⟩⟩⟩
     case s0=>exact ⟨fun x hx=>by simp at hx; subst hx; show t.digits.length≤2000000; omega,by omega⟩
     case s1=>omega
     case m0=>rw [Int.zero_add] at hz1; subst hz1; exact .refl _
   · cases hs
 · cases hs
def sYes:Spec
 | [x]=>match wkOf x with
  | some (D,t,l)=>some (none,.one (.tup [vlP (Qao true),bV true]))
  | none=>none
 | _=>none
theorem cYes {E:Env} (hU:Up E):Contract Tryz.prog E 91 sYes:=by
 refine Qad [(141,QdE)] [] Tryz.ntmps91 Tryz.func91 (by kernel_rfl) (by kernel_rfl) hU ⟨Qe2 hU,trivial⟩ trivial ?_
 intro xs p r hs hp
 unfold sYes at hs
 split at hs
 · rename_i x
   split at hs
   · rename_i D t l hv
     cases hs
     refine ⟨[wkP D t l],[],.cons (QbD hv).sub .nil,rfl,fun _ hsh=>?_⟩
     have h0:=hv
     refine Qab (p:=true=true∧rfS (PV.tup [PV.agg (vl0 (Qao true)),bV true])) ?kr ?_
     case kr=>kernel_rfl
     refine ⟨rfl,?m0⟩
     case m0=>exact .refl _
   · cases hs
 · cases hs
def sNo:Spec
 | [x]=>match wkOf x with
  | some (D,t,l)=>some (none,.one (.tup [vlP (Qao false),bV true]))
  | none=>none
 | _=>none
theorem cNo {E:Env} (hU:Up E):Contract Tryz.prog E 92 sNo:=by
 refine Qad [(141,QdE)] [] Tryz.ntmps92 Tryz.func92 (by kernel_rfl) (by kernel_rfl) hU ⟨Qe2 hU,trivial⟩ trivial ?_
 intro xs p r hs hp
 unfold sNo at hs
 split at hs
 · rename_i x
   split at hs
   · rename_i D t l hv
     cases hs
     refine ⟨[wkP D t l],[],.cons (QbD hv).sub .nil,rfl,fun _ hsh=>?_⟩
     have h0:=hv
     refine Qab (p:=true=true∧rfS (PV.tup [PV.agg (vl0 (Qao false)),bV true])) ?kr ?_
     case kr=>kernel_rfl
     refine ⟨rfl,?m0⟩
     case m0=>exact .refl _
   · cases hs
 · cases hs
def Qt9:Spec
 | [x]=>match wkOf x with
  | some (D,t,l)=>some (some ((∀ v∈l,v.digits.length≤2000000)∧l.length≤100000000),.one (.tup [vlP (numV (sumW l 0)),bV (allV l 1)]))
  | none=>none
 | _=>none
theorem cSumW {E:Env} (hU:Up E):Contract Tryz.prog E 93 Qt9:=by
 refine Qad [(142,Quc),(140,QrS),(139,QeF),(143,QfO)] [] Tryz.ntmps93 Tryz.func93 (by kernel_rfl) (by kernel_rfl) hU ⟨cNums hU,cAddW hU,QiW hU,QiX hU,trivial⟩ trivial ?_
 intro xs p r hs hp
 unfold Qt9 at hs
 split at hs
 · rename_i x
   split at hs
   · rename_i D t l hv
     cases hs
     have hf:=hp _ rfl
     refine ⟨[wkP D t l],[],.cons (QbD hv).sub .nil,rfl,fun _ hsh=>?_⟩
     have h0:=hv
     refine Qab (p:=l.length≤100000000∧((∀ (x:(Bool × List Nat) × Nat × Nat),x∈List.map (fun (e:Bool × List Nat × Nat)=>((e.fst,e.snd.fst),e.snd.snd,e.snd.snd+1)) (List.map vz l)→x.snd.fst≤2000000)∧(List.map (fun (e:Bool × List Nat × Nat)=>((e.fst,e.snd.fst),e.snd.snd,e.snd.snd+1)) (List.map vz l)).length≤100000000)∧∀ (z1:Int),z1=sumR (List.map (fun (e:Bool × List Nat × Nat)=>((e.fst,e.snd.fst),e.snd.snd,e.snd.snd+1)) (List.map vz l)) (0:Int)→z1=z1∧∀ (z2:Bool),z2=allV l (1:Int)→true=true∧Sub (PV.tup [PV.agg [uV ((numV z1).kind),bV ((numV z1).neg),PV.f (Lf.lr (numV z1).digits (numV z1).digits.length),bV ((numV z1).truth),sV ((numV z1).name),dP Sh.vl []],bV z2]) (PV.tup [PV.agg [uV ((numV (sumW l (0:Int))).kind),bV ((numV (sumW l (0:Int))).neg),PV.f (Lf.lr (numV (sumW l (0:Int))).digits (numV (sumW l (0:Int))).digits.length),bV ((numV (sumW l (0:Int))).truth),sV ((numV (sumW l (0:Int))).name),dP Sh.vl []],bV (allV l (1:Int))])) ?kr ?_
     case kr=>kernel_rfl
     refine ⟨?s0,⟨?s1,fun z1=>fun hz1=>⟨rfl,fun z2=>fun hz2=>⟨rfl,?m0⟩⟩⟩⟩
     all_goals try rw [show List.map _ (l.map vz)=rowZ (l.map vz) from rfl] at *
     case s0=>exact hf.2
     case s1=>exact ⟨Quq hf.1,by rw [Qup]; exact hf.2⟩
     case m0=>subst_vars; rw [QpP]; exact .refl _
   · cases hs
 · cases hs
def Qpt:Spec
 | [x]=>match wkOf x with
  | some (D,t,l)=>some (some (sizV l+t.digits.length+2≤2000000∧l.length≤100000000),.one (.tup [vlP (numV (QaP l 1 * zV t.neg t.digits)),bV (allV l 1 && Qau t.neg t.digits)]))
  | none=>none
 | _=>none
theorem cProdW {E:Env} (hU:Up E):Contract Tryz.prog E 94 Qpt:=by
 refine Qad [(144,Que),(139,QeF),(143,QfO),(83,QfK)] [(142,Qpx)] Tryz.ntmps94 Tryz.func94 (by kernel_rfl) (by kernel_rfl) hU ⟨cMulR hU,QiW hU,QiX hU,Qnv hU,trivial⟩ ⟨cNumsO hU,trivial⟩ ?_
 intro xs p r hs hp
 unfold Qpt at hs
 split at hs
 · rename_i x
   split at hs
   · rename_i D t l hv
     cases hs
     have hf:=hp _ rfl
     refine ⟨[wkP D t l],[],.cons (QbD hv).sub .nil,rfl,fun _ hsh=>?_⟩
     have h0:=hv
     refine Qab (p:=SameL [PV.agg ([dP Sh.dat D]++(Qac (tmC t)++[dP Sh.vl l])),PV.bp 0 1,PV.bp 0 3,PV.agg [bV t.neg,PV.f (Lf.lr t.digits t.digits.length)],PV.f (Lf.row 2 [[Lf.v (Value.bool t.neg),Lf.lr t.digits t.digits.length]]),PV.agg ([dP Sh.dat D]++(Qac (tmC t)++[dP Sh.vl l]))] [PV.agg ([dP Sh.dat D]++(Qac (tmC t)++[dP Sh.vl l])),PV.bp 0 1,PV.bp 0 3,PV.agg [bV t.neg,PV.f (Lf.lr t.digits t.digits.length)],PV.f (Lf.row 2 [[Lf.v (Value.bool t.neg),Lf.lr t.digits t.digits.length]]),PV.agg ([dP Sh.dat D]++(Qac (tmC t)++[dP Sh.vl l]))]∧l.length≤100000000∧SameL [PV.any,PV.bp 0 1,PV.bp 0 3,PV.agg [bV t.neg,PV.f (Lf.lr t.digits t.digits.length)],PV.f (Lf.row 2 [[Lf.v (Value.bool t.neg),Lf.lr t.digits t.digits.length]]),PV.agg ([dP Sh.dat D]++(Qac (tmC t)++[dP Sh.vl l]))] [PV.any,PV.bp 0 1,PV.bp 0 3,PV.agg [bV t.neg,PV.f (Lf.lr t.digits t.digits.length)],PV.f (Lf.row 2 [[Lf.v (Value.bool t.neg),Lf.lr t.digits t.digits.length]]),PV.agg ([dP Sh.dat D]++(Qac (tmC t)++[dP Sh.vl l]))]∧((QaT (List.map vz l)).length+1≤9223372036854775807∧((QaT (List.map vz l)).length+1) * 32≤140737488355328)∧SameL [PV.any,PV.bp 0 1,PV.bp 0 3,PV.agg [bV t.neg,PV.f (Lf.lr t.digits t.digits.length)],PV.any,PV.agg ([dP Sh.dat D]++(Qac (tmC t)++[dP Sh.vl l]))] [PV.any,PV.bp 0 1,PV.bp 0 3,PV.agg [bV t.neg,PV.f (Lf.lr t.digits t.digits.length)],PV.any,PV.agg ([dP Sh.dat D]++(Qac (tmC t)++[dP Sh.vl l]))]∧QlY (QaT (List.map vz l)++[[Lf.v (Value.bool t.neg),Lf.lr t.digits t.digits.length]])∧∀ (z1:Int),z1=Qc1 (QaT (List.map vz l)++[[Lf.v (Value.bool t.neg),Lf.lr t.digits t.digits.length]])→SameL [PV.any,PV.bp 0 1,PV.bp 0 3,PV.agg [bV t.neg,PV.f (Lf.lr t.digits t.digits.length)],PV.any,PV.agg ([dP Sh.dat D]++(Qac (tmC t)++[dP Sh.vl l]))] [PV.any,PV.bp 0 1,PV.bp 0 3,PV.agg [bV t.neg,PV.f (Lf.lr t.digits t.digits.length)],PV.any,PV.agg ([dP Sh.dat D]++(Qac (tmC t)++[dP Sh.vl l]))]∧z1=z1∧SameL [PV.any,PV.bp 0 1,PV.bp 0 3,PV.agg [bV t.neg,PV.f (Lf.lr t.digits t.digits.length)],PV.any,PV.agg ([dP Sh.dat D]++(Qac (tmC t)++[dP Sh.vl l]))] [PV.any,PV.bp 0 1,PV.bp 0 3,PV.agg [bV t.neg,PV.f (Lf.lr t.digits t.digits.length)],PV.any,PV.agg ([dP Sh.dat D]++(Qac (tmC t)++[dP Sh.vl l]))]∧∀ (z2:Bool),z2=allV l (1:Int)→SameL [PV.any,PV.bp 0 1,PV.bp 0 3,PV.agg [bV t.neg,PV.f (Lf.lr t.digits t.digits.length)],PV.any,PV.any] [PV.any,PV.bp 0 1,PV.bp 0 3,PV.agg [bV t.neg,PV.f (Lf.lr t.digits t.digits.length)],PV.any,PV.any]∧SameL [PV.any,PV.bp 0 1,PV.bp 0 3,PV.agg [bV t.neg,PV.f (Lf.lr t.digits t.digits.length)],PV.any,PV.any] [PV.any,PV.bp 0 1,PV.bp 0 3,PV.agg [bV t.neg,PV.f (Lf.lr t.digits t.digits.length)],PV.any,PV.any]∧ifB z2 (SameL [PV.any,PV.bp 0 1,PV.bp 0 3,PV.agg [bV t.neg,PV.f (Lf.lr t.digits t.digits.length)],PV.any,PV.any] [PV.any,PV.bp 0 1,PV.bp 0 3,PV.agg [bV t.neg,PV.f (Lf.lr t.digits t.digits.length)],PV.any,PV.any]∧SameL [PV.any,PV.bp 0 1,PV.bp 0 3,PV.agg [bV t.neg,PV.f (Lf.lr t.digits t.digits.length)],PV.any,PV.any] [PV.any,PV.bp 0 1,PV.bp 0 3,PV.agg [bV t.neg,PV.f (Lf.lr t.digits t.digits.length)],PV.any,PV.any]∧SameL [PV.any,PV.bp 0 1,PV.bp 0 3,PV.agg [bV t.neg,PV.f (Lf.lr t.digits t.digits.length)],PV.any,PV.any] [PV.any,PV.bp 0 1,PV.bp 0 3,PV.agg [bV t.neg,PV.f (Lf.lr t.digits t.digits.length)],PV.any,PV.any]∧t.digits.length≤100000000∧SameL [PV.any,PV.bp 0 1,PV.bp 0 3,PV.agg [bV t.neg,PV.f (Lf.lr t.digits t.digits.length)],PV.any,PV.any] [PV.any,PV.bp 0 1,PV.bp 0 3,PV.agg [bV t.neg,PV.f (Lf.lr t.digits t.digits.length)],PV.any,PV.any]∧SameL [PV.any,PV.bp 0 1,PV.bp 0 3,PV.agg [bV t.neg,PV.f (Lf.lr t.digits t.digits.length)],PV.any,PV.any] [PV.any,PV.bp 0 1,PV.bp 0 3,PV.agg [bV t.neg,PV.f (Lf.lr t.digits t.digits.length)],PV.any,PV.any]∧SameL [PV.any,PV.any,PV.any,PV.any,PV.any,PV.any] [PV.any,PV.any,PV.any,PV.any,PV.any,PV.any]∧SameL [PV.any,PV.any,PV.any,PV.any,PV.any,PV.any] [PV.any,PV.any,PV.any,PV.any,PV.any,PV.any]∧true=true∧Sub (PV.tup [PV.agg [uV ((numV z1).kind),bV ((numV z1).neg),PV.f (Lf.lr (numV z1).digits (numV z1).digits.length),bV ((numV z1).truth),sV ((numV z1).name),dP Sh.vl []],bV (Qau t.neg t.digits)]) (PV.tup [PV.agg [uV ((numV (QaP l (1:Int) * zV t.neg t.digits)).kind),bV ((numV (QaP l (1:Int) * zV t.neg t.digits)).neg),PV.f (Lf.lr (numV (QaP l (1:Int) * zV t.neg t.digits)).digits (numV (QaP l (1:Int) * zV t.neg t.digits)).digits.length),bV ((numV (QaP l (1:Int) * zV t.neg t.digits)).truth),sV ((numV (QaP l (1:Int) * zV t.neg t.digits)).name),dP Sh.vl []],bV (allV l (1:Int) && Qau t.neg t.digits)])) (SameL [PV.any,PV.bp 0 1,PV.bp 0 3,PV.agg [bV t.neg,PV.f (Lf.lr t.digits t.digits.length)],PV.any,PV.any] [PV.any,PV.bp 0 1,PV.bp 0 3,PV.agg [bV t.neg,PV.f (Lf.lr t.digits t.digits.length)],PV.any,PV.any]∧SameL [PV.any,PV.bp 0 1,PV.bp 0 3,PV.agg [bV t.neg,PV.f (Lf.lr t.digits t.digits.length)],PV.any,PV.any] [PV.any,PV.bp 0 1,PV.bp 0 3,PV.agg [bV t.neg,PV.f (Lf.lr t.digits t.digits.length)],PV.any,PV.any]∧SameL [PV.any,PV.bp 0 1,PV.bp 0 3,PV.agg [bV t.neg,PV.f (Lf.lr t.digits t.digits.length)],PV.any,PV.any] [PV.any,PV.bp 0 1,PV.bp 0 3,PV.agg [bV t.neg,PV.f (Lf.lr t.digits t.digits.length)],PV.any,PV.any]∧SameL [PV.any,PV.bp 0 1,PV.bp 0 3,PV.agg [bV t.neg,PV.f (Lf.lr t.digits t.digits.length)],PV.any,PV.any] [PV.any,PV.bp 0 1,PV.bp 0 3,PV.agg [bV t.neg,PV.f (Lf.lr t.digits t.digits.length)],PV.any,PV.any]∧SameL [PV.any,PV.bp 0 1,PV.bp 0 3,PV.agg [bV t.neg,PV.f (Lf.lr t.digits t.digits.length)],PV.any,PV.any] [PV.any,PV.bp 0 1,PV.bp 0 3,PV.agg [bV t.neg,PV.f (Lf.lr t.digits t.digits.length)],PV.any,PV.any]∧SameL [PV.any,PV.any,PV.any,PV.any,PV.any,PV.any] [PV.any,PV.any,PV.any,PV.any,PV.any,PV.any]∧SameL [PV.any,PV.any,PV.any,PV.any,PV.any,PV.any] [PV.any,PV.any,PV.any,PV.any,PV.any,PV.any]∧true=true∧Sub (PV.tup [PV.agg [uV ((numV z1).kind),bV ((numV z1).neg),PV.f (Lf.lr (numV z1).digits (numV z1).digits.length),bV ((numV z1).truth),sV ((numV z1).name),dP Sh.vl []],bV false]) (PV.tup [PV.agg [uV ((numV (QaP l (1:Int) * zV t.neg t.digits)).kind),bV ((numV (QaP l (1:Int) * zV t.neg t.digits)).neg),PV.f (Lf.lr (numV (QaP l (1:Int) * zV t.neg t.digits)).digits (numV (QaP l (1:Int) * zV t.neg t.digits)).digits.length),bV ((numV (QaP l (1:Int) * zV t.neg t.digits)).truth),sV ((numV (QaP l (1:Int) * zV t.neg t.digits)).name),dP Sh.vl []],bV (allV l (1:Int) && Qau t.neg t.digits)]))) ?kr ?_
     case kr=>kernel_rfl
     refine ⟨⟨rfl⟩,⟨?s0,⟨⟨rfl⟩,⟨?s1,⟨⟨rfl⟩,⟨?s2,fun z1=>fun hz1=>⟨⟨rfl⟩,⟨rfl,⟨⟨rfl⟩,fun z2=>fun hz2=>⟨⟨rfl⟩,⟨⟨rfl⟩,Qaa.2 ⟨fun hb0=>⟨⟨rfl⟩,⟨⟨rfl⟩,⟨⟨rfl⟩,⟨?s3,⟨⟨rfl⟩,⟨⟨rfl⟩,⟨⟨rfl⟩,⟨⟨rfl⟩,⟨rfl,?m0⟩⟩⟩⟩⟩⟩⟩⟩⟩,fun hb0=>⟨⟨rfl⟩,⟨⟨rfl⟩,⟨⟨rfl⟩,⟨⟨rfl⟩,⟨⟨rfl⟩,⟨⟨rfl⟩,⟨⟨rfl⟩,⟨rfl,?m1⟩⟩⟩⟩⟩⟩⟩⟩⟩⟩⟩⟩⟩⟩⟩⟩⟩⟩⟩⟩
     case s0=>exact hf.2
     case s1 =>
      have e:(QaT (l.map vz)).length=l.length:=by simp [QaT]
      have:=hf.2
      omega
     case s2=>exact QjC hf.1
     case s3=>have:=hf.1; omega
     case m0 =>
      have e:(allV l 1 && Qau t.neg t.digits)=Qau t.neg t.digits:=by rw [← hz2,hb0]; rfl
      rw [hz1,QeZ,e]; exact .refl _
     case m1 =>
      have e:(allV l 1 && Qau t.neg t.digits)=false:=by rw [← hz2,hb0]; rfl
      rw [hz1,QeZ,e]; exact .refl _
   · cases hs
 · cases hs
noncomputable def sEqW:Spec
 | [x]=>match wkOf x with
  | some (D,t,l)=>some (some (2≤l.length∧QdR 40000000 l),.one (.tup [vlP (Qao (sameV (l.getD 0 Sh.vl.nil) (l.getD 1 Sh.vl.nil))),bV (allV l 1 || allV l 3)]))
  | none=>none
 | _=>none
theorem cEqW {E:Env} (hU:Up E):Contract Tryz.prog E 96 sEqW:=by
 refine Qad [(149,sSameV),(141,QdE),(143,QfO)] [] Tryz.ntmps96 Tryz.func96 (by kernel_rfl) (by kernel_rfl) hU ⟨cSameV hU,Qe2 hU,QiX hU,trivial⟩ trivial ?_
 intro xs p r hs hp
 unfold sEqW at hs
 split at hs
 · rename_i x
   split at hs
   · rename_i D t l hv
     cases hs
     have hf:=hp _ rfl
     refine ⟨[wkP D t l],[],.cons (QbD hv).sub .nil,rfl,fun _ hsh=>?_⟩
     have h0:=hv
     refine Qab (p:=((0:Int)≤(0:Int)∧(0:Int)<(↑l.length:Int))∧((0:Int)≤(1:Int)∧(1:Int)<(↑l.length:Int))∧(Vw.fitV 40000000 (etaV (l.getD (Int.toNat (0:Int)) Sh.vl.nil))∧Vw.fitV 40000000 (etaV (l.getD (Int.toNat (1:Int)) Sh.vl.nil)))∧∀ (z1:Bool),z1=sameV (etaV (l.getD (Int.toNat (0:Int)) Sh.vl.nil)) (etaV (l.getD (Int.toNat (1:Int)) Sh.vl.nil))→∀ (z2:Bool),z2=allV l (1:Int)→ifB z2 (true=true∧Sub (PV.tup [PV.agg (vl0 (Qao z1)),bV true]) (PV.tup [PV.agg (vl0 (Qao (sameV (l.getD 0 Sh.vl.nil) (l.getD 1 Sh.vl.nil)))),bV (allV l (1:Int) || allV l (3:Int))])) (∀ (z3:Bool),z3=allV l (3:Int)→true=true∧Sub (PV.tup [PV.agg (vl0 (Qao z1)),bV z3]) (PV.tup [PV.agg (vl0 (Qao (sameV (l.getD 0 Sh.vl.nil) (l.getD 1 Sh.vl.nil)))),bV (allV l (1:Int) || allV l (3:Int))]))) ?kr ?_
     case kr=>kernel_rfl
     refine ⟨?s0,⟨?s1,⟨?s2,fun z1=>fun hz1=>fun z2=>fun hz2=>Qaa.2 ⟨fun hb0=>⟨rfl,?m0⟩,fun hb0=>fun z3=>fun hz3=>⟨rfl,?m1⟩⟩⟩⟩⟩
     all_goals try simp only [etaV] at *
     all_goals try simp only [Vw.eta,Int.toNat_zero,Qim] at *
     all_goals have h1:1<l.length:=by have:=hf.1; omega
     case s0=>omega
     case s1=>omega
     case s2=>exact ⟨Qcy _ hf.2 (by omega),Qcy _ hf.2 (by omega)⟩
     case m0 =>
      have e:(allV l 1 || allV l 3)=true:=by rw [← hz2,hb0]; rfl
      rw [hz1,e]; exact .refl _
     case m1 =>
      have e:(allV l 1 || allV l 3)=z3:=by rw [← hz2,hb0,hz3]; rfl
      rw [hz1,e]; exact .refl _
   · cases hs
 · cases hs
def sLeW:Spec
 | [x]=>match wkOf x with
  | some (D,t,l)=>some (some (2≤l.length∧∀ v∈l,v.digits.length≤4000000),.one (.tup [vlP (Qao (decide (cmpI (zV (Vw.neg (l.getD 0 Sh.vl.nil)) (Vw.digits (l.getD 0 Sh.vl.nil))) (zV (Vw.neg (l.getD 1 Sh.vl.nil)) (Vw.digits (l.getD 1 Sh.vl.nil)))≤0))),bV (allV l 1)]))
  | none=>none
 | _=>none
theorem cLeW {E:Env} (hU:Up E):Contract Tryz.prog E 97 sLeW:=by
 refine Qad [(150,sCmp),(141,QdE),(143,QfO)] [] Tryz.ntmps97 Tryz.func97 (by kernel_rfl) (by kernel_rfl) hU ⟨cCmp hU,Qe2 hU,QiX hU,trivial⟩ trivial ?_
 intro xs p r hs hp
 unfold sLeW at hs
 split at hs
 · rename_i x
   split at hs
   · rename_i D t l hv
     cases hs
     have hf:=hp _ rfl
     refine ⟨[wkP D t l],[],.cons (QbD hv).sub .nil,rfl,fun _ hsh=>?_⟩
     have h0:=hv
     refine Qab (p:=((0:Int)≤(0:Int)∧(0:Int)<(↑l.length:Int))∧((0:Int)≤(1:Int)∧(1:Int)<(↑l.length:Int))∧(Vw.digits (l.getD (Int.toNat (0:Int)) Sh.vl.nil)).length+(Vw.digits (l.getD (Int.toNat (1:Int)) Sh.vl.nil)).length≤9000000∧∀ (z1:Bool),z1=allV l (1:Int)→true=true∧Sub (PV.tup [PV.agg (vl0 (Qao (decide (cmpI (zV (Vw.neg (l.getD (Int.toNat (0:Int)) Sh.vl.nil)) (Vw.digits (l.getD (Int.toNat (0:Int)) Sh.vl.nil))) (zV (Vw.neg (l.getD (Int.toNat (1:Int)) Sh.vl.nil)) (Vw.digits (l.getD (Int.toNat (1:Int)) Sh.vl.nil)))≤(0:Int))))),bV z1]) (PV.tup [PV.agg (vl0 (Qao (decide (cmpI (zV (l.getD 0 Sh.vl.nil).neg (l.getD 0 Sh.vl.nil).digits) (zV (l.getD 1 Sh.vl.nil).neg (l.getD 1 Sh.vl.nil).digits)≤(0:Int))))),bV (allV l (1:Int))])) ?kr ?_
     case kr=>kernel_rfl
     refine ⟨?s0,⟨?s1,⟨?s2,fun z1=>fun hz1=>⟨rfl,?m0⟩⟩⟩⟩
     all_goals try simp only [Vw.eta,Int.toNat_zero,Qim] at *
     all_goals have h1:1<l.length:=by have:=hf.1; omega
     case s0=>omega
     case s1=>omega
     case s2 =>
      have h2:=hf.2 _ (Qc9 (l:=l) (i:=0) (by omega))
      have h3:=hf.2 _ (Qc9 (l:=l) (i:=1) (by omega))
      omega
     case m0=>rw [hz1]; exact .refl _
   · cases hs
 · cases hs
def Qud:Spec
 | [x]=>match wkOf x with
  | some (D,t,l)=>some (some (1≤l.length),.one (.tup [vlP (Qao (!Vw.truth (l.getD 0 Sh.vl.nil))),bV (allV l 2)]))
  | none=>none
 | _=>none
theorem cNotW {E:Env} (hU:Up E):Contract Tryz.prog E 98 Qud:=by
 refine Qad [(141,QdE),(143,QfO)] [] Tryz.ntmps98 Tryz.func98 (by kernel_rfl) (by kernel_rfl) hU ⟨Qe2 hU,QiX hU,trivial⟩ trivial ?_
 intro xs p r hs hp
 unfold Qud at hs
 split at hs
 · rename_i x
   split at hs
   · rename_i D t l hv
     cases hs
     have hf:=hp _ rfl
     refine ⟨[wkP D t l],[],.cons (QbD hv).sub .nil,rfl,fun _ hsh=>?_⟩
     have h0:=hv
     refine Qab (p:=((0:Int)≤(0:Int)∧(0:Int)<(↑l.length:Int))∧∀ (z1:Bool),z1=allV l (2:Int)→true=true∧Sub (PV.tup [PV.agg (vl0 (Qao !Vw.truth (l.getD (Int.toNat (0:Int)) Sh.vl.nil))),bV z1]) (PV.tup [PV.agg (vl0 (Qao !(l.getD 0 Sh.vl.nil).truth)),bV (allV l (2:Int))])) ?kr ?_
     case kr=>kernel_rfl
     refine ⟨?s0,fun z1=>fun hz1=>⟨rfl,?m0⟩⟩
     all_goals try simp only [Vw.eta,Int.toNat_zero,Qim] at *
     case s0=>have:=hf; omega
     case m0=>rw [hz1]; exact .refl _
   · cases hs
 · cases hs
def Qui:Spec
 | [x]=>match wkOf x with
  | some (D,t,l)=>some (some (2≤l.length),.one (.tup [vlP (Qao (Vw.truth (l.getD 0 Sh.vl.nil)==Vw.truth (l.getD 1 Sh.vl.nil))),bV (allV l 2)]))
  | none=>none
 | _=>none
theorem cIffW {E:Env} (hU:Up E):Contract Tryz.prog E 99 Qui:=by
 refine Qad [(141,QdE),(143,QfO)] [] Tryz.ntmps99 Tryz.func99 (by kernel_rfl) (by kernel_rfl) hU ⟨Qe2 hU,QiX hU,trivial⟩ trivial ?_
 intro xs p r hs hp
 unfold Qui at hs
 split at hs
 · rename_i x
   split at hs
   · rename_i D t l hv
     cases hs
     have hf:=hp _ rfl
     refine ⟨[wkP D t l],[],.cons (QbD hv).sub .nil,rfl,fun _ hsh=>?_⟩
     have h0:=hv
     refine Qab (p:=((0:Int)≤(0:Int)∧(0:Int)<(↑l.length:Int))∧((0:Int)≤(1:Int)∧(1:Int)<(↑l.length:Int))∧∀ (z1:Bool),z1=allV l (2:Int)→true=true∧Sub (PV.tup [PV.agg (vl0 (Qao (Vw.truth (l.getD (Int.toNat (0:Int)) Sh.vl.nil)==Vw.truth (l.getD (Int.toNat (1:Int)) Sh.vl.nil)))),bV z1]) (PV.tup [PV.agg (vl0 (Qao ((l.getD 0 Sh.vl.nil).truth==(l.getD 1 Sh.vl.nil).truth))),bV (allV l (2:Int))])) ?kr ?_
     case kr=>kernel_rfl
     refine ⟨?s0,⟨?s1,fun z1=>fun hz1=>⟨rfl,?m0⟩⟩⟩
     all_goals try simp only [Vw.eta,Int.toNat_zero,Qim] at *
     all_goals have h1:1<l.length:=by have:=hf; omega
     case s0=>omega
     case s1=>omega
     case m0=>rw [hz1]; exact .refl _
   · cases hs
 · cases hs
def Qun:Spec
 | [x]=>match wkOf x with
  | some (D,t,l)=>some (none,.one (.tup [vlP (Qao (Qbt l true)),bV (allV l 2)]))
  | none=>none
 | _=>none
theorem cAndW {E:Env} (hU:Up E):Contract Tryz.prog E 100 Qun:=by
 refine Qad [(151,Qmg),(141,QdE),(143,QfO)] [] Tryz.ntmps100 Tryz.func100 (by kernel_rfl) (by kernel_rfl) hU ⟨Qtr hU,Qe2 hU,QiX hU,trivial⟩ trivial ?_
 intro xs p r hs hp
 unfold Qun at hs
 split at hs
 · rename_i x
   split at hs
   · rename_i D t l hv
     cases hs
     refine ⟨[wkP D t l],[],.cons (QbD hv).sub .nil,rfl,fun _ hsh=>?_⟩
     have h0:=hv
     refine Qab (p:=∀ (z1:Bool),z1=Qbt l true→∀ (z2:Bool),z2=allV l (2:Int)→true=true∧Sub (PV.tup [PV.agg (vl0 (Qao z1)),bV z2]) (PV.tup [PV.agg (vl0 (Qao (Qbt l true))),bV (allV l (2:Int))])) ?kr ?_
     case kr=>kernel_rfl
     refine fun z1=>fun hz1=>fun z2=>fun hz2=>⟨rfl,?m0⟩
     case m0=>rw [hz1,hz2]; exact .refl _
   · cases hs
 · cases hs
def sOrW:Spec
 | [x]=>match wkOf x with
  | some (D,t,l)=>some (none,.one (.tup [vlP (Qao (!Qbt l false)),bV (allV l 2)]))
  | none=>none
 | _=>none
theorem cOrW {E:Env} (hU:Up E):Contract Tryz.prog E 101 sOrW:=by
 refine Qad [(151,Qmg),(141,QdE),(143,QfO)] [] Tryz.ntmps101 Tryz.func101 (by kernel_rfl) (by kernel_rfl) hU ⟨Qtr hU,Qe2 hU,QiX hU,trivial⟩ trivial ?_
 intro xs p r hs hp
 unfold sOrW at hs
 split at hs
 · rename_i x
   split at hs
   · rename_i D t l hv
     cases hs
     refine ⟨[wkP D t l],[],.cons (QbD hv).sub .nil,rfl,fun _ hsh=>?_⟩
     have h0:=hv
     refine Qab (p:=∀ (z1:Bool),z1=Qbt l false→∀ (z2:Bool),z2=allV l (2:Int)→true=true∧Sub (PV.tup [PV.agg (vl0 (Qao !z1)),bV z2]) (PV.tup [PV.agg (vl0 (Qao !Qbt l false)),bV (allV l (2:Int))])) ?kr ?_
     case kr=>kernel_rfl
     refine fun z1=>fun hz1=>fun z2=>fun hz2=>⟨rfl,?m0⟩
     case m0=>rw [hz1,hz2]; exact .refl _
   · cases hs
 · cases hs
end Go.Proofs.YtemhncjjiomppaaGreatDoor
namespace Go.Proofs.YtemhncjjiomppaaGreatDoor
open Go.RowKit
set_option linter.unusedVariables false
set_option maxRecDepth 100000
def Qaq (s:ByteArray) (c:Int):Nat→Int
 | 0=>-1
 | k+1=>if ((s.data.toList.getD k 0).toNat:Int)=c then k else Qaq s c k
theorem Qhn {s:ByteArray} {c:Int} {k:Nat} (hk:0<k) (h:((s.data.toList.getD (k - 1) 0).toNat:Int)=c):Qaq s c k=(k:Int) - 1:=by
 obtain ⟨j,rfl⟩:∃ j,k=j+1:=⟨k - 1,by omega⟩
 rw [Nat.add_sub_cancel] at h
 rw [Qaq,if_pos h]
 omega
theorem Qf6 {s:ByteArray} {c:Int} {k:Nat} (hk:0<k) (h:¬ ((s.data.toList.getD (k - 1) 0).toNat:Int)=c):Qaq s c k=Qaq s c (k - 1):=by
 obtain ⟨j,rfl⟩:∃ j,k=j+1:=⟨k - 1,by omega⟩
 rw [Nat.add_sub_cancel] at h
 rw [Qaq,if_neg h]
 rfl
def Qpz:Spec
 | [.f (.v (.string s)),.f (.v (.int .u8 c))]=>some (some (s.size≤4611686018427387904),.nm Int (Qaq s c s.size) iV)
 | _=>none
theorem cLastS {E:Env} (hU:Up E):Contract Tryz.prog E 207 Qpz:=by
 refine Qad [] [] Tryz.ntmps207 Tryz.func207 (by kernel_rfl) (by kernel_rfl) hU trivial trivial ?_
 intro xs p r hs hp
 unfold Qpz at hs
 split at hs
 · rename_i s c
   cases hs
   have hf:=hp _ rfl
   refine ⟨[.f (.v (.string s)),.f (.v (.int .u8 c))],[(2,.s ⟨Nat,fun k=>⟨[(0,.f (.v (.string s))),(1,.f (.v (.int .u8 c))),(5,iV ((k:Int) - 1))],[]⟩,fun k=>k≤s.size∧Qaq s c k=Qaq s c s.size,fun k=>k⟩)],.cons (.refl _) (.cons (.refl _) .nil),rfl,fun _ hsh=>?_⟩
   have h0:=hf
   refine Qab (p:=∃ (x1:Nat),(True∧rfB (sV s)∧rfB (uV c)∧SubB (iV (IntKind.i64.wrap ((↑s.size:Int) - (1:Int)))) (iV ((↑x1:Int) - (1:Int)))∧True)∧(x1≤s.size∧Qaq s c x1=Qaq s c s.size)∧True∧∀ (z2:Nat),z2≤s.size∧Qaq s c z2=Qaq s c s.size→True→ifB (decide ((↑z2:Int) - (1:Int) ≥ (0:Int))) (((0:Int)≤(↑z2:Int) - (1:Int)∧(↑z2:Int) - (1:Int)<(↑s.size:Int))∧ifB ((↑(s.data.toList.getD ((↑z2:Int) - (1:Int)).toNat (0:UInt8)).toNat:Int)==c) (true=true∧Sub (iV ((↑z2:Int) - (1:Int))) (iV (Qaq s c s.size))) (∃ (x3:Nat),(True∧rfB (sV s)∧rfB (uV c)∧SubB (iV (IntKind.i64.wrap ((↑z2:Int) - (1:Int) - (1:Int)))) (iV ((↑x3:Int) - (1:Int)))∧True)∧(x3≤s.size∧Qaq s c x3=Qaq s c s.size)∧True∧x3.succ.le z2)) (true=true∧Sub (iV (-1:Int)) (iV (Qaq s c s.size)))) ?kr ?_
   case kr=>kernel_rfl
   refine ⟨?x0,⟨⟨trivial,⟨.refl _,⟨.refl _,⟨?m0,trivial⟩⟩⟩⟩,⟨?s0,⟨trivial,fun z2=>fun hq0=>fun _=>Qaa.2 ⟨fun hb1=>⟨?s1,Qaa.2 ⟨fun hb2=>⟨rfl,?m1⟩,fun hb2=>⟨?x1,⟨⟨trivial,⟨.refl _,⟨.refl _,⟨?m2,trivial⟩⟩⟩⟩,⟨?s2,⟨trivial,?m3⟩⟩⟩⟩⟩⟩,fun hb1=>⟨rfl,?m4⟩⟩⟩⟩⟩⟩
   case x0=>exact s.size
   case x1=>exact z2 - 1
   all_goals try simp only [decide_eq_true_eq,decide_eq_false_iff_not,beq_iff_eq,beq_eq_false_iff_ne,ne_eq] at *
   case m0=>exact Qai (by rw [wJ _ (by omega) (by omega)])
   case s0=>exact ⟨Nat.le_refl _,trivial⟩
   case m4 =>
    obtain rfl:z2=0:=by omega
    rw [← hq0.2]; exact .refl _
   all_goals have hk:0<z2:=by omega
   all_goals have e:((z2:Int) - 1).toNat=z2 - 1:=by omega
   all_goals try rw [e] at hb2
   case s1=>omega
   case m1=>rw [← hq0.2,Qhn hk hb2]; exact .refl _
   case m2=>exact Qai (by rw [wJ _ (by omega) (by omega)]; omega)
   case s2=>exact ⟨by omega,by rw [← hq0.2,Qf6 hk hb2]⟩
   case m3=>exact (by omega:z2 - 1<z2)
 · cases hs
def QpA:Spec
 | [.f (.v (.string s)),.f (.v (.int .u8 c))]=>some (some (s.size≤4611686018427387904),.nm Int (Qaq s c s.size) iV)
 | _=>none
theorem cLastB {E:Env} (hU:Up E):Contract Tryz.prog E 180 QpA:=by
 refine Qad [(207,Qpz)] [] Tryz.ntmps180 Tryz.func180 (by kernel_rfl) (by kernel_rfl) hU ⟨cLastS hU,trivial⟩ trivial ?_
 intro xs p r hs hp
 unfold QpA at hs
 split at hs
 · rename_i s c
   cases hs
   have hf:=hp _ rfl
   refine ⟨[.f (.v (.string s)),.f (.v (.int .u8 c))],[],.cons (.refl _) (.cons (.refl _) .nil),rfl,fun _ hsh=>?_⟩
   have h0:=hf
   refine Qab (p:=s.size≤4611686018427387904∧∀ (z1:Int),z1=Qaq s c s.size→true=true∧Sub (iV z1) (iV (Qaq s c s.size))) ?kr ?_
   case kr=>kernel_rfl
   refine ⟨?s0,fun z1=>fun hz1=>⟨rfl,?m0⟩⟩
   case s0=>exact hf
   case m0=>rw [hz1]; exact .refl _
 · cases hs
theorem Qhm (s:ByteArray) (c:Int):∀ k:Nat,-1≤Qaq s c k∧Qaq s c k<k
 | 0=>⟨by simp [Qaq],by simp [Qaq]⟩
 | k+1=>by
  have h:=Qhm s c k
  unfold Qaq
  split <;> omega
def atS (s:ByteArray) (i:Int):Int:=((s.data.toList.getD i.toNat 0).toNat:Int)
def cutS (s:ByteArray) (i:Int):ByteArray:=s.extract 0 i.toNat
def Qah (D:List Dat) (s:ByteArray):(Nat × Nat) × Int × Bool :=
 if Qaq s 46 s.size<0∨Qaq s 46 s.size+2≠s.size∨atS s (Qaq s 46 s.size+1)<48∨57<atS s (Qaq s 46 s.size+1) then ((0,0),0,false)
 else ((conM D (cutS s (Qaq s 46 s.size)) 0).getD (0,0),atS s (Qaq s 46 s.size+1) - 48,(conM D (cutS s (Qaq s 46 s.size)) 0).isSome && decide (atS s (Qaq s 46 s.size+1) - 48<(Qaz D ((conM D (cutS s (Qaq s 46 s.size)) 0).getD (0,0))).length))
theorem Qdc {D:List Dat} {s:ByteArray} (h:Qaq s 46 s.size<0∨Qaq s 46 s.size+2≠s.size∨atS s (Qaq s 46 s.size+1)<48∨57<atS s (Qaq s 46 s.size+1)):Qah D s=((0,0),0,false):=if_pos h
theorem Qj6 {D:List Dat} {s:ByteArray} (h1:¬ Qaq s 46 s.size<0) (h2:Qaq s 46 s.size+2=s.size) (h3:¬ atS s (Qaq s 46 s.size+1)<48) (h4:¬ 57<atS s (Qaq s 46 s.size+1)) :
  Qah D s=((conM D (cutS s (Qaq s 46 s.size)) 0).getD (0,0),atS s (Qaq s 46 s.size+1) - 48,(conM D (cutS s (Qaq s 46 s.size)) 0).isSome && decide (atS s (Qaq s 46 s.size+1) - 48<(Qaz D ((conM D (cutS s (Qaq s 46 s.size)) 0).getD (0,0))).length)) :=
 if_neg (by
  rintro (h | h | h | h)
  · exact h1 h
  · exact h h2
  · exact h3 h
  · exact h4 h)
def QpC:Spec
 | [.f (.dt .dat D),.f (.v (.string s))]=>some (some (s.size≤4611686018427387904),.nm ((Nat × Nat) × Int × Bool) (Qah D s) fun r=>.tup [plP r.1,iV r.2.1,bV r.2.2])
 | _=>none
theorem cField {E:Env} (hU:Up E):Contract Tryz.prog E 146 QpC:=by
 refine Qad [(180,QpA),(128,QpK),(130,QpB)] [] Tryz.ntmps146 Tryz.func146 (by kernel_rfl) (by kernel_rfl) hU ⟨cLastB hU,QvK hU,QvD hU,trivial⟩ trivial ?_
 intro xs p r hs hp
 unfold QpC at hs
 split at hs
 · rename_i D s
   cases hs
   have hf:=hp _ rfl
   refine ⟨[.f (.dt .dat D),.f (.v (.string s))],[],.cons (.refl _) (.cons (.refl _) .nil),rfl,fun _ hsh=>?_⟩
   have h0:=hf
   refine Qab (p:=s.size≤4611686018427387904∧∀ (z1:Int),z1=Qaq s (46:Int) s.size→ifB (decide (z1<(0:Int))) (true=true∧Sub (PV.tup [PV.agg [iV 0,iV 0],iV 0,bV false]) (PV.tup [PV.agg [iV (↑(Qah D s).fst.fst:Int),iV (↑(Qah D s).fst.snd:Int)],iV ((Qah D s).snd.fst),bV ((Qah D s).snd.snd)])) (ifB (IntKind.i64.wrap (z1+(2:Int)) != (↑s.size:Int)) (true=true∧Sub (PV.tup [PV.agg [iV 0,iV 0],iV 0,bV false]) (PV.tup [PV.agg [iV (↑(Qah D s).fst.fst:Int),iV (↑(Qah D s).fst.snd:Int)],iV ((Qah D s).snd.fst),bV ((Qah D s).snd.snd)])) (((0:Int)≤IntKind.i64.wrap (z1+(1:Int))∧IntKind.i64.wrap (z1+(1:Int))<(↑s.size:Int))∧ifB (decide ((↑(s.data.toList.getD (IntKind.i64.wrap (z1+(1:Int))).toNat (0:UInt8)).toNat:Int)<(48:Int))) (true=true∧Sub (PV.tup [PV.agg [iV 0,iV 0],iV 0,bV false]) (PV.tup [PV.agg [iV (↑(Qah D s).fst.fst:Int),iV (↑(Qah D s).fst.snd:Int)],iV ((Qah D s).snd.fst),bV ((Qah D s).snd.snd)])) (((0:Int)≤IntKind.i64.wrap (z1+(1:Int))∧IntKind.i64.wrap (z1+(1:Int))<(↑s.size:Int))∧ifB (decide ((↑(s.data.toList.getD (IntKind.i64.wrap (z1+(1:Int))).toNat (0:UInt8)).toNat:Int) > (57:Int))) (true=true∧Sub (PV.tup [PV.agg [iV 0,iV 0],iV 0,bV false]) (PV.tup [PV.agg [iV (↑(Qah D s).fst.fst:Int),iV (↑(Qah D s).fst.snd:Int)],iV ((Qah D s).snd.fst),bV ((Qah D s).snd.snd)])) (((0:Int)≤(0:Int)∧(0:Int)≤z1∧z1≤(↑s.size:Int))∧∀ (z2:Option (Nat × Nat)),z2=conM D (s.extract (Int.toNat (0:Int)) z1.toNat) 0→((0:Int)≤IntKind.i64.wrap (z1+(1:Int))∧IntKind.i64.wrap (z1+(1:Int))<(↑s.size:Int))∧ifB z2.isSome (((0:Int)≤(↑(z2.getD (0,0)).fst:Int)∧(0:Int)≤(↑(z2.getD (0,0)).snd:Int)∧(↑(z2.getD (0,0)).fst:Int)<(↑D.length:Int)∧(↑(z2.getD (0,0)).snd:Int)<(↑(D.getD (↑(z2.getD (0,0)).fst:Int).toNat Sh.dat.nil).cons.length:Int))∧true=true∧Sub (PV.tup [PV.agg [iV (↑(z2.getD (0,0)).fst:Int),iV (↑(z2.getD (0,0)).snd:Int)],iV (IntKind.i64.wrap (IntKind.u8.wrap ((↑(s.data.toList.getD (IntKind.i64.wrap (z1+(1:Int))).toNat (0:UInt8)).toNat:Int) - (48:Int)))),bV (decide (IntKind.i64.wrap (IntKind.u8.wrap ((↑(s.data.toList.getD (IntKind.i64.wrap (z1+(1:Int))).toNat (0:UInt8)).toNat:Int) - (48:Int)))<(↑(Qaz D ((↑(z2.getD (0,0)).fst:Int).toNat,(↑(z2.getD (0,0)).snd:Int).toNat)).length:Int)))]) (PV.tup [PV.agg [iV (↑(Qah D s).fst.fst:Int),iV (↑(Qah D s).fst.snd:Int)],iV ((Qah D s).snd.fst),bV ((Qah D s).snd.snd)])) (true=true∧Sub (PV.tup [PV.agg [iV (↑(z2.getD (0,0)).fst:Int),iV (↑(z2.getD (0,0)).snd:Int)],iV (IntKind.i64.wrap (IntKind.u8.wrap ((↑(s.data.toList.getD (IntKind.i64.wrap (z1+(1:Int))).toNat (0:UInt8)).toNat:Int) - (48:Int)))),bV false]) (PV.tup [PV.agg [iV (↑(Qah D s).fst.fst:Int),iV (↑(Qah D s).fst.snd:Int)],iV ((Qah D s).snd.fst),bV ((Qah D s).snd.snd)]))))))) ?kr ?_
   case kr=>kernel_rfl
   refine ⟨?s0,fun z1=>fun hz1=>Qaa.2 ⟨fun hb0=>⟨rfl,?m0⟩,fun hb0=>Qaa.2 ⟨fun hb1=>⟨rfl,?m1⟩,fun hb1=>⟨?s1,Qaa.2 ⟨fun hb2=>⟨rfl,?m2⟩,fun hb2=>⟨?s2,Qaa.2 ⟨fun hb3=>⟨rfl,?m3⟩,fun hb3=>⟨?s3,fun z2=>fun hz2=>⟨?s4,Qaa.2 ⟨fun hb4=>⟨?s5,⟨rfl,?m4⟩⟩,fun hb4=>⟨rfl,?m5⟩⟩⟩⟩⟩⟩⟩⟩⟩⟩⟩
   case s0=>exact hf
   all_goals have hr:=Qhm s 46 s.size
   all_goals rw [← hz1] at hr
   all_goals try rw [wJ (z1+2) (by omega) (by omega)] at *
   all_goals try rw [wJ (z1+1) (by omega) (by omega)] at *
   all_goals try simp only [decide_eq_true_eq,decide_eq_false_iff_not,bne_iff_ne,bne_eq_false_iff_eq,ne_eq,gt_iff_lt] at *
   case m0=>rw [Qdc (.inl (by rw [← hz1]; exact hb0))]; exact .refl _
   case m1=>rw [Qdc (.inr (.inl (by rw [← hz1]; exact hb1)))]; exact .refl _
   case s1=>omega
   case m2=>rw [Qdc (.inr (.inr (.inl (by rw [← hz1]; exact hb2))))]; exact .refl _
   case s2=>omega
   case m3=>rw [Qdc (.inr (.inr (.inr (by rw [← hz1]; exact hb3))))]; exact .refl _
   case s3=>omega
   case s4=>omega
   all_goals have hc:cutS s (Qaq s 46 s.size)=s.extract (Int.toNat 0) z1.toNat:=by rw [← hz1]; rfl
   all_goals rw [← hc] at hz2
   all_goals have hA:atS s (z1+1)=((s.data.toList.getD (z1+1).toNat (0:UInt8)).toNat:Int):=rfl
   all_goals rw [← hA] at hb2 hb3
   all_goals have hi:=Qj6 (D:=D) (s:=s) (by rw [← hz1]; exact hb0) (by rw [← hz1]; exact hb1) (by rw [← hz1]; exact hb2) (by rw [← hz1]; exact hb3)
   all_goals rw [← hz2,← hz1] at hi
   case s5 =>
    cases z2 with
    | none=>cases hb4
    | some p =>
     obtain ⟨-,h1,h2⟩:=QdT hz2.symm
     simp only [Nat.sub_zero] at h1 h2
     simp only [Option.getD_some,Int.toNat_natCast]
     exact ⟨by omega,by omega,by omega,by omega⟩
   all_goals rw [← hA,w8 _ (by omega) (by omega),wJ _ (by omega) (by omega)]
   all_goals rw [hi,hb4]
   case m4=>exact .refl _
   case m5=>exact .refl _
 · cases hs
end Go.Proofs.YtemhncjjiomppaaGreatDoor
namespace Go.Proofs.YtemhncjjiomppaaGreatDoor
open Go.RowKit
set_option linter.unusedVariables false
set_option maxRecDepth 100000
def appV (D:List Dat) (t:Tw) (l:List Vw):Vw × Bool :=
 if allV l 3=false then (l.getD 0 Sh.vl.nil,false)
 else if t.name=bTag∧Vw.name (l.getD 0 Sh.vl.nil)=⟨#[]⟩ then (numV (-1),true)
 else if t.name=bTag then (numV (((conM D (Vw.name (l.getD 0 Sh.vl.nil)) 0).getD (0,0)).2:Nat),(conM D (Vw.name (l.getD 0 Sh.vl.nil)) 0).isSome)
 else if (Qah D t.name).2.2=false then (l.getD 0 Sh.vl.nil,false)
 else if Vw.name (l.getD 0 Sh.vl.nil)≠⟨#[]⟩∧Dat.name (D.getD ((conM D (Vw.name (l.getD 0 Sh.vl.nil)) 0).getD (0,0)).1 Sh.dat.nil)≠Dat.name (D.getD (Qah D t.name).1.1 Sh.dat.nil) then (l.getD 0 Sh.vl.nil,false)
 else if Vw.name (l.getD 0 Sh.vl.nil)≠⟨#[]⟩∧(conM D (Vw.name (l.getD 0 Sh.vl.nil)) 0).getD (0,0)=(Qah D t.name).1 then ((Vw.fields (l.getD 0 Sh.vl.nil)).getD (Qah D t.name).2.1.toNat Sh.vl.nil,true)
 else (if (QaO ((Qaz D (Qah D t.name).1).getD (Qah D t.name).2.1.toNat Sh.str.nil)).kind=0 then nilV else QaO ((Qaz D (Qah D t.name).1).getD (Qah D t.name).2.1.toNat Sh.str.nil),true)
theorem QbN {l:List Vw} {k:Int}:allV l k=true↔∀ v∈l,v.kind=k:=by
 unfold allV hasK anyK anyB
 cases h:l.findIdx? fun v=>decide (v.kind≠k) with
 | none =>
  rw [List.findIdx?_eq_none_iff] at h
  refine ⟨fun _ v hv=>?_,fun _=>rfl⟩
  have:=h v hv
  simpa using this
 | some i =>
  rw [List.findIdx?_eq_some_iff_getElem] at h
  obtain ⟨hi,h1,-⟩:=h
  have e:(decide ((0:Int)≤(i:Int)))=true:=decide_eq_true (by omega)
  refine ⟨fun hc=>?_,fun hc=>?_⟩
  · exfalso
    have hc:(!decide ((0:Int)≤(i:Int)))=true:=hc
    rw [e] at hc; cases hc
  · have:=hc _ (List.getElem_mem hi)
    rw [this] at h1
    simp at h1
theorem Qkc {l:List Vw} {k:Bool}:Qbt l k=true↔∀ v∈l,v.truth=k:=by
 unfold Qbt hasT anyT anyB
 cases h:l.findIdx? fun v=>decide (v.truth≠k) with
 | none =>
  rw [List.findIdx?_eq_none_iff] at h
  refine ⟨fun _ v hv=>?_,fun _=>rfl⟩
  have:=h v hv
  simpa using this
 | some i =>
  rw [List.findIdx?_eq_some_iff_getElem] at h
  obtain ⟨hi,h1,-⟩:=h
  have e:(decide ((0:Int)≤(i:Int)))=true:=decide_eq_true (by omega)
  refine ⟨fun hc=>?_,fun hc=>?_⟩
  · exfalso
    have hc:(!decide ((0:Int)≤(i:Int)))=true:=hc
    rw [e] at hc; cases hc
  · have:=hc _ (List.getElem_mem hi)
    rw [this] at h1
    simp at h1
theorem Qgj {D:List Dat} {s:ByteArray} (h:(Qah D s).2.2=true):(Qah D s).1.1<D.length∧(Qah D s).1.2<((D.getD (Qah D s).1.1 Sh.dat.nil).cons).length∧0≤(Qah D s).2.1∧(Qah D s).2.1<(Qaz D (Qah D s).1).length:=by
 by_cases hc:Qaq s 46 s.size<0∨Qaq s 46 s.size+2≠s.size∨atS s (Qaq s 46 s.size+1)<48∨57<atS s (Qaq s 46 s.size+1)
 · rw [Qdc hc] at h; cases h
 · have hc':¬ atS s (Qaq s 46 s.size+1)<48:=fun h=>hc (.inr (.inr (.inl h)))
   unfold Qah at h ⊢
   rw [if_neg hc] at h ⊢
   dsimp only at h ⊢
   rw [Bool.and_eq_true,decide_eq_true_eq] at h
   obtain ⟨h1,h2⟩:=h
   cases hq:conM D (cutS s (Qaq s 46 s.size)) 0 with
   | none=>rw [hq] at h1; cases h1
   | some q =>
    rw [hq] at h2
    obtain ⟨-,h3,h4⟩:=QdT hq
    simp only [Nat.sub_zero] at h3 h4
    exact ⟨h3,h4,by omega,h2⟩
def okV (D:List Dat) (v:Vw):Prop:=v.kind=3→v.name≠⟨#[]⟩→∃ p,conM D v.name 0=some p∧v.fields.length=(Qaz D p).length
theorem Qrm {D:List Dat} {t:Tw} {l:List Vw} (h:allV l 3=false):appV D t l=(l.getD 0 Sh.vl.nil,false):=if_pos h
theorem QkG {D:List Dat} {t:Tw} {l:List Vw} (h:allV l 3=true) (h1:t.name=bTag) (h2:Vw.name (l.getD 0 Sh.vl.nil)=⟨#[]⟩):appV D t l=(numV (-1),true):=by
 unfold appV; rw [if_neg (by rw [h]; decide),if_pos ⟨h1,h2⟩]
theorem QnC {D:List Dat} {t:Tw} {l:List Vw} (h:allV l 3=true) (h1:t.name=bTag) (h2:¬ Vw.name (l.getD 0 Sh.vl.nil)=⟨#[]⟩):appV D t l=(numV (((conM D (Vw.name (l.getD 0 Sh.vl.nil)) 0).getD (0,0)).2:Nat),(conM D (Vw.name (l.getD 0 Sh.vl.nil)) 0).isSome):=by
 unfold appV; rw [if_neg (by rw [h]; decide),if_neg (fun c=>h2 c.2),if_pos h1]
theorem QsR {D:List Dat} {t:Tw} {l:List Vw} (h:allV l 3=true) (h1:¬ t.name=bTag) (h3:(Qah D t.name).2.2=false):appV D t l=(l.getD 0 Sh.vl.nil,false):=by
 unfold appV; rw [if_neg (by rw [h]; decide),if_neg (fun c=>h1 c.1),if_neg h1,if_pos h3]
theorem QsT {D:List Dat} {t:Tw} {l:List Vw} (h:allV l 3=true) (h1:¬ t.name=bTag) (h3:(Qah D t.name).2.2=true) (h2:¬ Vw.name (l.getD 0 Sh.vl.nil)=⟨#[]⟩)
  (h4:¬ Dat.name (D.getD ((conM D (Vw.name (l.getD 0 Sh.vl.nil)) 0).getD (0,0)).1 Sh.dat.nil)=Dat.name (D.getD (Qah D t.name).1.1 Sh.dat.nil)):appV D t l=(l.getD 0 Sh.vl.nil,false):=by
 unfold appV; rw [if_neg (by rw [h]; decide),if_neg (fun c=>h1 c.1),if_neg h1,if_neg (by rw [h3]; decide),if_pos ⟨h2,h4⟩]
theorem QnD {D:List Dat} {t:Tw} {l:List Vw} (h:allV l 3=true) (h1:¬ t.name=bTag) (h3:(Qah D t.name).2.2=true) (h2:¬ Vw.name (l.getD 0 Sh.vl.nil)=⟨#[]⟩)
  (h4:Dat.name (D.getD ((conM D (Vw.name (l.getD 0 Sh.vl.nil)) 0).getD (0,0)).1 Sh.dat.nil)=Dat.name (D.getD (Qah D t.name).1.1 Sh.dat.nil)) (h5:(conM D (Vw.name (l.getD 0 Sh.vl.nil)) 0).getD (0,0)=(Qah D t.name).1) :
  appV D t l=((Vw.fields (l.getD 0 Sh.vl.nil)).getD (Qah D t.name).2.1.toNat Sh.vl.nil,true):=by
 unfold appV; rw [if_neg (by rw [h]; decide),if_neg (fun c=>h1 c.1),if_neg h1,if_neg (by rw [h3]; decide),if_neg (fun c=>c.2 h4),if_pos ⟨h2,h5⟩]
theorem Qcn {D:List Dat} {t:Tw} {l:List Vw} (h:allV l 3=true) (h1:¬ t.name=bTag) (h3:(Qah D t.name).2.2=true)
  (h6:Vw.name (l.getD 0 Sh.vl.nil)=⟨#[]⟩∨(Dat.name (D.getD ((conM D (Vw.name (l.getD 0 Sh.vl.nil)) 0).getD (0,0)).1 Sh.dat.nil)=Dat.name (D.getD (Qah D t.name).1.1 Sh.dat.nil)∧¬ (conM D (Vw.name (l.getD 0 Sh.vl.nil)) 0).getD (0,0)=(Qah D t.name).1)) :
  appV D t l=(if (QaO ((Qaz D (Qah D t.name).1).getD (Qah D t.name).2.1.toNat Sh.str.nil)).kind=0 then nilV else QaO ((Qaz D (Qah D t.name).1).getD (Qah D t.name).2.1.toNat Sh.str.nil),true):=by
 unfold appV
 rw [if_neg (by rw [h]; decide),if_neg (fun c=>h1 c.1),if_neg h1,if_neg (by rw [h3]; decide),if_neg (fun c=>h6.elim (fun e=>c.1 e) fun e=>c.2 e.1),if_neg (fun c=>h6.elim (fun e=>c.1 e) fun e=>e.2 c.2)]
theorem Qp1 {p q:Nat × Nat} (h:p.1=q.1∧p.2=q.2):p=q:=Prod.ext h.1 h.2
theorem Qp0 {p q:Nat × Nat} (h:¬ p.1=q.1∨¬ p.2=q.2):¬ p=q:=fun e=>h.elim (fun c=>c (by rw [e])) fun c=>c (by rw [e])
def fitD (D:List Dat):Prop:=∀ d∈D,d.cons.length≤100000000
theorem Qhu {D:List Dat} (hD:fitD D) (s:ByteArray):((conM D s 0).getD (0,0)).2≤100000000:=by
 cases h:conM D s 0 with
 | none=>exact Nat.zero_le _
 | some p =>
  obtain ⟨-,h1,h2⟩:=QdT h
  simp only [Nat.sub_zero] at h1 h2
  have:=hD (D.getD p.1 Sh.dat.nil) (by rw [List.getD_eq_getElem?_getD,List.getElem?_eq_getElem h1]; exact List.getElem_mem h1)
  show p.2≤100000000
  omega
def Qum:Spec
 | [x]=>match wkOf x with
  | some (D,t,l)=>some (some (1≤l.length∧t.name.size≤4611686018427387904∧okV D (l.getD 0 Sh.vl.nil)∧fitD D),.nm (Vw × Bool) (appV D t l) fun r=>.tup [vlP r.1,bV r.2])
  | none=>none
 | _=>none
theorem cAppW {E:Env} (hU:Up E):Contract Tryz.prog E 95 Qum:=by
 refine Qad [(128,QpK),(143,QfO),(145,sOf),(139,QeF),(146,QpC),(130,QpB),(147,Qt6),(148,Qh6)] [] Tryz.ntmps95 Tryz.func95 (by kernel_rfl) (by kernel_rfl) hU ⟨QvK hU,QiX hU,cOf hU,QiW hU,cField hU,QvD hU,cZero hU,QsI hU,trivial⟩ trivial ?_
 intro xs p r hs hp
 unfold Qum at hs
 split at hs
 · rename_i x
   split at hs
   · rename_i D t l hv
     cases hs
     have hf:=hp _ rfl
     refine ⟨[wkP D t l],[],.cons (QbD hv).sub .nil,rfl,fun _ hsh=>?_⟩
     have h0:=hv
     refine Qab (p:=((0:Int)≤(0:Int)∧(0:Int)<(↑l.length:Int))∧∀ (z1:Option (Nat × Nat)),z1=conM D (Vw.name (l.getD (Int.toNat (0:Int)) Sh.vl.nil)) 0→∀ (z2:Bool),z2=allV l (3:Int)→ifB (!z2) (true=true∧Sub (PV.tup [PV.agg (Qac (vlC (l.getD (Int.toNat (0:Int)) Sh.vl.nil))),bV false]) (PV.tup [PV.agg (Qac (vlC ((appV D t l).fst))),bV ((appV D t l).snd)])) (ifB (t.name.toList==(ByteArray.mk #[(116:UInt8),(97:UInt8),(103:UInt8)]).toList) (ifB ((Vw.name (l.getD (Int.toNat (0:Int)) Sh.vl.nil)).toList==(ByteArray.mk #[]).toList) (((-9223372036854775808:Int)≤(-1:Int)∧(-1:Int)≤(9223372036854775807:Int))∧∀ (z3:Int),z3=(-1:Int)→z3=z3∧true=true∧Sub (PV.tup [PV.agg [uV ((numV z3).kind),bV ((numV z3).neg),PV.f (Lf.lr (numV z3).digits (numV z3).digits.length),bV ((numV z3).truth),sV ((numV z3).name),dP Sh.vl []],bV true]) (PV.tup [PV.agg (Qac (vlC ((appV D t l).fst))),bV ((appV D t l).snd)])) (ifB (t.name.toList==(ByteArray.mk #[(116:UInt8),(97:UInt8),(103:UInt8)]).toList) (((-9223372036854775808:Int)≤(↑(z1.getD (0,0)).snd:Int)∧(↑(z1.getD (0,0)).snd:Int)≤(9223372036854775807:Int))∧∀ (z3:Int),z3=(↑(z1.getD (0,0)).snd:Int)→z3=z3∧true=true∧Sub (PV.tup [PV.agg [uV ((numV z3).kind),bV ((numV z3).neg),PV.f (Lf.lr (numV z3).digits (numV z3).digits.length),bV ((numV z3).truth),sV ((numV z3).name),dP Sh.vl []],bV z1.isSome]) (PV.tup [PV.agg (Qac (vlC ((appV D t l).fst))),bV ((appV D t l).snd)])) (t.name.size≤4611686018427387904∧∀ (z3:(Nat × Nat) × Int × Bool),z3=Qah D t.name→ifB (!z3.snd.snd) (true=true∧Sub (PV.tup [PV.agg (Qac (vlC (l.getD (Int.toNat (0:Int)) Sh.vl.nil))),bV false]) (PV.tup [PV.agg (Qac (vlC ((appV D t l).fst))),bV ((appV D t l).snd)])) (ifB (!(Vw.name (l.getD (Int.toNat (0:Int)) Sh.vl.nil)).toList==(ByteArray.mk #[]).toList) (((0:Int)≤(↑(z1.getD (0,0)).fst:Int)∧(↑(z1.getD (0,0)).fst:Int)<(↑D.length:Int))∧((0:Int)≤(↑z3.fst.fst:Int)∧(↑z3.fst.fst:Int)<(↑D.length:Int))∧ifB (!(D.getD (↑(z1.getD (0,0)).fst:Int).toNat Sh.dat.nil).name.toList==(D.getD (↑z3.fst.fst:Int).toNat Sh.dat.nil).name.toList) (true=true∧Sub (PV.tup [PV.agg (Qac (vlC (l.getD (Int.toNat (0:Int)) Sh.vl.nil))),bV false]) (PV.tup [PV.agg (Qac (vlC ((appV D t l).fst))),bV ((appV D t l).snd)])) (ifB (!(Vw.name (l.getD (Int.toNat (0:Int)) Sh.vl.nil)).toList==(ByteArray.mk #[]).toList) (ifB ((↑(z1.getD (0,0)).fst:Int)==(↑z3.fst.fst:Int) && ((↑(z1.getD (0,0)).snd:Int)==(↑z3.fst.snd:Int) && true)) (((0:Int)≤z3.snd.fst∧z3.snd.fst<(↑(Vw.fields (l.getD (Int.toNat (0:Int)) Sh.vl.nil)).length:Int))∧true=true∧Sub (PV.tup [PV.agg (Qac (vlC ((Vw.fields (l.getD (Int.toNat (0:Int)) Sh.vl.nil)).getD z3.snd.fst.toNat Sh.vl.nil))),bV true]) (PV.tup [PV.agg (Qac (vlC ((appV D t l).fst))),bV ((appV D t l).snd)])) (((0:Int)≤(↑z3.fst.fst:Int)∧(0:Int)≤(↑z3.fst.snd:Int)∧(↑z3.fst.fst:Int)<(↑D.length:Int)∧(↑z3.fst.snd:Int)<(↑(D.getD (↑z3.fst.fst:Int).toNat Sh.dat.nil).cons.length:Int))∧((0:Int)≤z3.snd.fst∧z3.snd.fst<(↑(Qaz D ((↑z3.fst.fst:Int).toNat,(↑z3.fst.snd:Int).toNat)).length:Int))∧ifB ((QaO ((Qaz D ((↑z3.fst.fst:Int).toNat,(↑z3.fst.snd:Int).toNat)).getD z3.snd.fst.toNat Sh.str.nil)).kind==(0:Int)) (true=true∧Sub (PV.tup [PV.agg (vl0 nilV),bV true]) (PV.tup [PV.agg (Qac (vlC ((appV D t l).fst))),bV ((appV D t l).snd)])) (true=true∧Sub (PV.tup [PV.agg (vl0 (QaO ((Qaz D ((↑z3.fst.fst:Int).toNat,(↑z3.fst.snd:Int).toNat)).getD z3.snd.fst.toNat Sh.str.nil))),bV true]) (PV.tup [PV.agg (Qac (vlC ((appV D t l).fst))),bV ((appV D t l).snd)])))) (((0:Int)≤(↑z3.fst.fst:Int)∧(0:Int)≤(↑z3.fst.snd:Int)∧(↑z3.fst.fst:Int)<(↑D.length:Int)∧(↑z3.fst.snd:Int)<(↑(D.getD (↑z3.fst.fst:Int).toNat Sh.dat.nil).cons.length:Int))∧((0:Int)≤z3.snd.fst∧z3.snd.fst<(↑(Qaz D ((↑z3.fst.fst:Int).toNat,(↑z3.fst.snd:Int).toNat)).length:Int))∧ifB ((QaO ((Qaz D ((↑z3.fst.fst:Int).toNat,(↑z3.fst.snd:Int).toNat)).getD z3.snd.fst.toNat Sh.str.nil)).kind==(0:Int)) (true=true∧Sub (PV.tup [PV.agg (vl0 nilV),bV true]) (PV.tup [PV.agg (Qac (vlC ((appV D t l).fst))),bV ((appV D t l).snd)])) (true=true∧Sub (PV.tup [PV.agg (vl0 (QaO ((Qaz D ((↑z3.fst.fst:Int).toNat,(↑z3.fst.snd:Int).toNat)).getD z3.snd.fst.toNat Sh.str.nil))),bV true]) (PV.tup [PV.agg (Qac (vlC ((appV D t l).fst))),bV ((appV D t l).snd)]))))) (ifB (!(Vw.name (l.getD (Int.toNat (0:Int)) Sh.vl.nil)).toList==(ByteArray.mk #[]).toList) (ifB ((↑(z1.getD (0,0)).fst:Int)==(↑z3.fst.fst:Int) && ((↑(z1.getD (0,0)).snd:Int)==(↑z3.fst.snd:Int) && true)) (((0:Int)≤z3.snd.fst∧z3.snd.fst<(↑(Vw.fields (l.getD (Int.toNat (0:Int)) Sh.vl.nil)).length:Int))∧true=true∧Sub (PV.tup [PV.agg (Qac (vlC ((Vw.fields (l.getD (Int.toNat (0:Int)) Sh.vl.nil)).getD z3.snd.fst.toNat Sh.vl.nil))),bV true]) (PV.tup [PV.agg (Qac (vlC ((appV D t l).fst))),bV ((appV D t l).snd)])) (((0:Int)≤(↑z3.fst.fst:Int)∧(0:Int)≤(↑z3.fst.snd:Int)∧(↑z3.fst.fst:Int)<(↑D.length:Int)∧(↑z3.fst.snd:Int)<(↑(D.getD (↑z3.fst.fst:Int).toNat Sh.dat.nil).cons.length:Int))∧((0:Int)≤z3.snd.fst∧z3.snd.fst<(↑(Qaz D ((↑z3.fst.fst:Int).toNat,(↑z3.fst.snd:Int).toNat)).length:Int))∧ifB ((QaO ((Qaz D ((↑z3.fst.fst:Int).toNat,(↑z3.fst.snd:Int).toNat)).getD z3.snd.fst.toNat Sh.str.nil)).kind==(0:Int)) (true=true∧Sub (PV.tup [PV.agg (vl0 nilV),bV true]) (PV.tup [PV.agg (Qac (vlC ((appV D t l).fst))),bV ((appV D t l).snd)])) (true=true∧Sub (PV.tup [PV.agg (vl0 (QaO ((Qaz D ((↑z3.fst.fst:Int).toNat,(↑z3.fst.snd:Int).toNat)).getD z3.snd.fst.toNat Sh.str.nil))),bV true]) (PV.tup [PV.agg (Qac (vlC ((appV D t l).fst))),bV ((appV D t l).snd)])))) (((0:Int)≤(↑z3.fst.fst:Int)∧(0:Int)≤(↑z3.fst.snd:Int)∧(↑z3.fst.fst:Int)<(↑D.length:Int)∧(↑z3.fst.snd:Int)<(↑(D.getD (↑z3.fst.fst:Int).toNat Sh.dat.nil).cons.length:Int))∧((0:Int)≤z3.snd.fst∧z3.snd.fst<(↑(Qaz D ((↑z3.fst.fst:Int).toNat,(↑z3.fst.snd:Int).toNat)).length:Int))∧ifB ((QaO ((Qaz D ((↑z3.fst.fst:Int).toNat,(↑z3.fst.snd:Int).toNat)).getD z3.snd.fst.toNat Sh.str.nil)).kind==(0:Int)) (true=true∧Sub (PV.tup [PV.agg (vl0 nilV),bV true]) (PV.tup [PV.agg (Qac (vlC ((appV D t l).fst))),bV ((appV D t l).snd)])) (true=true∧Sub (PV.tup [PV.agg (vl0 (QaO ((Qaz D ((↑z3.fst.fst:Int).toNat,(↑z3.fst.snd:Int).toNat)).getD z3.snd.fst.toNat Sh.str.nil))),bV true]) (PV.tup [PV.agg (Qac (vlC ((appV D t l).fst))),bV ((appV D t l).snd)])))))))) (ifB (t.name.toList==(ByteArray.mk #[(116:UInt8),(97:UInt8),(103:UInt8)]).toList) (((-9223372036854775808:Int)≤(↑(z1.getD (0,0)).snd:Int)∧(↑(z1.getD (0,0)).snd:Int)≤(9223372036854775807:Int))∧∀ (z3:Int),z3=(↑(z1.getD (0,0)).snd:Int)→z3=z3∧true=true∧Sub (PV.tup [PV.agg [uV ((numV z3).kind),bV ((numV z3).neg),PV.f (Lf.lr (numV z3).digits (numV z3).digits.length),bV ((numV z3).truth),sV ((numV z3).name),dP Sh.vl []],bV z1.isSome]) (PV.tup [PV.agg (Qac (vlC ((appV D t l).fst))),bV ((appV D t l).snd)])) (t.name.size≤4611686018427387904∧∀ (z3:(Nat × Nat) × Int × Bool),z3=Qah D t.name→ifB (!z3.snd.snd) (true=true∧Sub (PV.tup [PV.agg (Qac (vlC (l.getD (Int.toNat (0:Int)) Sh.vl.nil))),bV false]) (PV.tup [PV.agg (Qac (vlC ((appV D t l).fst))),bV ((appV D t l).snd)])) (ifB (!(Vw.name (l.getD (Int.toNat (0:Int)) Sh.vl.nil)).toList==(ByteArray.mk #[]).toList) (((0:Int)≤(↑(z1.getD (0,0)).fst:Int)∧(↑(z1.getD (0,0)).fst:Int)<(↑D.length:Int))∧((0:Int)≤(↑z3.fst.fst:Int)∧(↑z3.fst.fst:Int)<(↑D.length:Int))∧ifB (!(D.getD (↑(z1.getD (0,0)).fst:Int).toNat Sh.dat.nil).name.toList==(D.getD (↑z3.fst.fst:Int).toNat Sh.dat.nil).name.toList) (true=true∧Sub (PV.tup [PV.agg (Qac (vlC (l.getD (Int.toNat (0:Int)) Sh.vl.nil))),bV false]) (PV.tup [PV.agg (Qac (vlC ((appV D t l).fst))),bV ((appV D t l).snd)])) (ifB (!(Vw.name (l.getD (Int.toNat (0:Int)) Sh.vl.nil)).toList==(ByteArray.mk #[]).toList) (ifB ((↑(z1.getD (0,0)).fst:Int)==(↑z3.fst.fst:Int) && ((↑(z1.getD (0,0)).snd:Int)==(↑z3.fst.snd:Int) && true)) (((0:Int)≤z3.snd.fst∧z3.snd.fst<(↑(Vw.fields (l.getD (Int.toNat (0:Int)) Sh.vl.nil)).length:Int))∧true=true∧Sub (PV.tup [PV.agg (Qac (vlC ((Vw.fields (l.getD (Int.toNat (0:Int)) Sh.vl.nil)).getD z3.snd.fst.toNat Sh.vl.nil))),bV true]) (PV.tup [PV.agg (Qac (vlC ((appV D t l).fst))),bV ((appV D t l).snd)])) (((0:Int)≤(↑z3.fst.fst:Int)∧(0:Int)≤(↑z3.fst.snd:Int)∧(↑z3.fst.fst:Int)<(↑D.length:Int)∧(↑z3.fst.snd:Int)<(↑(D.getD (↑z3.fst.fst:Int).toNat Sh.dat.nil).cons.length:Int))∧((0:Int)≤z3.snd.fst∧z3.snd.fst<(↑(Qaz D ((↑z3.fst.fst:Int).toNat,(↑z3.fst.snd:Int).toNat)).length:Int))∧ifB ((QaO ((Qaz D ((↑z3.fst.fst:Int).toNat,(↑z3.fst.snd:Int).toNat)).getD z3.snd.fst.toNat Sh.str.nil)).kind==(0:Int)) (true=true∧Sub (PV.tup [PV.agg (vl0 nilV),bV true]) (PV.tup [PV.agg (Qac (vlC ((appV D t l).fst))),bV ((appV D t l).snd)])) (true=true∧Sub (PV.tup [PV.agg (vl0 (QaO ((Qaz D ((↑z3.fst.fst:Int).toNat,(↑z3.fst.snd:Int).toNat)).getD z3.snd.fst.toNat Sh.str.nil))),bV true]) (PV.tup [PV.agg (Qac (vlC ((appV D t l).fst))),bV ((appV D t l).snd)])))) (((0:Int)≤(↑z3.fst.fst:Int)∧(0:Int)≤(↑z3.fst.snd:Int)∧(↑z3.fst.fst:Int)<(↑D.length:Int)∧(↑z3.fst.snd:Int)<(↑(D.getD (↑z3.fst.fst:Int).toNat Sh.dat.nil).cons.length:Int))∧((0:Int)≤z3.snd.fst∧z3.snd.fst<(↑(Qaz D ((↑z3.fst.fst:Int).toNat,(↑z3.fst.snd:Int).toNat)).length:Int))∧ifB ((QaO ((Qaz D ((↑z3.fst.fst:Int).toNat,(↑z3.fst.snd:Int).toNat)).getD z3.snd.fst.toNat Sh.str.nil)).kind==(0:Int)) (true=true∧Sub (PV.tup [PV.agg (vl0 nilV),bV true]) (PV.tup [PV.agg (Qac (vlC ((appV D t l).fst))),bV ((appV D t l).snd)])) (true=true∧Sub (PV.tup [PV.agg (vl0 (QaO ((Qaz D ((↑z3.fst.fst:Int).toNat,(↑z3.fst.snd:Int).toNat)).getD z3.snd.fst.toNat Sh.str.nil))),bV true]) (PV.tup [PV.agg (Qac (vlC ((appV D t l).fst))),bV ((appV D t l).snd)]))))) (ifB (!(Vw.name (l.getD (Int.toNat (0:Int)) Sh.vl.nil)).toList==(ByteArray.mk #[]).toList) (ifB ((↑(z1.getD (0,0)).fst:Int)==(↑z3.fst.fst:Int) && ((↑(z1.getD (0,0)).snd:Int)==(↑z3.fst.snd:Int) && true)) (((0:Int)≤z3.snd.fst∧z3.snd.fst<(↑(Vw.fields (l.getD (Int.toNat (0:Int)) Sh.vl.nil)).length:Int))∧true=true∧Sub (PV.tup [PV.agg (Qac (vlC ((Vw.fields (l.getD (Int.toNat (0:Int)) Sh.vl.nil)).getD z3.snd.fst.toNat Sh.vl.nil))),bV true]) (PV.tup [PV.agg (Qac (vlC ((appV D t l).fst))),bV ((appV D t l).snd)])) (((0:Int)≤(↑z3.fst.fst:Int)∧(0:Int)≤(↑z3.fst.snd:Int)∧(↑z3.fst.fst:Int)<(↑D.length:Int)∧(↑z3.fst.snd:Int)<(↑(D.getD (↑z3.fst.fst:Int).toNat Sh.dat.nil).cons.length:Int))∧((0:Int)≤z3.snd.fst∧z3.snd.fst<(↑(Qaz D ((↑z3.fst.fst:Int).toNat,(↑z3.fst.snd:Int).toNat)).length:Int))∧ifB ((QaO ((Qaz D ((↑z3.fst.fst:Int).toNat,(↑z3.fst.snd:Int).toNat)).getD z3.snd.fst.toNat Sh.str.nil)).kind==(0:Int)) (true=true∧Sub (PV.tup [PV.agg (vl0 nilV),bV true]) (PV.tup [PV.agg (Qac (vlC ((appV D t l).fst))),bV ((appV D t l).snd)])) (true=true∧Sub (PV.tup [PV.agg (vl0 (QaO ((Qaz D ((↑z3.fst.fst:Int).toNat,(↑z3.fst.snd:Int).toNat)).getD z3.snd.fst.toNat Sh.str.nil))),bV true]) (PV.tup [PV.agg (Qac (vlC ((appV D t l).fst))),bV ((appV D t l).snd)])))) (((0:Int)≤(↑z3.fst.fst:Int)∧(0:Int)≤(↑z3.fst.snd:Int)∧(↑z3.fst.fst:Int)<(↑D.length:Int)∧(↑z3.fst.snd:Int)<(↑(D.getD (↑z3.fst.fst:Int).toNat Sh.dat.nil).cons.length:Int))∧((0:Int)≤z3.snd.fst∧z3.snd.fst<(↑(Qaz D ((↑z3.fst.fst:Int).toNat,(↑z3.fst.snd:Int).toNat)).length:Int))∧ifB ((QaO ((Qaz D ((↑z3.fst.fst:Int).toNat,(↑z3.fst.snd:Int).toNat)).getD z3.snd.fst.toNat Sh.str.nil)).kind==(0:Int)) (true=true∧Sub (PV.tup [PV.agg (vl0 nilV),bV true]) (PV.tup [PV.agg (Qac (vlC ((appV D t l).fst))),bV ((appV D t l).snd)])) (true=true∧Sub (PV.tup [PV.agg (vl0 (QaO ((Qaz D ((↑z3.fst.fst:Int).toNat,(↑z3.fst.snd:Int).toNat)).getD z3.snd.fst.toNat Sh.str.nil))),bV true]) (PV.tup [PV.agg (Qac (vlC ((appV D t l).fst))),bV ((appV D t l).snd)]))))))))) ?kr ?_
     case kr=>kernel_rfl
     refine ⟨?s0,fun z1=>fun hz1=>fun z2=>fun hz2=>Qaa.2 ⟨fun hb0=>⟨rfl,?m0⟩,fun hb0=>Qaa.2 ⟨fun hb1=>Qaa.2 ⟨fun hb2=>⟨?s1,fun z3=>fun hz3=>⟨rfl,⟨rfl,?m1⟩⟩⟩,fun hb2=>Qaa.2 ⟨fun hb3=>⟨?s2,fun z3=>fun hz3=>⟨rfl,⟨rfl,?m2⟩⟩⟩,fun hb3=>⟨?s3,fun z3=>fun hz3=>Qaa.2 ⟨fun hb4=>⟨rfl,?m3⟩,fun hb4=>Qaa.2 ⟨fun hb5=>⟨?s4,⟨?s5,Qaa.2 ⟨fun hb6=>⟨rfl,?m4⟩,fun hb6=>Qaa.2 ⟨fun hb7=>Qaa.2 ⟨fun hb8=>⟨?s6,⟨rfl,?m5⟩⟩,fun hb8=>⟨?s7,⟨?s8,Qaa.2 ⟨fun hb9=>⟨rfl,?m6⟩,fun hb9=>⟨rfl,?m7⟩⟩⟩⟩⟩,fun hb7=>⟨?s9,⟨?s10,Qaa.2 ⟨fun hb10=>⟨rfl,?m8⟩,fun hb10=>⟨rfl,?m9⟩⟩⟩⟩⟩⟩⟩⟩,fun hb5=>Qaa.2 ⟨fun hb11=>Qaa.2 ⟨fun hb12=>⟨?s11,⟨rfl,?m10⟩⟩,fun hb12=>⟨?s12,⟨?s13,Qaa.2 ⟨fun hb13=>⟨rfl,?m11⟩,fun hb13=>⟨rfl,?m12⟩⟩⟩⟩⟩,fun hb11=>⟨?s14,⟨?s15,Qaa.2 ⟨fun hb14=>⟨rfl,?m13⟩,fun hb14=>⟨rfl,?m14⟩⟩⟩⟩⟩⟩⟩⟩⟩⟩,fun hb1=>Qaa.2 ⟨fun hb15=>⟨?s16,fun z3=>fun hz3=>⟨rfl,⟨rfl,?m15⟩⟩⟩,fun hb15=>⟨?s17,fun z3=>fun hz3=>Qaa.2 ⟨fun hb16=>⟨rfl,?m16⟩,fun hb16=>Qaa.2 ⟨fun hb17=>⟨?s18,⟨?s19,Qaa.2 ⟨fun hb18=>⟨rfl,?m17⟩,fun hb18=>Qaa.2 ⟨fun hb19=>Qaa.2 ⟨fun hb20=>⟨?s20,⟨rfl,?m18⟩⟩,fun hb20=>⟨?s21,⟨?s22,Qaa.2 ⟨fun hb21=>⟨rfl,?m19⟩,fun hb21=>⟨rfl,?m20⟩⟩⟩⟩⟩,fun hb19=>⟨?s23,⟨?s24,Qaa.2 ⟨fun hb22=>⟨rfl,?m21⟩,fun hb22=>⟨rfl,?m22⟩⟩⟩⟩⟩⟩⟩⟩,fun hb17=>Qaa.2 ⟨fun hb23=>Qaa.2 ⟨fun hb24=>⟨?s25,⟨rfl,?m23⟩⟩,fun hb24=>⟨?s26,⟨?s27,Qaa.2 ⟨fun hb25=>⟨rfl,?m24⟩,fun hb25=>⟨rfl,?m25⟩⟩⟩⟩⟩,fun hb23=>⟨?s28,⟨?s29,Qaa.2 ⟨fun hb26=>⟨rfl,?m26⟩,fun hb26=>⟨rfl,?m27⟩⟩⟩⟩⟩⟩⟩⟩⟩⟩⟩⟩
     all_goals try simp only [bs_l,Int.toNat_zero,Int.toNat_natCast,decide_eq_true_eq,decide_eq_false_iff_not,Bool.not_eq_true',Bool.not_eq_false',beq_iff_eq,beq_eq_false_iff_ne,ne_eq,Bool.and_true,Bool.and_eq_true,Bool.and_eq_false_iff,Int.natCast_inj] at *
     all_goals obtain ⟨hl,hn,hw,hD⟩:=hf
     all_goals have hin:=Qc9 (l:=l) (i:=0) (by omega)
     all_goals have eT:bTag=ByteArray.mk #[(116:UInt8),(97:UInt8),(103:UInt8)]:=rfl
     all_goals try rw [← eT] at *
     case s0=>exact ⟨by omega,by omega⟩
     case s1=>exact ⟨by decide,by decide⟩
     case m0=>rw [Qrm (hz2.symm.trans hb0)]; exact .refl _
     all_goals have h3:allV l 3=true:=hz2.symm.trans hb0
     all_goals have hk:=QbN.1 h3 _ hin
     case m1=>rw [QkG h3 (by assumption) (by assumption),hz3]; exact .refl _
     all_goals subst hz1
     all_goals try subst hz3
     all_goals try exact hn
     all_goals try (rw [QnC h3 (by assumption) (by assumption)]; exact .refl _)
     all_goals try (exfalso; contradiction)
     all_goals try (rw [QsR h3 (by assumption) (by assumption)]; exact .refl _)
     all_goals try (rw [QsT h3 (by assumption) (by assumption) (by assumption) (by assumption)]; exact .refl _)
     all_goals try (rw [QnD h3 (by assumption) (by assumption) (by assumption) (by assumption) (Qp1 (by assumption))]; exact .refl _)
     all_goals try (rw [Qcn h3 (by assumption) (by assumption) (.inl (by assumption)),if_pos (by assumption)]; exact .refl _)
     all_goals try (rw [Qcn h3 (by assumption) (by assumption) (.inl (by assumption)),if_neg (by assumption)]; exact .refl _)
     all_goals try (rw [Qcn h3 (by assumption) (by assumption) (.inr ⟨by assumption,Qp0 (by assumption)⟩),if_pos (by assumption)]; exact .refl _)
     all_goals try (rw [Qcn h3 (by assumption) (by assumption) (.inr ⟨by assumption,Qp0 (by assumption)⟩),if_neg (by assumption)]; exact .refl _)
     all_goals have hcs:=Qhu hD (Vw.name (l.getD 0 Sh.vl.nil))
     case s2=>exact ⟨by omega,by omega⟩
     all_goals have hfo:=Qgj (D:=D) (s:=t.name) (by assumption)
     all_goals obtain ⟨f1,f2,f3,f4⟩:=hfo
     all_goals try exact ⟨by omega,by omega,by omega,by omega⟩
     all_goals try exact ⟨f3,f4⟩
     all_goals obtain ⟨p,hpp,hlen⟩:=hw hk (by assumption)
     all_goals obtain ⟨-,g1,g2⟩:=QdT hpp
     all_goals simp only [hpp,Option.getD_some,Nat.sub_zero] at *
     all_goals try exact ⟨by omega,by omega⟩
     all_goals exact ⟨f3,by rw [hlen,Qp1 (p:=p) (q:=(Qah D t.name).1) (by assumption)]; exact f4⟩
   · cases hs
 · cases hs
end Go.Proofs.YtemhncjjiomppaaGreatDoor
namespace Go.Proofs.YtemhncjjiomppaaGreatDoor
open Go.RowKit
set_option linter.unusedVariables false
set_option maxRecDepth 100000
def outR:Rs→Out
 | .one x=>.ret x []
 | .nm α e r=>.nm α e fun y=>.ret (r y) []
 | .nm2 α β e e' r=>.nm α e fun y=>.nm β e' fun y'=>.ret (r y y') []
def upS (sp:Spec):Spec2:=fun xs ob=>match ob with
 | []=>match QfV (QcN xs),sp (QcN xs) with
  | true,some (some p,r)=>some (.need p (outR r))
  | true,some (none,r)=>some (outR r)
  | _,_=>none
 | _::_=>none
theorem QmA (r:Rs):(outR r).fin=(true,r.out,[]):=by cases r <;> rfl
theorem Contract.up {P:Program} {E:Env} {f:FuncId} {sp:Spec} (hU:Up E) (h:Contract P E f sp):Contract2 P E f (upS sp):=by
 intro xs ob o hs hok K w g vs hK hO hfull hE hvs
 cases ob with
 | cons x ob=>cases hs
 | nil =>
  have key:∀ p r,QfV (QcN xs)=true→sp (QcN xs)=some (p,r)→(∀ q,p=some q→q)→o.fin=(true,r.out,[]) →
    Calls P f vs.toArray w fun e w'=>∃ g' v,ExtK ⟨K,w,g.B,[]⟩ g.H w' g'.H∧Obs K o.fin.2.2 g' w'∧(∀ i,i<o.fin.2.2.length→∃ u,g'.B i=some u)∧(∀ i p,FixB g.B i p→g'.B i=some p)∧PR g'.H g'.B v o.fin.2.1 ∧
     e=(match o.fin.1 with | true=>.returned v | false=>.panicked [{ v,recovered:=false }]):=by
   intro p r hpu hsp hp hfin
   rw [hfin]
   have hfl:PRs g.H g.B vs (QcN xs):=⟨by rw [Qcj]; exact hvs.1,fun i v x hv hx=>by
    rw [QiD] at hx
    cases hx':xs[i]? with
    | none=>rw [hx'] at hx; cases hx
    | some y=>rw [hx'] at hx; cases hx; exact (hvs.2 i v y hv hx').flat⟩
   refine (h (QcN xs) p r hsp hp w g.H vs hO.fro (hU.more K _ w g.H hK hE) (hfl.pure hpu)).mono ?_
   rintro e w' ⟨H',v,rfl,hext,hpr⟩
   have hdom:∀ o u,g.B o=some u→False:=fun o u hb=>absurd (hO.dom o u hb) (Nat.not_lt_zero _)
   refine ⟨⟨H',g.B⟩,v,(ExtK.refl (c:=⟨K,w,g.B,[]⟩) hO.fro hK).trans hext,?_,fun i hi=>absurd hi (Nat.not_lt_zero _),fun i p hp=>hp.1,hpr.mono (Hp.le_refl _) (B0.le _),rfl⟩
   exact hO.ext hext
  unfold upS at hs
  dsimp only at hs
  split at hs
  · rename_i p r hpu hsp
    cases hs
    exact key (some p) r hpu hsp (fun q hq=>by cases hq; exact hok.1) (QmA r)
  · rename_i r hpu hsp
    cases hs
    exact key none r hpu hsp (fun q hq=>by cases hq) (QmA r)
  · cases hs
def z0V:Vw:=.mk 0 false [] false ⟨#[]⟩ []
def varE (D:List Dat) (nm:ByteArray) (B:List Bnd):Except Int Vw:=B.foldl (fun r b=>if b.name=nm then (if QcM D b.value=true then .ok b.value else .error 23) else r) (.error 21)
theorem QdZ (D:List Dat) (nm:ByteArray) {B:List Bnd} {i:Nat} (d:Bnd) (h:i<B.length):varE D nm (B.take (i+1))=if (B.getD i d).name=nm then (if QcM D (B.getD i d).value=true then .ok (B.getD i d).value else .error 23) else varE D nm (B.take i):=by
 unfold varE
 rw [List.take_add_one,List.getElem?_eq_getElem h,List.getD_eq_getElem?_getD,List.getElem?_eq_getElem h,List.foldl_append]
 rfl
def QaQ (k:Int):Int × Bool:=QgX (.int .u8) k 0 [12,11,5,13,9,8,10,7,6,4,3,2,1] [-1,-1,-1,2,2,2,1,1,1,0,0,0,0]
noncomputable def opW (D:List Dat) (t:Tw) (l:List Vw):Vw × Bool :=
 if t.kind=2 then (numV (zV t.neg t.digits),Qau t.neg t.digits)
 else if t.kind=3 then (Qao true,true)
 else if t.kind=4 then (Qao false,true)
 else if t.kind=5 then (numV (sumW l 0),allV l 1)
 else if t.kind=6 then (numV (QaP l 1 * zV t.neg t.digits),allV l 1 && Qau t.neg t.digits)
 else if t.kind=7 then appV D t l
 else if t.kind=8 then (Qao (sameV (l.getD 0 Sh.vl.nil) (l.getD 1 Sh.vl.nil)),allV l 1 || allV l 3)
 else if t.kind=9 then (Qao (decide (cmpI (zV (Vw.neg (l.getD 0 Sh.vl.nil)) (Vw.digits (l.getD 0 Sh.vl.nil))) (zV (Vw.neg (l.getD 1 Sh.vl.nil)) (Vw.digits (l.getD 1 Sh.vl.nil)))≤0)),allV l 1)
 else if t.kind=10 then (Qao (!Vw.truth (l.getD 0 Sh.vl.nil)),allV l 2)
 else if t.kind=13 then (Qao (Vw.truth (l.getD 0 Sh.vl.nil)==Vw.truth (l.getD 1 Sh.vl.nil)),allV l 2)
 else if t.kind=11 then (Qao (Qbt l true),allV l 2)
 else (Qao (!Qbt l false),allV l 2)
mutual
noncomputable def evalT (D:List Dat) (B:List Bnd):Tw→Except Int Vw
 | .mk k nm neg dg kids=>if k=1∧kids.length=0 then varE D nm B
  else if (QaQ k).2=false then .error 23
  else if 0≤(QaQ k).1∧¬ (kids.length:Int)=(QaQ k).1 then .error 24
  else match evalL D B kids with
   | .error e=>.error e
   | .ok l=>if (opW D (.mk k nm neg dg kids) l).2=true then .ok (opW D (.mk k nm neg dg kids) l).1 else .error 23
noncomputable def evalL (D:List Dat) (B:List Bnd):List Tw→Except Int (List Vw)
 | []=>.ok []
 | t::l=>match evalT D B t with
  | .error e=>.error e
  | .ok v=>match evalL D B l with
   | .error e=>.error e
   | .ok m=>.ok (v::m)
end
def QpN:Spec2
 | [.f (.dt .bnd l)],[]=>some (.ret (.fn 135 [] [.bp 0 0]) [.cells [.f (.dt .bnd l)]])
 | _,_=>none
theorem cBackB {E:Env} (hU:Up E):Contract2 Tryz.prog E 87 QpN:=by
 refine contract2 [] [] Tryz.ntmps87 Tryz.func87 (by kernel_rfl) (by kernel_rfl) hU trivial trivial ?_
 intro xs ob o hs hok
 unfold QpN at hs
 split at hs
 · rename_i l
   cases hs
   refine ⟨[.f (.dt .bnd l)],[],.cons (.refl _) .nil,rfl,fun _ _=>?_⟩
   refine Qab (p:=EndU 0 (Out.ret (PV.fn 135 [] [PV.bp 0 0]) [PO.cells [dP Sh.bnd l]]).fin true (PV.fn 135 [] [PV.bp 0 0]) [PO.cells [dP Sh.bnd l]]) ?kr ?_
   case kr=>kernel_rfl
   refine ?m0
   case m0=>exact endU rfl (.refl _) rfl rfl (r:=[]) rfl
 · cases hs
def bkB:Backs:=bkL [(135,42,98)]
theorem bkB_ok:QhM Tryz.prog bkB :=
 Qri (tI:=3) (tB:=4) (ts:=#[3,98]) Tryz.func135 (by kernel_rfl) (by kernel_rfl) Tryz.ntmps135 (by kernel_rfl) (by kernel_rfl) (by kernel_rfl) (by kernel_rfl) (by kernel_rfl) (by kernel_rfl) (by kernel_rfl)
end Go.Proofs.YtemhncjjiomppaaGreatDoor
namespace Go.Proofs.YtemhncjjiomppaaGreatDoor
open Go.RowKit
set_option linter.unusedVariables false
set_option maxRecDepth 100000
mutual
def cntT:Tw→Nat
 | .mk _ n _ d l=>1+n.size / 8+d.length+QaF l
def QaF:List Tw→Nat
 | []=>0
 | t::l=>cntT t+QaF l
end
mutual
def cntV:Vw→Nat
 | .mk _ _ d _ n l=>1+d.length+n.size / 8+Qa5 l
def Qa5:List Vw→Nat
 | []=>0
 | t::l=>cntV t+Qa5 l
end
mutual
def bigT:Tw→Nat
 | .mk k _ _ d l=>(if k=2∨k=5∨k=6∨k=7 then 1+d.length else 0)+bigM l
def bigM:List Tw→Nat
 | []=>0
 | t::l=>max (bigT t) (bigM l)
end
mutual
theorem Qfx:∀ t:Tw,bigT t≤cntT t
 | .mk k n b d l=>by
  have:=QnA l
  unfold bigT cntT
  split <;> omega
theorem QnA:∀ l:List Tw,bigM l≤QaF l
 | []=>Nat.le_refl _
 | t::l=>by
  have:=Qfx t
  have:=QnA l
  unfold bigM QaF
  omega
end
theorem Qrg (t:Tw):bigT t=(if t.kind=2∨t.kind=5∨t.kind=6∨t.kind=7 then 1+t.digits.length else 0)+bigM t.kids:=by cases t; rfl
theorem Qi1 {t:Tw} (h:t.kind=2∨t.kind=5∨t.kind=6∨t.kind=7):bigT t=1+t.digits.length+bigM t.kids:=by rw [Qrg,if_pos h]
theorem QgP (t:Tw):bigM t.kids≤bigT t:=by rw [Qrg]; omega
theorem Qrh:∀ {l:List Tw} {i:Nat} (d:Tw),i<l.length→bigT (l.getD i d)≤bigM l
 | t::l,0,d,_=>by simp only [List.getD_cons_zero,bigM]; omega
 | t::l,i+1,d,h=>by
  have:=Qrh (l:=l) (i:=i) d (by simpa using h)
  simp only [List.getD_cons_succ,bigM]; omega
theorem QkD:∀ (l:List Tw) (i:Nat),bigM (l.take i)≤bigM l
 | [],i=>by simp
 | t::l,0=>by simp [bigM]
 | t::l,i+1=>by
  have:=QkD l i
  simp only [List.take_succ_cons,bigM]; omega
theorem QqX (t:Tw):cntT t=1+t.name.size / 8+t.digits.length+QaF t.kids:=by cases t; rfl
theorem QqW (t:Vw):cntV t=1+t.digits.length+t.name.size / 8+Qa5 t.fields:=by cases t; rfl
theorem Qsz (t:Tw):1≤cntT t:=by rw [QqX]; omega
theorem Qsy (t:Vw):1≤cntV t:=by rw [QqW]; omega
theorem Qkl:∀ l:List Tw,l.length≤QaF l
 | []=>Nat.le_refl _
 | t::l=>by
  have:=Qkl l
  have:=Qsz t
  simp only [List.length_cons,QaF]; omega
theorem QgD:∀ l:List Vw,l.length≤Qa5 l
 | []=>Nat.le_refl _
 | t::l=>by
  have:=QgD l
  have:=Qsy t
  simp only [List.length_cons,Qa5]; omega
theorem Qnk:∀ {l:List Tw} {i:Nat} (d:Tw),i<l.length→cntT (l.getD i d)≤QaF l
 | t::l,0,d,_=>by simp [QaF]
 | t::l,i+1,d,h=>by
  have:=Qnk (l:=l) (i:=i) d (by simpa using h)
  simp only [List.getD_cons_succ,QaF]; omega
theorem Qnj:∀ {l:List Vw} {i:Nat} (d:Vw),i<l.length→cntV (l.getD i d)≤Qa5 l
 | t::l,0,d,_=>by simp [Qa5]
 | t::l,i+1,d,h=>by
  have:=Qnj (l:=l) (i:=i) d (by simpa using h)
  simp only [List.getD_cons_succ,Qa5]; omega
mutual
theorem QiO:∀ (v:Vw) (m:Nat),cntV v≤m→m≤100000000→v.fitV m
 | .mk k b d t n l,m,h,hm=>by
  unfold cntV at h
  have h1:=QgD l
  exact ⟨by omega,by omega,by omega,Qkj l m (by omega) hm⟩
theorem Qkj:∀ (l:List Vw) (m:Nat),Qa5 l≤m→m≤100000000→QdR m l
 | [],_,_,_=>trivial
 | v::l,m,h,hm=>by
  unfold Qa5 at h
  exact ⟨QiO v m (by omega) hm,Qkj l m (by omega) hm⟩
end
mutual
theorem Vw.fitV.mono:∀ {v:Vw} {m m':Nat},v.fitV m→m≤m'→v.fitV m'
 | .mk k b d t n l,m,m',h,hm=>⟨h.1,Nat.le_trans h.2.1 hm,h.2.2.1,Qhq h.2.2.2 hm⟩
theorem Qhq:∀ {l:List Vw} {m m':Nat},QdR m l→m≤m'→QdR m' l
 | [],_,_,_,_=>trivial
 | v::l,m,m',h,hm=>⟨h.1.mono hm,Qhq h.2 hm⟩
end
theorem Qm6:∀ {l:List Vw} {m:Nat},(∀ v∈l,v.fitV m)→QdR m l
 | [],_,_=>trivial
 | v::l,m,h=>⟨h v (by simp),Qm6 fun u hu=>h u (by simp [hu])⟩
theorem Qj5:∀ {l:List Vw} {m:Nat},QdR m l→∀ v∈l,v.fitV m
 | v::l,m,h,u,hu=>by
  rcases List.mem_cons.1 hu with rfl | hu
  · exact h.1
  · exact Qj5 h.2 u hu
mutual
def okW (D:List Dat):Vw→Prop
 | .mk k b d t n l=>okV D (.mk k b d t n l)∧(Qau b d=true∧Qbo (.mk k b d t n l)=true)∧okWL D l
def okWL (D:List Dat):List Vw→Prop
 | []=>True
 | v::l=>okW D v∧okWL D l
end
theorem QmI {D:List Dat} {v:Vw}:okW D v↔okV D v∧(Qau v.neg v.digits=true∧Qbo v=true)∧okWL D v.fields:=by cases v; exact Iff.rfl
theorem QmJ {D:List Dat}:∀ {l:List Vw},okWL D l→∀ v∈l,okW D v
 | v::l,h,u,hu=>by
  rcases List.mem_cons.1 hu with rfl | hu
  · exact h.1
  · exact QmJ h.2 u hu
theorem Qll {v:Vw} (h:Qbo v=true) (hk:¬ v.kind=1):Qau v.neg v.digits=true:=by
 cases v with
 | mk k b d t n l =>
  simp only [Qbo,Vw.kind,Vw.neg,Vw.digits,Bool.and_eq_true,Bool.or_eq_true,decide_eq_true_eq] at h hk
  obtain ⟨⟨h1,-⟩,-⟩:=h
  rcases h1 with h1 | ⟨h1,h2⟩
  · exact absurd (of_decide_eq_true h1) hk
  · have:d=[]:=List.eq_nil_of_length_eq_zero (of_decide_eq_true h1)
    subst this
    have hb:b=false:=by simpa using h2
    subst hb
    rfl
theorem Qhh {v:Vw} (h:Qbo v=true) (hk:¬ v.kind=3):v.fields=[]:=by
 cases v with
 | mk k b d t n l =>
  simp only [Qbo,Vw.kind,Vw.fields,Bool.and_eq_true,Bool.or_eq_true,decide_eq_true_eq] at h hk ⊢
  obtain ⟨-,h1⟩:=h
  rcases h1 with h1 | ⟨-,h2⟩
  · exact absurd (of_decide_eq_true h1) hk
  · exact List.eq_nil_of_length_eq_zero (of_decide_eq_true h2)
mutual
theorem QmK {D:List Dat}:∀ {v:Vw} {s:ByteArray},ofV D s v=true→okW D v
 | .mk k b d t n l,s,h=>by
  rw [ofV,Bool.and_eq_true] at h
  obtain ⟨h0,h⟩:=h
  by_cases h1:k=1
  · rw [if_pos h1,Bool.and_eq_true] at h
    have hf:=Qhh h0 (by show ¬ k=3; omega)
    refine ⟨fun h3=>absurd h3 (by show ¬ k=3; omega),⟨h.2,h0⟩,?_⟩
    have hf:l=[]:=hf
    rw [hf]; trivial
  · rw [if_neg h1] at h
    have hr:=Qll h0 h1
    by_cases h2:k=2
    · have hf:l=[]:=Qhh h0 (by show ¬ k=3; omega)
      refine ⟨fun h3=>absurd h3 (by show ¬ k=3; omega),⟨hr,h0⟩,?_⟩
      rw [hf]; trivial
    · rw [if_neg h2] at h
      by_cases h3:k=3
      · rw [if_pos h3,Bool.and_eq_true] at h
        obtain ⟨-,h⟩:=h
        by_cases h4:n=⟨#[]⟩
        · rw [if_pos h4] at h
          have hf:l=[]:=List.eq_nil_of_length_eq_zero (by simpa using h)
          refine ⟨fun _ h5=>absurd h4 h5,⟨hr,h0⟩,?_⟩
          rw [hf]; trivial
        · rw [if_neg h4] at h
          split at h
          · cases h
          · rename_i p hp
            simp only [Bool.and_eq_true,decide_eq_true_eq] at h
            exact ⟨fun _ _=>⟨p,hp,h.2.1.symm⟩,⟨hr,h0⟩,Qp7 h.2.2 (Nat.le_of_eq h.2.1.symm)⟩
      · rw [if_neg h3] at h; cases h
theorem Qp7 {D:List Dat}:∀ {l:List Vw} {m:List ByteArray},ofVL D m l=true→l.length≤m.length→okWL D l
 | [],_,_,_=>trivial
 | v::l,[],_,h=>by simp at h
 | v::l,s::m,h,hl=>by
  rw [ofVL,Bool.and_eq_true] at h
  exact ⟨QmK h.1,Qp7 h.2 (by simpa using hl)⟩
end
theorem QnF {α:Type} {l:List α} {f:α→Bool} (h:0≤anyB l f):∃ x∈l,f x=true:=by
 unfold anyB at h
 cases hc:l.findIdx? f with
 | none=>rw [hc] at h; exact absurd h (by decide)
 | some i =>
  rw [List.findIdx?_eq_some_iff_getElem] at hc
  obtain ⟨hi,h1,-⟩:=hc
  exact ⟨_,List.getElem_mem hi,h1⟩
theorem QrK {D:List Dat} {v:Vw} (h:QcM D v=true):okW D v:=by
 simp only [QcM,Bool.or_eq_true,decide_eq_true_eq] at h
 rcases h with h | h | h
 · exact QmK h
 · exact QmK h
 · obtain ⟨d,-,h⟩:=QnF h
   exact QmK h
theorem Qid {b:Bool} {d:List Nat} (h:Qau b d=true):ZB (zV b d) d.length:=by
 unfold Qau at h
 rw [Bool.and_eq_true] at h
 have:=Qd1 1000000000 d ((Qfk d).1 h.1).1
 unfold ZB zV zOf
 cases b <;> simpa using this
theorem QeI (D:List Dat) (z:Int):okW D (numV z):=⟨fun h=>absurd h (by show ¬ (1:Int)=3; decide),⟨QjD z,rfl⟩,trivial⟩
theorem Qds {z:Int} {k m:Nat} (h:ZB z k) (hk:k≤m):(numV z).fitV m:=⟨Nat.zero_le _,Nat.le_trans h.len hk,Nat.zero_le _,trivial⟩
theorem QbL (D:List Dat) (b:Bool):okW D (Qao b):=⟨fun h=>absurd h (by show ¬ (2:Int)=3; decide),⟨rfl,rfl⟩,trivial⟩
theorem Qbm (b:Bool) (m:Nat):(Qao b).fitV m:=⟨Nat.zero_le _,Nat.zero_le _,Nat.zero_le _,trivial⟩
theorem Qg3 (s:ByteArray):(if (QaO s).kind=0 then nilV else QaO s)=Qao false∨(if (QaO s).kind=0 then nilV else QaO s)=numV 0∨(if (QaO s).kind=0 then nilV else QaO s)=nilV:=by
 have h0:digs 1000000000 0=[]:=QaL _
 by_cases h1:s=QaM
 · refine .inl ?_
   unfold QaO; rw [if_pos h1]; rfl
 · by_cases h2:s=bInt
   · refine .inr (.inl ?_)
     unfold QaO numV; rw [if_neg h1,if_pos h2]
     show Vw.mk 1 false [] false ⟨#[]⟩ []=Vw.mk 1 (zNeg 0) (digs 1000000000 0) false ⟨#[]⟩ []
     rw [h0]; rfl
   · refine .inr (.inr ?_)
     unfold QaO; rw [if_neg h1,if_neg h2]; rfl
theorem QuC (D:List Dat):okW D nilV:=⟨fun _ h=>absurd rfl h,⟨rfl,rfl⟩,trivial⟩
theorem Qr8 (m:Nat):nilV.fitV m:=⟨Nat.zero_le _,Nat.zero_le _,Nat.zero_le _,trivial⟩
theorem QtA (D:List Dat) (s:ByteArray):okW D (if (QaO s).kind=0 then nilV else QaO s):=by
 rcases Qg3 s with h | h | h <;> rw [h]
 · exact QbL D _
 · exact QeI D _
 · exact QuC D
theorem Qry (s:ByteArray) (m:Nat):(if (QaO s).kind=0 then nilV else QaO s).fitV m:=by
 rcases Qg3 s with h | h | h <;> rw [h]
 · exact Qbm _ _
 · exact Qds (k:=0) (by unfold ZB; decide) (Nat.zero_le _)
 · exact Qr8 m
theorem Ql9 {b:Nat}:∀ {l:List Vw} {a:Int},(∀ v∈l,(zV v.neg v.digits).natAbs≤b)→(sumW l a).natAbs≤a.natAbs+l.length * b
 | [],a,_=>by simp [sumW]
 | v::l,a,h=>by
  have h1:=Ql9 (l:=l) (a:=a+zV v.neg v.digits) fun u hu=>h u (by simp [hu])
  have h2:=h v (by simp)
  have h3:(a+zV v.neg v.digits).natAbs≤a.natAbs+b:=by omega
  unfold sumW
  simp only [List.length_cons,Nat.add_mul,Nat.one_mul]
  omega
theorem QtQ {l:List Vw} {k:Nat} (h:∀ v∈l,ZB (zV v.neg v.digits) k) (hl:l.length≤100000000):ZB (sumW l 0) (k+1):=by
 have h1:=Ql9 (l:=l) (a:=0) (b:=1000000000 ^ k) fun v hv=>Nat.le_of_lt (h v hv)
 have h2:l.length * 1000000000 ^ k≤100000000 * 1000000000 ^ k:=Nat.mul_le_mul_right _ hl
 have h3:0<1000000000 ^ k:=Nat.pow_pos (by omega)
 unfold ZB
 rw [Nat.pow_succ]
 simp only [Int.natAbs_zero] at h1
 omega
theorem QsS {D:List Dat} {t:Tw} {l:List Vw} {m:Nat} (hD:fitD D) (hl:l.length=1) (h:∀ v∈l,v.fitV m∧okW D v) (hok:(appV D t l).2=true):(appV D t l).1.fitV (m+1)∧okW D (appV D t l).1:=by
 have h0:=h _ (Qc9 (i:=0) (by omega))
 unfold appV at hok ⊢
 split
 · rename_i hc; rw [if_pos hc] at hok; cases hok
 rename_i hc1
 rw [if_neg hc1] at hok
 split
 · exact ⟨Qds (k:=1) (by unfold ZB; decide) (by omega),QeI D _⟩
 rename_i hc2
 rw [if_neg hc2] at hok
 split
 · refine ⟨Qds (k:=1) ?_ (by omega),QeI D _⟩
   have:=Qhu hD (Vw.name (l.getD 0 Sh.vl.nil))
   unfold ZB
   simp only [Int.natAbs_natCast,Nat.pow_one]
   omega
 rename_i hc3
 rw [if_neg hc3] at hok
 split
 · rename_i hc; rw [if_pos hc] at hok; cases hok
 rename_i hc4
 rw [if_neg hc4] at hok
 split
 · rename_i hc; rw [if_pos hc] at hok; cases hok
 rename_i hc5
 split
 · rename_i hc6
   have h4:(Qah D t.name).2.2=true:=by simpa using hc4
   obtain ⟨-,-,h5,h6⟩:=Qgj h4
   have hv3:(l.getD 0 Sh.vl.nil).kind=3:=QbN.1 (by simpa using hc1) _ (Qc9 (by omega))
   obtain ⟨p,hp1,hp2⟩:=(QmI.1 h0.2).1 hv3 hc6.1
   have hp3:=hc6.2
   rw [hp1] at hp3
   have hp3:p=(Qah D t.name).1:=hp3
   subst hp3
   have hi:(Qah D t.name).2.1.toNat<(Vw.fields (l.getD 0 Sh.vl.nil)).length:=by omega
   refine ⟨?_,QmJ (QmI.1 h0.2).2.2 _ (Qc9 hi)⟩
   exact (Qj5 ((Vw.fitV_eq m _).1 h0.1).2.2.2 _ (Qc9 hi)).mono (by omega)
 · exact ⟨Qry _ _,QtA D _⟩
theorem QtF {D:List Dat} {nm:ByteArray}:∀ {B:List Bnd} {v:Vw},varE D nm B=.ok v→∃ b∈B,b.value=v∧QcM D v=true:=by
 intro B
 unfold varE
 suffices h:∀ (B:List Bnd) (r:Except Int Vw) (v:Vw),B.foldl (fun r b=>if b.name=nm then (if QcM D b.value=true then .ok b.value else .error 23) else r) r=.ok v→(∃ b∈B,b.value=v∧QcM D v=true)∨r=.ok v by
  intro v hv
  rcases h B _ v hv with h | h
  · exact h
  · cases h
 intro B
 induction B with
 | nil=>intro r v h; exact .inr h
 | cons b B ih =>
  intro r v h
  rw [List.foldl_cons] at h
  rcases ih _ v h with ⟨c,hc,h1⟩ | h1
  · exact .inl ⟨c,by simp [hc],h1⟩
  · split at h1
    · split at h1
      · rename_i hs
        cases h1
        exact .inl ⟨b,by simp,rfl,hs⟩
      · cases h1
    · exact .inr h1
def fitB (m:Nat) (B:List Bnd):Prop:=∀ b∈B,Vw.fitV m b.value
theorem Qgo {D:List Dat} {B:List Bnd}:∀ {l:List Tw} {m:List Vw},evalL D B l=.ok m→m.length=l.length
 | [],m,h=>by rw [evalL] at h; cases h; rfl
 | t::l,m,h=>by
  rw [evalL] at h
  split at h
  · cases h
  · split at h
    · cases h
    · rename_i hm
      cases h
      simp [Qgo hm]
set_option maxHeartbeats 4000000 in
theorem Quw {D:List Dat} {t:Tw} {l:List Vw} {m:Nat} (hD:fitD D) (hc:t.kids.length≤100000000) (hlen:l.length=t.kids.length) (hmany:0≤(QaQ t.kind).1→(t.kids.length:Int)=(QaQ t.kind).1)
  (h:∀ v∈l,v.fitV (m+bigM t.kids)∧okW D v) (hok:(opW D t l).2=true):(opW D t l).1.fitV (m+bigT t)∧okW D (opW D t l).1:=by
 have hcnt:=Qi1 (t:=t)
 have hzb:∀ v∈l,ZB (zV v.neg v.digits) (m+bigM t.kids):=fun v hv=>(Qid (QmI.1 (h v hv).2).2.1.1).mono ((Vw.fitV_eq _ v).1 (h v hv).1).2.1
 unfold opW at hok ⊢
 split
 · rename_i hk; rw [if_pos hk] at hok
   have:=hcnt (by omega)
   exact ⟨Qds (Qid hok) (by omega),QeI D _⟩
 rename_i hk; rw [if_neg hk] at hok
 split
 · exact ⟨Qbm _ _,QbL D _⟩
 rename_i hk; rw [if_neg hk] at hok
 split
 · exact ⟨Qbm _ _,QbL D _⟩
 rename_i hk; rw [if_neg hk] at hok
 split
 · rename_i hk
   have:=hcnt (by omega)
   exact ⟨Qds (QtQ hzb (by omega)) (by omega),QeI D _⟩
 rename_i hk; rw [if_neg hk] at hok
 split
 · rename_i hk; rw [if_pos hk,Bool.and_eq_true] at hok
   refine ⟨?_,QeI D _⟩
   have:=hcnt (by omega)
   have h1:=hmany (by rw [hk]; decide)
   have h1:t.kids.length=1:=by
    rw [hk] at h1
    have:(QaQ 6).1=1:=by decide
    rw [this] at h1; omega
   match l,hlen with
   | [v],_ =>
    refine Qds (k:=(m+bigM t.kids)+t.digits.length) ?_ (by omega)
    refine ZB.mul ?_ (Qid hok.2)
    have:=hzb v (by simp)
    show ZB (1 * zV v.neg v.digits) _
    rwa [Int.one_mul]
   | [],hl=>simp at hl; omega
   | _::_::_,hl=>simp at hl; omega
 rename_i hk; rw [if_neg hk] at hok
 split
 · rename_i hk; rw [if_pos hk] at hok
   have:=hcnt (by omega)
   have h1:=hmany (by rw [hk]; decide)
   have h1:t.kids.length=1:=by
    rw [hk] at h1
    have:(QaQ 7).1=1:=by decide
    rw [this] at h1; omega
   have:=QsS hD (by omega) h hok
   exact ⟨this.1.mono (by omega),this.2⟩
 split
 · exact ⟨Qbm _ _,QbL D _⟩
 split
 · exact ⟨Qbm _ _,QbL D _⟩
 split
 · exact ⟨Qbm _ _,QbL D _⟩
 split
 · exact ⟨Qbm _ _,QbL D _⟩
 split
 · exact ⟨Qbm _ _,QbL D _⟩
 · exact ⟨Qbm _ _,QbL D _⟩
mutual
theorem QqJ {D:List Dat} {B:List Bnd} {m:Nat} (hB:fitB m B) (hD:fitD D):∀ {t:Tw} {v:Vw},t.fitT→evalT D B t=.ok v→v.fitV (m+bigT t)∧okW D v
 | .mk k nm neg dg kids,v,hc,h=>by
  rw [evalT] at h
  split at h
  · obtain ⟨b,hb,rfl,hs⟩:=QtF h
    exact ⟨(hB b hb).mono (Nat.le_add_right _ _),QrK hs⟩
  · split at h
    · cases h
    · split at h
      · cases h
      · rename_i h1
        split at h
        · cases h
        · rename_i l hl
          split at h
          · rename_i hok
            cases h
            refine Quw hD hc.2.2.1 (Qgo hl) ?_ (Qgp hB hD hc.2.2.2 hl) hok
            intro h0
            exact Classical.byContradiction fun h2=>h1 ⟨h0,h2⟩
          · cases h
theorem Qgp {D:List Dat} {B:List Bnd} {m:Nat} (hB:fitB m B) (hD:fitD D):∀ {l:List Tw} {vs:List Vw},Qcg l→evalL D B l=.ok vs→∀ v∈vs,v.fitV (m+bigM l)∧okW D v
 | [],vs,_,h,v,hv=>by rw [evalL] at h; cases h; cases hv
 | t::l,vs,hc,h,v,hv=>by
  rw [evalL] at h
  split at h
  · cases h
  · rename_i u hu
    split at h
    · cases h
    · rename_i us hus
      cases h
      unfold bigM
      rcases List.mem_cons.1 hv with rfl | hv
      · have:=QqJ hB hD hc.1 hu
        exact ⟨this.1.mono (by omega),this.2⟩
      · have:=Qgp hB hD hc.2 hus v hv
        exact ⟨this.1.mono (by omega),this.2⟩
end
theorem Tw.fitT.nm {t:Tw} (h:t.fitT):t.name.size≤4611686018427387904:=((Tw.fitT_eq t).1 h).1
theorem Qhr:∀ {l:List Tw} (i:Nat),Qcg l→Qcg (l.take i)
 | [],i,_=>by rw [List.take_nil]; trivial
 | t::l,0,_=>trivial
 | t::l,i+1,h=>⟨h.1,Qhr i h.2⟩
end Go.Proofs.YtemhncjjiomppaaGreatDoor
namespace Go.Proofs.YtemhncjjiomppaaGreatDoor
open Go.RowKit
set_option linter.unusedVariables false
set_option maxRecDepth 100000
mutual
def capT:Int→Tw→Int
 | m,.mk _ n _ d l=>1+(n.size / 8:Nat)+(d.length:Nat)+QaY (m - 1) l
def QaY:Int→List Tw→Int
 | _,[]=>0
 | m,t::l=>if 0≤m then capT m t+QaY (m - capT m t) l else 0
end
mutual
def capV:Int→Vw→Int
 | m,.mk _ _ d _ n l=>((1+d.length+n.size / 8:Nat):Int)+Qb4 (m - ((1+d.length+n.size / 8:Nat):Int)) l
def Qb4:Int→List Vw→Int
 | _,[]=>0
 | m,t::l=>if 0≤m then capV m t+Qb4 (m - capV m t) l else 0
end
theorem Qve (m:Int) (t:Tw):capT m t=1+(t.name.size / 8:Nat)+(t.digits.length:Nat)+QaY (m - 1) t.kids:=by cases t; rw [capT]; rfl
theorem Qvd (m:Int) (v:Vw):capV m v=((1+v.digits.length+v.name.size / 8:Nat):Int)+Qb4 (m - ((1+v.digits.length+v.name.size / 8:Nat):Int)) v.fields:=by cases v; rw [capV]; rfl
mutual
theorem QiS:∀ (t:Tw) (m:Int),1≤capT m t∧capT m t≤cntT t
 | .mk k n b d l,m=>by
  have:=Qes l (m - 1)
  rw [capT,cntT]; omega
theorem Qes:∀ (l:List Tw) (m:Int),0≤QaY m l∧QaY m l≤QaF l
 | [],m=>by simp [QaY,QaF]
 | t::l,m=>by
  have h1:=QiS t m
  have h2:=Qes l (m - capT m t)
  rw [QaY,QaF]
  split <;> omega
end
mutual
theorem Qdz:∀ (t:Vw) (m:Int),1≤capV m t∧capV m t≤cntV t
 | .mk k b d x n l,m=>by
  have:=QgK l (m - ((1+d.length+n.size / 8:Nat):Int))
  rw [capV,cntV]; omega
theorem QgK:∀ (l:List Vw) (m:Int),0≤Qb4 m l∧Qb4 m l≤Qa5 l
 | [],m=>by simp [Qb4,Qa5]
 | t::l,m=>by
  have h1:=Qdz t m
  have h2:=QgK l (m - capV m t)
  rw [Qb4,Qa5]
  split <;> omega
end
mutual
theorem QoI:∀ (t:Tw) (m:Int),capT m t≤m→capT m t=cntT t
 | .mk k n b d l,m,h=>by
  rw [capT] at h ⊢
  rw [QcD l (m - 1) (by omega),cntT]; omega
theorem QcD:∀ (l:List Tw) (m:Int),QaY m l≤m→QaY m l=QaF l
 | [],m,_=>by simp [QaY,QaF]
 | t::l,m,h=>by
  have h1:=QiS t m
  have h2:=Qes l (m - capT m t)
  rw [QaY] at h ⊢
  by_cases h0:0≤m
  · rw [if_pos h0] at h ⊢
    rw [QcD l _ (by omega),QoI t m (by omega),QaF]; omega
  · rw [if_neg h0] at h; omega
end
mutual
theorem QhD:∀ (t:Vw) (m:Int),capV m t≤m→capV m t=cntV t
 | .mk k b d x n l,m,h=>by
  rw [capV] at h ⊢
  rw [QgL l _ (by omega),cntV]; omega
theorem QgL:∀ (l:List Vw) (m:Int),Qb4 m l≤m→Qb4 m l=Qa5 l
 | [],m,_=>by simp [Qb4,Qa5]
 | t::l,m,h=>by
  have h1:=Qdz t m
  have h2:=QgK l (m - capV m t)
  rw [Qb4] at h ⊢
  by_cases h0:0≤m
  · rw [if_pos h0] at h ⊢
    rw [QgL l _ (by omega),QhD t m (by omega),Qa5]; omega
  · rw [if_neg h0] at h; omega
end
def cntB:List Bnd→Nat
 | []=>0
 | b::l=>1+b.name.size / 8+cntV b.value+cntB l
def capB:Int→List Bnd→Int
 | _,[]=>0
 | m,b::l=>if 0≤m then 1+(b.name.size / 8:Nat)+capV m b.value+capB (m - (1+(b.name.size / 8:Nat)+capV m b.value)) l else 0
theorem Qnt:∀ (l:List Bnd) (m:Int),0≤capB m l∧capB m l≤cntB l
 | [],m=>by simp [capB,cntB]
 | b::l,m=>by
  have h1:=Qdz b.value m
  have h2:=Qnt l (m - (1+(b.name.size / 8:Nat)+capV m b.value))
  rw [capB,cntB]
  split <;> omega
theorem QhI:∀ (l:List Bnd) (m:Int),capB m l≤m→capB m l=cntB l
 | [],m,_=>by simp [capB,cntB]
 | b::l,m,h=>by
  have h1:=Qdz b.value m
  have h2:=Qnt l (m - (1+(b.name.size / 8:Nat)+capV m b.value))
  rw [capB] at h ⊢
  by_cases h0:0≤m
  · rw [if_pos h0] at h ⊢
    rw [QhI l _ (by omega),QhD b.value m (by omega),cntB]; omega
  · rw [if_neg h0] at h; omega
def cntK:List Cn→Nat
 | []=>0
 | c::l=>1+c.name.size / 8+c.fields.length+cntK l
def capK:Int→List Cn→Int
 | _,[]=>0
 | m,c::l=>if 0≤m then ((1+c.name.size / 8+c.fields.length:Nat):Int)+capK (m - ((1+c.name.size / 8+c.fields.length:Nat):Int)) l else 0
theorem QiT:∀ (l:List Cn) (m:Int),0≤capK m l∧capK m l≤cntK l
 | [],m=>by simp [capK,cntK]
 | c::l,m=>by
  have h2:=QiT l (m - ((1+c.name.size / 8+c.fields.length:Nat):Int))
  rw [capK,cntK]
  split <;> omega
theorem QhG:∀ (l:List Cn) (m:Int),capK m l≤m→capK m l=cntK l
 | [],m,_=>by simp [capK,cntK]
 | c::l,m,h=>by
  have h2:=QiT l (m - ((1+c.name.size / 8+c.fields.length:Nat):Int))
  rw [capK] at h ⊢
  by_cases h0:0≤m
  · rw [if_pos h0] at h ⊢
    rw [QhG l _ (by omega),cntK]; omega
  · rw [if_neg h0] at h; omega
def cntD:List Dat→Nat
 | []=>0
 | d::l=>1+d.name.size / 8+cntK d.cons+cntD l
def Qet (m:Int) (d:Dat):Int:=((1+d.name.size / 8:Nat):Int)+capK (m - ((1+d.name.size / 8:Nat):Int)) d.cons
def capD:Int→List Dat→Int
 | _,[]=>0
 | m,d::l=>if 0≤m then Qet m d+capD (m - Qet m d) l else 0
theorem Qky (m:Int) (d:Dat):1≤Qet m d∧Qet m d≤((1+d.name.size / 8+cntK d.cons:Nat):Int):=by
 have h1:=QiT d.cons (m - ((1+d.name.size / 8:Nat):Int))
 unfold Qet
 omega
theorem Qns:∀ (l:List Dat) (m:Int),0≤capD m l∧capD m l≤cntD l
 | [],m=>by simp [capD,cntD]
 | d::l,m=>by
  have h1:=Qky m d
  have h2:=Qns l (m - Qet m d)
  rw [capD,cntD]
  split <;> omega
theorem QhH:∀ (l:List Dat) (m:Int),capD m l≤m→capD m l=cntD l
 | [],m,_=>by simp [capD,cntD]
 | d::l,m,h=>by
  have h1:=Qky m d
  have h2:=Qns l (m - Qet m d)
  rw [capD] at h ⊢
  by_cases h0:0≤m
  · rw [if_pos h0] at h ⊢
    have h3:=QhG d.cons (m - ((1+d.name.size / 8:Nat):Int)) (by unfold Qet at h h2; omega)
    have h4:Qet m d=((1+d.name.size / 8+cntK d.cons:Nat):Int):=by unfold Qet; omega
    rw [QhH l _ (by omega),h4,cntD]; omega
  · rw [if_neg h0] at h; omega
theorem QsE:∀ (l:List Tw) (i:Nat) (m n:Int),QaY m l=n+QaY (m - n) (l.drop i)→i<l.length→n≤m→QaY m l=(n+capT (m - n) (l.getD i Sh.tm.nil))+QaY (m - (n+capT (m - n) (l.getD i Sh.tm.nil))) (l.drop (i+1)):=by
 intro l i m n h hi hn
 rw [h]
 have e:l.drop i=l.getD i Sh.tm.nil::l.drop (i+1):=by
  rw [List.getD_eq_getElem?_getD,List.getElem?_eq_getElem hi,Option.getD_some,List.drop_eq_getElem_cons hi]
 rw [e,QaY,if_pos (by omega),Int.add_assoc,show m - n - capT (m - n) (l.getD i Sh.tm.nil)=m - (n+capT (m - n) (l.getD i Sh.tm.nil)) by omega]
theorem QhF {l:List Tw} {i:Nat} {m n:Int} (h:QaY m l=n+QaY (m - n) (l.drop i)) (hi:¬ i<l.length∨¬ n≤m):QaY m l=n:=by
 rw [h]
 rcases hi with hi | hi
 · rw [List.drop_eq_nil_of_le (by omega),QaY]; omega
 · cases hd:l.drop i with
   | nil=>rw [QaY]; omega
   | cons t r=>rw [QaY,if_neg (by omega)]; omega
theorem QsD:∀ (l:List Vw) (i:Nat) (m n:Int) (c:Int),c=n+Qb4 (m - n) (l.drop i)→i<l.length→n≤m→c=(n+capV (m - n) (l.getD i Sh.vl.nil))+Qb4 (m - (n+capV (m - n) (l.getD i Sh.vl.nil))) (l.drop (i+1)):=by
 intro l i m n c h hi hn
 rw [h]
 have e:l.drop i=l.getD i Sh.vl.nil::l.drop (i+1):=by
  rw [List.getD_eq_getElem?_getD,List.getElem?_eq_getElem hi,Option.getD_some,List.drop_eq_getElem_cons hi]
 rw [e,Qb4,if_pos (by omega),Int.add_assoc,show m - n - capV (m - n) (l.getD i Sh.vl.nil)=m - (n+capV (m - n) (l.getD i Sh.vl.nil)) by omega]
theorem QhE {l:List Vw} {i:Nat} {m n c:Int} (h:c=n+Qb4 (m - n) (l.drop i)) (hi:¬ i<l.length∨¬ n≤m):c=n:=by
 rw [h]
 rcases hi with hi | hi
 · rw [List.drop_eq_nil_of_le (by omega),Qb4]; omega
 · cases hd:l.drop i with
   | nil=>rw [Qb4]; omega
   | cons t r=>rw [Qb4,if_neg (by omega)]; omega
theorem Qvh:∀ (l:List Bnd) (i:Nat) (m n:Int),capB m l=n+capB (m - n) (l.drop i)→i<l.length→n≤m→capB m l=(n+(1+((Bnd.name (l.getD i Sh.bnd.nil)).size / 8:Nat)+capV (m - n) (Bnd.value (l.getD i Sh.bnd.nil))))+capB (m - (n+(1+((Bnd.name (l.getD i Sh.bnd.nil)).size / 8:Nat)+capV (m - n) (Bnd.value (l.getD i Sh.bnd.nil))))) (l.drop (i+1)):=by
 intro l i m n h hi hn
 rw [h]
 have e:l.drop i=l.getD i Sh.bnd.nil::l.drop (i+1):=by
  rw [List.getD_eq_getElem?_getD,List.getElem?_eq_getElem hi,Option.getD_some,List.drop_eq_getElem_cons hi]
 rw [e,capB,if_pos (by omega),← Int.add_assoc,Int.sub_sub]
theorem Qkz {l:List Bnd} {i:Nat} {m n:Int} (h:capB m l=n+capB (m - n) (l.drop i)) (hi:¬ i<l.length∨¬ n≤m):capB m l=n:=by
 rw [h]
 rcases hi with hi | hi
 · rw [List.drop_eq_nil_of_le (by omega),capB]; omega
 · cases hd:l.drop i with
   | nil=>rw [capB]; omega
   | cons t r=>rw [capB,if_neg (by omega)]; omega
theorem Qvf:∀ (l:List Cn) (i:Nat) (m n:Int) (c:Int),c=n+capK (m - n) (l.drop i)→i<l.length→n≤m→c=(n+((1+(Cn.name (l.getD i Sh.con.nil)).size / 8+(Cn.fields (l.getD i Sh.con.nil)).length:Nat):Int))+capK (m - (n+((1+(Cn.name (l.getD i Sh.con.nil)).size / 8+(Cn.fields (l.getD i Sh.con.nil)).length:Nat):Int))) (l.drop (i+1)):=by
 intro l i m n c h hi hn
 rw [h]
 have e:l.drop i=l.getD i Sh.con.nil::l.drop (i+1):=by
  rw [List.getD_eq_getElem?_getD,List.getElem?_eq_getElem hi,Option.getD_some,List.drop_eq_getElem_cons hi]
 rw [e,capK,if_pos (by omega),Int.add_assoc,Int.sub_sub]
theorem Qkw {l:List Cn} {i:Nat} {m n c:Int} (h:c=n+capK (m - n) (l.drop i)) (hi:¬ i<l.length∨¬ n≤m):c=n:=by
 rw [h]
 rcases hi with hi | hi
 · rw [List.drop_eq_nil_of_le (by omega),capK]; omega
 · cases hd:l.drop i with
   | nil=>rw [capK]; omega
   | cons t r=>rw [capK,if_neg (by omega)]; omega
theorem Qvg:∀ (l:List Dat) (i:Nat) (m n:Int),capD m l=n+capD (m - n) (l.drop i)→i<l.length→n≤m→capD m l=(n+Qet (m - n) (l.getD i Sh.dat.nil))+capD (m - (n+Qet (m - n) (l.getD i Sh.dat.nil))) (l.drop (i+1)):=by
 intro l i m n h hi hn
 rw [h]
 have e:l.drop i=l.getD i Sh.dat.nil::l.drop (i+1):=by
  rw [List.getD_eq_getElem?_getD,List.getElem?_eq_getElem hi,Option.getD_some,List.drop_eq_getElem_cons hi]
 rw [e,capD,if_pos (by omega),Int.add_assoc,Int.sub_sub]
theorem Qkx {l:List Dat} {i:Nat} {m n:Int} (h:capD m l=n+capD (m - n) (l.drop i)) (hi:¬ i<l.length∨¬ n≤m):capD m l=n:=by
 rw [h]
 rcases hi with hi | hi
 · rw [List.drop_eq_nil_of_le (by omega),capD]; omega
 · cases hd:l.drop i with
   | nil=>rw [capD]; omega
   | cons t r=>rw [capD,if_neg (by omega)]; omega
theorem QgF:∀ l m:List Tw,QaF (l++m)=QaF l+QaF m
 | [],m=>by simp [QaF]
 | x::l,m=>by
  have:=QgF l m
  simp only [List.cons_append,QaF,this]
  omega
theorem Qhx (l:List Tw) (i:Nat):QaF (l.take i)≤QaF l:=by
 have:=QgF (l.take i) (l.drop i)
 rw [List.take_append_drop] at this
 omega
theorem QoA {l:List Tw} {i:Nat} (h:i<l.length):QaF (l.take (i+1))=QaF (l.take i)+cntT (l.getD i Sh.tm.nil):=by
 rw [List.take_add_one,QgF,List.getElem?_eq_getElem h,List.getD_eq_getElem?_getD,List.getElem?_eq_getElem h]
 simp only [Option.toList_some,Option.getD_some,QaF]
 omega
theorem QgE:∀ l m:List Vw,Qa5 (l++m)=Qa5 l+Qa5 m
 | [],m=>by simp [Qa5]
 | x::l,m=>by
  have:=QgE l m
  simp only [List.cons_append,Qa5,this]
  omega
theorem Qhv (l:List Vw) (i:Nat):Qa5 (l.take i)≤Qa5 l:=by
 have:=QgE (l.take i) (l.drop i)
 rw [List.take_append_drop] at this
 omega
theorem Qoz {l:List Vw} {i:Nat} (h:i<l.length):Qa5 (l.take (i+1))=Qa5 (l.take i)+cntV (l.getD i Sh.vl.nil):=by
 rw [List.take_add_one,QgE,List.getElem?_eq_getElem h,List.getD_eq_getElem?_getD,List.getElem?_eq_getElem h]
 simp only [Option.toList_some,Option.getD_some,Qa5]
 omega
theorem QiR:∀ l m:List Bnd,cntB (l++m)=cntB l+cntB m
 | [],m=>by simp [cntB]
 | x::l,m=>by
  have:=QiR l m
  simp only [List.cons_append,cntB,this]
  omega
theorem Qkp (l:List Bnd) (i:Nat):cntB (l.take i)≤cntB l:=by
 have:=QiR (l.take i) (l.drop i)
 rw [List.take_append_drop] at this
 omega
theorem Qq0 {l:List Bnd} {i:Nat} (h:i<l.length):cntB (l.take (i+1))=cntB (l.take i)+(1+(Bnd.name (l.getD i Sh.bnd.nil)).size / 8+cntV (Bnd.value (l.getD i Sh.bnd.nil))):=by
 rw [List.take_add_one,QiR,List.getElem?_eq_getElem h,List.getD_eq_getElem?_getD,List.getElem?_eq_getElem h]
 simp only [Option.toList_some,Option.getD_some,cntB]
 omega
theorem QiP:∀ l m:List Cn,cntK (l++m)=cntK l+cntK m
 | [],m=>by simp [cntK]
 | x::l,m=>by
  have:=QiP l m
  simp only [List.cons_append,cntK,this]
  omega
theorem Qkn (l:List Cn) (i:Nat):cntK (l.take i)≤cntK l:=by
 have:=QiP (l.take i) (l.drop i)
 rw [List.take_append_drop] at this
 omega
theorem QqY {l:List Cn} {i:Nat} (h:i<l.length):cntK (l.take (i+1))=cntK (l.take i)+(1+(Cn.name (l.getD i Sh.con.nil)).size / 8+(Cn.fields (l.getD i Sh.con.nil)).length):=by
 rw [List.take_add_one,QiP,List.getElem?_eq_getElem h,List.getD_eq_getElem?_getD,List.getElem?_eq_getElem h]
 simp only [Option.toList_some,Option.getD_some,cntK]
 omega
theorem QiQ:∀ l m:List Dat,cntD (l++m)=cntD l+cntD m
 | [],m=>by simp [cntD]
 | x::l,m=>by
  have:=QiQ l m
  simp only [List.cons_append,cntD,this]
  omega
theorem Qko (l:List Dat) (i:Nat):cntD (l.take i)≤cntD l:=by
 have:=QiQ (l.take i) (l.drop i)
 rw [List.take_append_drop] at this
 omega
theorem QqZ {l:List Dat} {i:Nat} (h:i<l.length):cntD (l.take (i+1))=cntD (l.take i)+(1+(Dat.name (l.getD i Sh.dat.nil)).size / 8+cntK (Dat.cons (l.getD i Sh.dat.nil))):=by
 rw [List.take_add_one,QiQ,List.getElem?_eq_getElem h,List.getD_eq_getElem?_getD,List.getElem?_eq_getElem h]
 simp only [Option.toList_some,Option.getD_some,cntD]
 omega
mutual
theorem Qkh:∀ v:Vw,v.size≤cntV v
 | .mk _ _ _ _ _ l=>by
  have:=Qhw l
  rw [Vw.size,cntV]; omega
theorem Qhw:∀ l:List Vw,szVL l≤Qa5 l
 | []=>Nat.le_refl _
 | v::l=>by
  have:=Qkh v
  have:=Qhw l
  rw [szVL,Qa5]; omega
end
mutual
theorem Qkk:∀ v:Tw,v.size≤cntT v
 | .mk _ _ _ _ l=>by
  have:=Qck l
  rw [Tw.size_eq,cntT]
  simp only [Tw.kids]; omega
theorem Qck:∀ l:List Tw,szL l≤QaF l
 | []=>by simp [szL]
 | v::l=>by
  have:=Qkk v
  have:=Qck l
  rw [szL,QaF]; omega
end
theorem Qq5 {l:List Dat} {i:Nat} {m n n':Int} (h:capD m l=n+capD (m - n) (l.drop i)) (hi:i<l.length) (hn:n≤m)
  (hk:(n+((1+(Dat.name (l.getD i Sh.dat.nil)).size / 8:Nat):Int))+capK (m - (n+((1+(Dat.name (l.getD i Sh.dat.nil)).size / 8:Nat):Int))) ((Dat.cons (l.getD i Sh.dat.nil)).drop 0)=n'):capD m l=n'+capD (m - n') (l.drop (i+1)):=by
 rw [Qvg l i m n h hi hn]
 have e:n+Qet (m - n) (l.getD i Sh.dat.nil)=n':=by
  unfold Qet
  rw [List.drop_zero] at hk
  rw [← hk,Int.add_assoc,Int.sub_sub]
 rw [e]
theorem Qfw:∀ l:List Cn,l.length≤cntK l
 | []=>Nat.le_refl _
 | t::l=>by
  have:=Qfw l
  simp only [List.length_cons,cntK]; omega
end Go.Proofs.YtemhncjjiomppaaGreatDoor
namespace Go.Proofs.YtemhncjjiomppaaGreatDoor
open Go.RowKit
set_option linter.unusedVariables false
set_option maxRecDepth 100000
theorem tupB {x x' y:PV} (h:SubB x x'):SubB (.tup [x,y]) (.tup [x',y]):=⟨fun H B v hv=>by
 cases hv with
 | tup hn hp =>
  refine .tup hn fun i u z hu hz=>?_
  match i,hz with
  | 0,hz=>cases hz; exact h.out H B u (hp 0 u x hu rfl)
  | 1,hz=>cases hz; exact hp 1 u y hu rfl
  | i+2,hz=>cases hz⟩
theorem endV {p:Prop} {D:List Dat} {B:List Bnd} {t:Tw} {z:Except Int Vw} {x:PV} {u:Vw} {e:Int} {ob:List PO} (h:evalT D B t=z) (hx:vlOf x=some u) (hu:u=valE z0V z) (he:e=errE z) :
  EndU 0 (Out.need p (Out.nm (Except Int Vw) (evalT D B t) fun z=>Out.ret (PV.tup [vlP (valE z0V z),iV (errE z)]) [])).fin true (PV.tup [x,iV e]) ob:=by
 subst h hu he
 exact Qaj (endU (ob:=[]) (r:=ob) rfl (tupB (Qbu hx)) rfl rfl rfl)
theorem Qfu (D:List Dat) (B:List Bnd) (t:Tw):evalT D B t=if t.kind=1∧t.kids.length=0 then varE D t.name B
  else if (QaQ t.kind).2=false then .error 23
  else if 0≤(QaQ t.kind).1∧¬ (t.kids.length:Int)=(QaQ t.kind).1 then .error 24
  else match evalL D B t.kids with
   | .error e=>.error e
   | .ok l=>if (opW D t l).2=true then .ok (opW D t l).1 else .error 23:=by
 cases t; rw [evalT]; rfl
theorem Qm7 {D:List Dat} {B:List Bnd} {t:Tw} (h:t.kind=1) (h0:t.kids.length=0):evalT D B t=varE D t.name B:=by
 rw [Qfu,if_pos ⟨h,h0⟩]
theorem QuZ {D:List Dat} {B:List Bnd} {t:Tw} (h:¬ (t.kind=1∧t.kids.length=0)) (h1:(QaQ t.kind).2=false):evalT D B t=.error 23:=by
 rw [Qfu,if_neg h,if_pos h1]
theorem Qu0 {D:List Dat} {B:List Bnd} {t:Tw} (h:¬ (t.kind=1∧t.kids.length=0)) (h1:(QaQ t.kind).2=true) (h2:0≤(QaQ t.kind).1) (h3:¬ (t.kids.length:Int)=(QaQ t.kind).1):evalT D B t=.error 24:=by
 rw [Qfu,if_neg h,if_neg (by rw [h1]; decide),if_pos ⟨h2,h3⟩]
def EvG (t:Tw):Prop:=¬ (t.kind=1∧t.kids.length=0)∧(QaQ t.kind).2=true∧(0≤(QaQ t.kind).1→(t.kids.length:Int)=(QaQ t.kind).1)
theorem QiH {D : List Dat} {B : List Bnd} {t : Tw} (h : EvG t) : evalT D B t = match evalL D B t.kids with
      | .error e=>.error e
      | .ok l=>if (opW D t l).2=true then .ok (opW D t l).1 else .error 23:=by
 rw [Qfu,if_neg h.1,if_neg (by rw [h.2.1]; decide),if_neg (fun c=>c.2 (h.2.2 c.1))]
theorem ev_err {D:List Dat} {B:List Bnd} {t:Tw} {e:Int} (h:EvG t) (hk:evalL D B t.kids=.error e):evalT D B t=.error e:=by
 rw [QiH h,hk]
theorem QcP {D:List Dat} {B:List Bnd} {t:Tw} {l:List Vw} {v:Vw} (h:EvG t) (hk:evalL D B t.kids=.ok l) (ho:opW D t l=(v,true)):evalT D B t=.ok v:=by
 rw [QiH h,hk]
 show (if (opW D t l).2=true then Except.ok (opW D t l).1 else .error 23)=_
 rw [ho]; rfl
theorem QgZ {D:List Dat} {B:List Bnd} {t:Tw} {l:List Vw} (h:EvG t) (hk:evalL D B t.kids=.ok l) (ho:(opW D t l).2=false):evalT D B t=.error 23:=by
 rw [QiH h,hk]
 show (if (opW D t l).2=true then Except.ok (opW D t l).1 else .error 23)=_
 rw [ho]; rfl
theorem Qht {D:List Dat} {B:List Bnd}:∀ {l:List Tw} {t:Tw} {m:List Vw} {v:Vw},evalL D B l=.ok m→evalT D B t=.ok v→evalL D B (l++[t])=.ok (m++[v])
 | [],t,m,v,h,h1=>by
  rw [evalL] at h; cases h
  rw [List.nil_append,evalL,h1]
  show (match evalL D B [] with | .error e=>Except.error e | .ok m=>.ok (v::m))=_
  rw [evalL]; rfl
 | u::l,t,m,v,h,h1=>by
  rw [evalL] at h
  split at h
  · cases h
  · rename_i w hw
    split at h
    · cases h
    · rename_i n hn
      cases h
      rw [List.cons_append,evalL,hw]
      show (match evalL D B (l++[t]) with | .error e=>Except.error e | .ok m=>.ok (w::m))=_
      rw [Qht hn h1]; rfl
theorem Qhs {D:List Dat} {B:List Bnd}:∀ {l:List Tw} {t:Tw} {r:List Tw} {m:List Vw} {e:Int},evalL D B l=.ok m→evalT D B t=.error e→evalL D B (l++t::r)=.error e
 | [],t,r,m,e,h,h1=>by rw [List.nil_append,evalL,h1]
 | u::l,t,r,m,e,h,h1=>by
  rw [evalL] at h
  split at h
  · cases h
  · rename_i w hw
    split at h
    · cases h
    · rename_i n hn
      rw [List.cons_append,evalL,hw]
      show (match evalL D B (l++t::r) with | .error e=>Except.error e | .ok m=>.ok (w::m))=_
      rw [Qhs hn h1]
theorem Qot {D:List Dat} {B:List Bnd} {l:List Tw} {i:Nat} {m:List Vw} {v:Vw} (h:evalL D B (l.take i)=.ok m) (hi:i<l.length) (h1:evalT D B (l.getD i Sh.tm.nil)=.ok v):evalL D B (l.take (i+1))=.ok (m++[v]):=by
 rw [List.take_add_one,List.getElem?_eq_getElem hi]
 rw [List.getD_eq_getElem?_getD,List.getElem?_eq_getElem hi] at h1
 exact Qht h h1
theorem Qou {D:List Dat} {B:List Bnd} {l:List Tw} {i:Nat} {m:List Vw} {e:Int} (h:evalL D B (l.take i)=.ok m) (hi:i<l.length) (h1:evalT D B (l.getD i Sh.tm.nil)=.error e):evalL D B l=.error e:=by
 rw [List.getD_eq_getElem?_getD,List.getElem?_eq_getElem hi] at h1
 have e1:l=l.take i++l[i]::l.drop (i+1):=by rw [List.getElem_cons_drop,List.take_append_drop]
 rw [e1]
 exact Qhs h h1
mutual
theorem Qj7 {D:List Dat} {B:List Bnd}:∀ {t:Tw} {e:Int},evalT D B t=.error e→e≠0
 | .mk k nm neg dg kids,e,h=>by
  rw [evalT] at h
  split at h
  · unfold varE at h
    revert h
    suffices hs:∀ (B:List Bnd) (r:Except Int Vw),(∀ e,r=.error e→e≠0)→∀ e,B.foldl (fun r b=>if b.name=nm then (if QcM D b.value=true then .ok b.value else .error 23) else r) r=.error e→e≠0 by
     exact hs B (.error 21) (fun e h=>by cases h; decide) e
    intro B
    induction B with
    | nil=>intro r hr e h; exact hr e h
    | cons b B ih =>
     intro r hr e h
     rw [List.foldl_cons] at h
     refine ih _ (fun e h=>?_) e h
     split at h
     · split at h
       · cases h
       · cases h; decide
     · exact hr e h
  · split at h
    · cases h; decide
    · split at h
      · cases h; decide
      · split at h
        · rename_i hl
          cases h
          exact Qj8 hl
        · split at h
          · cases h
          · cases h; decide
theorem Qj8 {D:List Dat} {B:List Bnd}:∀ {l:List Tw} {e:Int},evalL D B l=.error e→e≠0
 | [],e,h=>by rw [evalL] at h; cases h
 | t::l,e,h=>by
  rw [evalL] at h
  split at h
  · rename_i ht; cases h; exact Qj7 ht
  · split at h
    · rename_i hl; cases h; exact Qj8 hl
    · cases h
end
theorem ev_is {D:List Dat} {B:List Bnd} {t:Tw} {z:Except Int Vw} (hz:z=evalT D B t) (h:errE z=0):∃ v,z=.ok v:=by
 obtain e | v:=z
 · exact absurd h (Qj7 hz.symm)
 · exact ⟨v,rfl⟩
theorem Qti {D:List Dat} {B:List Bnd} {t:Tw} {z:Except Int Vw} (hz:z=evalT D B t) (h:¬ errE z=0):evalT D B t=.error (errE z):=by
 subst hz
 cases hz:evalT D B t with
 | error e=>rfl
 | ok v=>rw [hz] at h; exact absurd rfl h
theorem kt_eq {k n:Int} (h:(Kt.int .u8).eq k n=true):k=n:=Kt.eq_iff.1 h
theorem kt_ne {k n:Int} (h:(Kt.int .u8).eq k n=false):¬ k=n:=fun c=>by rw [Kt.eq_iff.2 c] at h; cases h
theorem QuA {D:List Dat} {t:Tw} {l:List Vw} (h:t.kind=2):opW D t l=(numV (zV t.neg t.digits),Qau t.neg t.digits):=by
 unfold opW; rw [h]; rfl
theorem opW_3 {D:List Dat} {t:Tw} {l:List Vw} (h:t.kind=3):opW D t l=(Qao true,true):=by
 unfold opW; rw [h]; rfl
theorem opW_4 {D:List Dat} {t:Tw} {l:List Vw} (h:t.kind=4):opW D t l=(Qao false,true):=by
 unfold opW; rw [h]; rfl
theorem Quz {D:List Dat} {t:Tw} {l:List Vw} (h:t.kind=5):opW D t l=(numV (sumW l 0),allV l 1):=by
 unfold opW; rw [h]; rfl
theorem Quy {D:List Dat} {t:Tw} {l:List Vw} (h:t.kind=6):opW D t l=(numV (QaP l 1 * zV t.neg t.digits),allV l 1 && Qau t.neg t.digits):=by
 unfold opW; rw [h]; rfl
theorem Qr5 {D:List Dat} {t:Tw} {l:List Vw} (h:t.kind=7):opW D t l=appV D t l:=by
 unfold opW; rw [h]; rfl
theorem Qp4 {D:List Dat} {t:Tw} {l:List Vw} (h:t.kind=8):opW D t l=(Qao (sameV (l.getD 0 Sh.vl.nil) (l.getD 1 Sh.vl.nil)),allV l 1 || allV l 3):=by
 unfold opW; rw [h]; rfl
theorem Qux {D:List Dat} {t:Tw} {l:List Vw} (h:t.kind=9):opW D t l=(Qao (decide (cmpI (zV (Vw.neg (l.getD 0 Sh.vl.nil)) (Vw.digits (l.getD 0 Sh.vl.nil))) (zV (Vw.neg (l.getD 1 Sh.vl.nil)) (Vw.digits (l.getD 1 Sh.vl.nil)))≤0)),allV l 1):=by
 unfold opW; rw [h]; rfl
theorem QmG {D:List Dat} {t:Tw} {l:List Vw} (h:t.kind=10):opW D t l=(Qao (!Vw.truth (l.getD 0 Sh.vl.nil)),allV l 2):=by
 unfold opW; rw [h]; rfl
theorem Qp5 {D:List Dat} {t:Tw} {l:List Vw} (h:t.kind=13):opW D t l=(Qao (Vw.truth (l.getD 0 Sh.vl.nil)==Vw.truth (l.getD 1 Sh.vl.nil)),allV l 2):=by
 unfold opW; rw [h]; rfl
theorem QmF {D:List Dat} {t:Tw} {l:List Vw} (h:t.kind=11):opW D t l=(Qao (Qbt l true),allV l 2):=by
 unfold opW; rw [h]; rfl
theorem QmE {D:List Dat} {t:Tw} {l:List Vw} (h:t.kind=12):opW D t l=(Qao (!Qbt l false),allV l 2):=by
 unfold opW; rw [h]; rfl
theorem QuH {k:Int} (h:(QaQ k).2=true) (h12:¬ k=12) (h11:¬ k=11) (h13:¬ k=13) (h10:¬ k=10) (h9:¬ k=9) (h8:¬ k=8) (h7:¬ k=7) (h6:¬ k=6) (h5:¬ k=5) (h4:¬ k=4) (h3:¬ k=3) (h2:¬ k=2) (h1:¬ k=1):False:=by
 have e:∀ n:Int,¬ k=n→(Kt.int .u8).eq k n=false:=fun n hn=>by
  cases hc:(Kt.int .u8).eq k n with
  | false=>rfl
  | true=>exact absurd (kt_eq hc) hn
 unfold QaQ at h
 simp only [QgX,e 12 h12,e 11 h11,e 5 h5,e 13 h13,e 9 h9,e 8 h8,e 10 h10,e 7 h7,e 6 h6,e 4 h4,e 3 h3,e 2 h2,e 1 h1] at h
 cases h
theorem ktT {k n:Int}:((Kt.int .u8).eq k n=true)=(k=n):=propext Kt.eq_iff
theorem ktF {k n:Int}:((Kt.int .u8).eq k n=false)=¬ k=n:=propext ⟨kt_ne,fun h=>by
 cases hc:(Kt.int .u8).eq k n with
 | false=>rfl
 | true=>exact absurd (kt_eq hc) h⟩
theorem Qrf {B:List Bnd} {i:Nat} (h:i<B.length):B.getD i Sh.bnd.nil∈B:=by
 rw [List.getD_eq_getElem?_getD,List.getElem?_eq_getElem h]
 exact List.getElem_mem h
theorem Qcv {t:Tw} (hG:EvG t) {k:Int} {n:Nat} (h:t.kind=k) (hk:(QaQ k).1=(n:Int)):t.kids.length=n:=by
 have:=hG.2.2 (by rw [h,hk]; omega)
 rw [h,hk] at this
 omega
theorem Qpg {m:Nat}:∀ {l:List Vw},(∀ v∈l,v.digits.length≤m)→sizV l≤l.length * (m+2)
 | [],_=>by simp [sizV]
 | v::l,h=>by
  have h1:=Qpg (l:=l) fun u hu=>h u (by simp [hu])
  have h2:=h v (by simp)
  simp only [sizV,List.length_cons,Nat.add_mul,Nat.one_mul]
  simp only [Nat.mul_add] at h1 ⊢
  omega
end Go.Proofs.YtemhncjjiomppaaGreatDoor
namespace Go.Proofs.YtemhncjjiomppaaGreatDoor
open Go.RowKit
set_option linter.unusedVariables false
set_option maxRecDepth 100000
def Qfg (n:Nat):Spec
 | [x,.f (.v (.int .i64 m))]=>match tmOf x with
  | some t=>some (some (2 * t.size<n∧cntT t≤4000000∧0≤m∧m≤4000000),.nm Int (capT m t) iV)
  | none=>none
 | _=>none
def QcX (n:Nat):Spec
 | [.f (.dt .tm l),.f (.v (.int .i64 m))]=>some (some (2 * szL l+1<n∧QaF l≤4000000∧-1≤m∧m≤4000000),.nm Int (QaY m l) iV)
 | _=>none
theorem QvL {E:Env} (hU:Up E):∀ n,Contract Tryz.prog E 67 (Qfg n)∧Contract Tryz.prog E 29 (QcX n)
 | 0=>by
  refine ⟨fun xs p r hs hp=>?_,fun xs p r hs hp=>?_⟩
  · unfold Qfg at hs
    split at hs
    · split at hs
      · cases hs
        exact absurd (hp _ rfl).1 (Nat.not_lt_zero _)
      · cases hs
    · cases hs
  · unfold QcX at hs
    split at hs
    · cases hs
      exact absurd (hp _ rfl).1 (Nat.not_lt_zero _)
    · cases hs
 | n+1=>by
  refine ⟨?_,?_⟩
  · refine Qad [(29,QcX n)] [] Tryz.ntmps67 Tryz.func67 (by kernel_rfl) (by kernel_rfl) hU ⟨(QvL hU n).2,trivial⟩ trivial ?_
    intro xs p r hs hp
    unfold Qfg at hs
    split at hs
    · rename_i x m
      split at hs
      · rename_i t ht
        cases hs
        obtain ⟨hn,hc,hm0,hm⟩:=hp _ rfl
        refine ⟨[tmP t,.f (.v (.int .i64 m))],[],.cons (QaS ht).sub (.cons (.refl _) .nil),rfl,fun _ hsh=>?_⟩
        refine Qab (p:=(2 * szL t.kids+1<n∧QaF t.kids≤4000000∧(-1:Int)≤IntKind.i64.wrap (m - (1:Int))∧IntKind.i64.wrap (m - (1:Int))≤(4000000:Int))∧∀ (z1:Int),z1=QaY (IntKind.i64.wrap (m - (1:Int))) t.kids→true=true∧Sub (iV (IntKind.i64.wrap (IntKind.i64.wrap (IntKind.i64.wrap ((1:Int)+IntKind.i64.wrap ((↑t.name.size:Int).tdiv (8:Int)))+(↑t.digits.length:Int))+z1))) (iV (capT m t))) ?kr ?_
        case kr=>kernel_rfl
        refine ⟨?s0,fun z1=>fun hz1=>⟨rfl,?m0⟩⟩
        all_goals have e1:IntKind.i64.wrap (m - 1)=m - 1:=wJ _ (by omega) (by omega)
        all_goals have q:=QqX t
        all_goals have q1:=t.size_eq
        all_goals have e8:((t.name.size:Int)).tdiv 8=((t.name.size / 8:Nat):Int):=(Int.ofNat_tdiv _ 8).symm
        all_goals have r:=Qes t.kids (m - 1)
        case s0=>rw [e1]; exact ⟨by omega,by omega,by omega,by omega⟩
        case m0 =>
         rw [e1] at hz1
         have p:=Qve m t
         refine (Qai ?_).sub
         rw [e8]
         simp (disch:=omega) only [wJ]
         omega
      · cases hs
    · cases hs
  · refine Qad [(67,Qfg n)] [] Tryz.ntmps29 Tryz.func29 (by kernel_rfl) (by kernel_rfl) hU ⟨(QvL hU n).1,trivial⟩ trivial ?_
    intro xs p r hs hp
    unfold QcX at hs
    split at hs
    · rename_i l m
      cases hs
      obtain ⟨hn,hc,hm0,hm⟩:=hp _ rfl
      refine ⟨[.f (.dt .tm l),.f (.v (.int .i64 m))],[(3,.s ⟨Nat × Int,fun y=>⟨[(0,.f (.dt .tm l)),(1,iV m),(5,iV y.2),(6,iV y.1)],[]⟩,fun y=>y.1≤l.length∧QaY m l=y.2+QaY (m - y.2) (l.drop y.1)∧0≤y.2∧y.2≤QaF (l.take y.1),fun y=>l.length - y.1⟩)],.cons (.refl _) (.cons (.refl _) .nil),rfl,fun _ hsh=>?_⟩
      have hl:=Qay hsh.1
      refine Qab (p:=∃ (x1:Nat × Int),(True∧rfB (dP Sh.tm l)∧rfB (iV m)∧SubB (iV 0) (iV x1.snd)∧SubB (iV 0) (iV (↑x1.fst:Int))∧True)∧(x1.fst≤l.length∧QaY m l=x1.snd+QaY (m - x1.snd) (List.drop x1.fst l)∧(0:Int)≤x1.snd∧x1.snd≤(↑(QaF (List.take x1.fst l)):Int))∧True∧∀ (z2:Nat × Int),z2.fst≤l.length∧QaY m l=z2.snd+QaY (m - z2.snd) (List.drop z2.fst l)∧(0:Int)≤z2.snd∧z2.snd≤(↑(QaF (List.take z2.fst l)):Int)→True→ifB (decide ((↑z2.fst:Int)<(↑l.length:Int))) (ifB (decide (z2.snd≤m)) (((0:Int)≤(↑z2.fst:Int)∧(↑z2.fst:Int)<(↑l.length:Int))∧(2 * (etaT (l.getD (↑z2.fst:Int).toNat Sh.tm.nil)).size<n∧cntT (etaT (l.getD (↑z2.fst:Int).toNat Sh.tm.nil))≤4000000∧(0:Int)≤IntKind.i64.wrap (m - z2.snd)∧IntKind.i64.wrap (m - z2.snd)≤(4000000:Int))∧∀ (z3:Int),z3=capT (IntKind.i64.wrap (m - z2.snd)) (etaT (l.getD (↑z2.fst:Int).toNat Sh.tm.nil))→∃ (x4:Nat × Int),(True∧rfB (dP Sh.tm l)∧rfB (iV m)∧SubB (iV (IntKind.i64.wrap (z2.snd+z3))) (iV x4.snd)∧SubB (iV (IntKind.i64.wrap ((↑z2.fst:Int)+(1:Int)))) (iV (↑x4.fst:Int))∧True)∧(x4.fst≤l.length∧QaY m l=x4.snd+QaY (m - x4.snd) (List.drop x4.fst l)∧(0:Int)≤x4.snd∧x4.snd≤(↑(QaF (List.take x4.fst l)):Int))∧True∧(l.length - x4.fst).succ.le (l.length - z2.fst)) (true=true∧Sub (iV z2.snd) (iV (QaY m l)))) (true=true∧Sub (iV z2.snd) (iV (QaY m l)))) ?kr ?_
      case kr=>kernel_rfl
      refine ⟨?x0,⟨⟨trivial,⟨.refl _,⟨.refl _,⟨?m0,⟨?m1,trivial⟩⟩⟩⟩⟩,⟨?s0,⟨trivial,fun z2=>fun hq0=>fun _=>Qaa.2 ⟨fun hb1=>Qaa.2 ⟨fun hb2=>⟨?s1,⟨?s2,fun z3=>fun hz3=>⟨?x1,⟨⟨trivial,⟨.refl _,⟨.refl _,⟨?m2,⟨?m3,trivial⟩⟩⟩⟩⟩,⟨?s3,⟨trivial,?m4⟩⟩⟩⟩⟩⟩,fun hb2=>⟨rfl,?m5⟩⟩,fun hb1=>⟨rfl,?m6⟩⟩⟩⟩⟩⟩
      all_goals try simp only [etaT] at *
      case x0=>exact (0,0)
      case x1=>exact (z2.1+1,z2.2+z3)
      all_goals try simp only [decide_eq_true_eq,decide_eq_false_iff_not,Int.toNat_natCast,Tw.eta] at *
      case m0=>exact .refl _
      case m1=>exact .refl _
      case s0=>exact ⟨Nat.zero_le _,by simp,by simp,by simp [QaF]⟩
      all_goals obtain ⟨q1,q2,q3,q4⟩:=hq0
      case m5=>exact (Qai (QhF q2 (.inr (by omega))).symm).sub
      case m6=>exact (Qai (QhF q2 (.inl (by omega))).symm).sub
      all_goals have hz:z2.1<l.length:=by omega
      all_goals have t1:=Qhx l z2.1
      all_goals have e1:IntKind.i64.wrap (m - z2.2)=m - z2.2:=wJ _ (by omega) (by omega)
      case s1=>omega
      case s2 =>
       have h1:=Ql8 hz
       rw [Qeg hz default Sh.tm.nil] at h1
       have h2:=Qnk Sh.tm.nil hz
       rw [e1]
       exact ⟨by omega,by omega,by omega,by omega⟩
      all_goals rw [e1] at hz3
      all_goals have r:=QiS (l.getD z2.1 Sh.tm.nil) (m - z2.2)
      all_goals have t2:=QoA hz
      all_goals have t3:=Qhx l (z2.1+1)
      case m2=>exact Qai (wJ _ (by omega) (by omega))
      case m3=>exact Qai (wJ _ (by omega) (by omega))
      case s3=>exact ⟨by omega,by subst hz3; exact QsE _ _ _ _ q2 hz (by omega),by show 0≤z2.2+z3; omega,by show z2.2+z3≤_; omega⟩
      case m4 =>
       have:l.length - (z2.1+1)<l.length - z2.1:=by omega
       exact this
    · cases hs
def QcW (n:Nat):Spec
 | [x,.f (.v (.int .i64 m))]=>match vlOf x with
  | some t=>some (some (t.size<n∧cntV t≤4000000∧0≤m∧m≤4000000),.nm Int (capV m t) iV)
  | none=>none
 | _=>none
theorem QkA {E:Env} (hU:Up E):∀ n,Contract Tryz.prog E 48 (QcW n)
 | 0=>by
  intro xs p r hs hp
  unfold QcW at hs
  split at hs
  · split at hs
    · cases hs
      exact absurd (hp _ rfl).1 (Nat.not_lt_zero _)
    · cases hs
  · cases hs
 | n+1=>by
  refine Qad [(48,QcW n)] [] Tryz.ntmps48 Tryz.func48 (by kernel_rfl) (by kernel_rfl) hU ⟨QkA hU n,trivial⟩ trivial ?_
  intro xs p r hs hp
  unfold QcW at hs
  split at hs
  · rename_i x m
    split at hs
    · rename_i t ht
      cases hs
      obtain ⟨hn,hc,hm0,hm⟩:=hp _ rfl
      refine ⟨[vlP t,.f (.v (.int .i64 m))],[(3,.s ⟨Nat × Int,fun y=>⟨[(1,iV m),(2,.bp 0 0),(5,iV y.2),(6,iV y.1)],[.cells (Qac (vlC t))]⟩,fun y=>y.1≤t.fields.length∧capV m t=y.2+Qb4 (m - y.2) (t.fields.drop y.1)∧0≤y.2∧y.2≤((1+t.digits.length+t.name.size / 8+Qa5 (t.fields.take y.1):Nat):Int),fun y=>t.fields.length - y.1⟩)],.cons (Qbu ht).sub (.cons (.refl _) .nil),rfl,fun _ hsh=>?_⟩
      refine Qab (p:=∃ (x1:Nat × Int),(((rfB (uV t.kind)∧rfB (bV t.neg)∧rfB (PV.f (Lf.lr t.digits t.digits.length))∧rfB (bV t.truth)∧rfB (sV t.name)∧rfB (dP Sh.vl t.fields)∧True)∧True)∧rfB (iV m)∧rfB (PV.bp 0 0)∧SubB (iV (IntKind.i64.wrap (IntKind.i64.wrap ((1:Int)+(↑t.digits.length:Int))+IntKind.i64.wrap ((↑t.name.size:Int).tdiv (8:Int))))) (iV x1.snd)∧SubB (iV 0) (iV (↑x1.fst:Int))∧True)∧(x1.fst≤t.fields.length∧capV m t=x1.snd+Qb4 (m - x1.snd) (List.drop x1.fst t.fields)∧(0:Int)≤x1.snd∧x1.snd≤(↑(1+t.digits.length+t.name.size / 8+Qa5 (List.take x1.fst t.fields)):Int))∧True∧∀ (z2:Nat × Int),z2.fst≤t.fields.length∧capV m t=z2.snd+Qb4 (m - z2.snd) (List.drop z2.fst t.fields)∧(0:Int)≤z2.snd∧z2.snd≤(↑(1+t.digits.length+t.name.size / 8+Qa5 (List.take z2.fst t.fields)):Int)→True→ifB (decide ((↑z2.fst:Int)<(↑t.fields.length:Int))) (ifB (decide (z2.snd≤m)) (((0:Int)≤(↑z2.fst:Int)∧(↑z2.fst:Int)<(↑t.fields.length:Int))∧((etaV (t.fields.getD (↑z2.fst:Int).toNat Sh.vl.nil)).size<n∧cntV (etaV (t.fields.getD (↑z2.fst:Int).toNat Sh.vl.nil))≤4000000∧(0:Int)≤IntKind.i64.wrap (m - z2.snd)∧IntKind.i64.wrap (m - z2.snd)≤(4000000:Int))∧∀ (z3:Int),z3=capV (IntKind.i64.wrap (m - z2.snd)) (etaV (t.fields.getD (↑z2.fst:Int).toNat Sh.vl.nil))→∃ (x4:Nat × Int),(((rfB (uV t.kind)∧rfB (bV t.neg)∧rfB (PV.f (Lf.lr t.digits t.digits.length))∧rfB (bV t.truth)∧rfB (sV t.name)∧rfB (dP Sh.vl t.fields)∧True)∧True)∧rfB (iV m)∧rfB (PV.bp 0 0)∧SubB (iV (IntKind.i64.wrap (z2.snd+z3))) (iV x4.snd)∧SubB (iV (IntKind.i64.wrap ((↑z2.fst:Int)+(1:Int)))) (iV (↑x4.fst:Int))∧True)∧(x4.fst≤t.fields.length∧capV m t=x4.snd+Qb4 (m - x4.snd) (List.drop x4.fst t.fields)∧(0:Int)≤x4.snd∧x4.snd≤(↑(1+t.digits.length+t.name.size / 8+Qa5 (List.take x4.fst t.fields)):Int))∧True∧(t.fields.length - x4.fst).succ.le (t.fields.length - z2.fst)) (true=true∧Sub (iV z2.snd) (iV (capV m t)))) (true=true∧Sub (iV z2.snd) (iV (capV m t)))) ?kr ?_
      case kr=>kernel_rfl
      refine ⟨?x0,⟨⟨⟨⟨.refl _,⟨.refl _,⟨.refl _,⟨.refl _,⟨.refl _,⟨.refl _,trivial⟩⟩⟩⟩⟩⟩,trivial⟩,⟨.refl _,⟨.refl _,⟨?m0,⟨?m1,trivial⟩⟩⟩⟩⟩,⟨?s0,⟨trivial,fun z2=>fun hq0=>fun _=>Qaa.2 ⟨fun hb1=>Qaa.2 ⟨fun hb2=>⟨?s1,⟨?s2,fun z3=>fun hz3=>⟨?x1,⟨⟨⟨⟨.refl _,⟨.refl _,⟨.refl _,⟨.refl _,⟨.refl _,⟨.refl _,trivial⟩⟩⟩⟩⟩⟩,trivial⟩,⟨.refl _,⟨.refl _,⟨?m2,⟨?m3,trivial⟩⟩⟩⟩⟩,⟨?s3,⟨trivial,?m4⟩⟩⟩⟩⟩⟩,fun hb2=>⟨rfl,?m5⟩⟩,fun hb1=>⟨rfl,?m6⟩⟩⟩⟩⟩⟩
      all_goals try simp only [etaV] at *
      all_goals have q:=QqW t
      all_goals have p:=Qvd m t
      have qs:=t.size_eq
      all_goals have e8:((t.name.size:Int)).tdiv 8=((t.name.size / 8:Nat):Int):=(Int.ofNat_tdiv _ 8).symm
      all_goals have hln:=QgD t.fields
      case x0=>exact (0,((1+t.digits.length+t.name.size / 8:Nat):Int))
      case x1=>exact (z2.1+1,z2.2+z3)
      all_goals try simp only [decide_eq_true_eq,decide_eq_false_iff_not,Int.toNat_natCast,Vw.eta] at *
      case m0 =>
       refine Qai ?_
       rw [e8]
       simp (disch:=omega) only [wJ]
       omega
      case m1=>exact .refl _
      case s0=>exact ⟨Nat.zero_le _,by simpa using p,by show (0:Int)≤((1+t.digits.length+t.name.size / 8:Nat):Int); omega,by simp [Qa5]⟩
      all_goals obtain ⟨q1,q2,q3,q4⟩:=hq0
      case m5=>exact (Qai (QhE q2 (.inr (by omega))).symm).sub
      case m6=>exact (Qai (QhE q2 (.inl (by omega))).symm).sub
      all_goals have hz:z2.1<t.fields.length:=by omega
      all_goals have t1:=Qhv t.fields z2.1
      all_goals have e1:IntKind.i64.wrap (m - z2.2)=m - z2.2:=wJ _ (by omega) (by omega)
      case s1=>omega
      case s2 =>
       have h1:=QiB Sh.vl.nil hz
       have h2:=Qnj Sh.vl.nil hz
       rw [e1]
       exact ⟨by omega,by omega,by omega,by omega⟩
      all_goals rw [e1] at hz3
      all_goals have r:=Qdz (t.fields.getD z2.1 Sh.vl.nil) (m - z2.2)
      all_goals have t2:=Qoz hz
      all_goals have t3:=Qhv t.fields (z2.1+1)
      case m2=>exact Qai (wJ _ (by omega) (by omega))
      case m3=>exact Qai (wJ _ (by omega) (by omega))
      case s3=>exact ⟨by omega,by subst hz3; exact QsD _ _ _ _ _ q2 hz (by omega),by show 0≤z2.2+z3; omega,by show z2.2+z3≤_; omega⟩
      case m4 =>
       have:t.fields.length - (z2.1+1)<t.fields.length - z2.1:=by omega
       exact this
    · cases hs
  · cases hs
def QfN:Spec
 | [.f (.dt .bnd l),.f (.v (.int .i64 m))]=>some (some (cntB l≤4000000∧0≤m∧m≤4000000),.nm Int (capB m l) iV)
 | _=>none
theorem Qrc {E:Env} (hU:Up E):Contract Tryz.prog E 17 QfN:=by
 refine Qad [(48,QcW 5000000)] [] Tryz.ntmps17 Tryz.func17 (by kernel_rfl) (by kernel_rfl) hU ⟨QkA hU _,trivial⟩ trivial ?_
 intro xs p r hs hp
 unfold QfN at hs
 split at hs
 · rename_i l m
   cases hs
   obtain ⟨hc,hm0,hm⟩:=hp _ rfl
   refine ⟨[.f (.dt .bnd l),.f (.v (.int .i64 m))],[(3,.s ⟨Nat × Int,fun y=>⟨[(0,.f (.dt .bnd l)),(1,iV m),(5,iV y.2),(6,iV y.1)],[]⟩,fun y=>y.1≤l.length∧capB m l=y.2+capB (m - y.2) (l.drop y.1)∧0≤y.2∧y.2≤cntB (l.take y.1),fun y=>l.length - y.1⟩)],.cons (.refl _) (.cons (.refl _) .nil),rfl,fun _ hsh=>?_⟩
   have hl:=Qay hsh.1
   refine Qab (p:=∃ (x1:Nat × Int),(True∧rfB (dP Sh.bnd l)∧rfB (iV m)∧SubB (iV 0) (iV x1.snd)∧SubB (iV 0) (iV (↑x1.fst:Int))∧True)∧(x1.fst≤l.length∧capB m l=x1.snd+capB (m - x1.snd) (List.drop x1.fst l)∧(0:Int)≤x1.snd∧x1.snd≤(↑(cntB (List.take x1.fst l)):Int))∧True∧∀ (z2:Nat × Int),z2.fst≤l.length∧capB m l=z2.snd+capB (m - z2.snd) (List.drop z2.fst l)∧(0:Int)≤z2.snd∧z2.snd≤(↑(cntB (List.take z2.fst l)):Int)→True→ifB (decide ((↑z2.fst:Int)<(↑l.length:Int))) (ifB (decide (z2.snd≤m)) (((0:Int)≤(↑z2.fst:Int)∧(↑z2.fst:Int)<(↑l.length:Int))∧((0:Int)≤(↑z2.fst:Int)∧(↑z2.fst:Int)<(↑l.length:Int))∧((etaV ((l.getD (↑z2.fst:Int).toNat Sh.bnd.nil).value)).size<5000000∧cntV (etaV ((l.getD (↑z2.fst:Int).toNat Sh.bnd.nil).value))≤4000000∧(0:Int)≤IntKind.i64.wrap (m - z2.snd)∧IntKind.i64.wrap (m - z2.snd)≤(4000000:Int))∧∀ (z3:Int),z3=capV (IntKind.i64.wrap (m - z2.snd)) (etaV ((l.getD (↑z2.fst:Int).toNat Sh.bnd.nil).value))→∃ (x4:Nat × Int),(True∧rfB (dP Sh.bnd l)∧rfB (iV m)∧SubB (iV (IntKind.i64.wrap (IntKind.i64.wrap (IntKind.i64.wrap (z2.snd+(1:Int))+IntKind.i64.wrap ((↑(l.getD (↑z2.fst:Int).toNat Sh.bnd.nil).name.size:Int).tdiv (8:Int)))+z3))) (iV x4.snd)∧SubB (iV (IntKind.i64.wrap ((↑z2.fst:Int)+(1:Int)))) (iV (↑x4.fst:Int))∧True)∧(x4.fst≤l.length∧capB m l=x4.snd+capB (m - x4.snd) (List.drop x4.fst l)∧(0:Int)≤x4.snd∧x4.snd≤(↑(cntB (List.take x4.fst l)):Int))∧True∧(l.length - x4.fst).succ.le (l.length - z2.fst)) (true=true∧Sub (iV z2.snd) (iV (capB m l)))) (true=true∧Sub (iV z2.snd) (iV (capB m l)))) ?kr ?_
   case kr=>kernel_rfl
   refine ⟨?x0,⟨⟨trivial,⟨.refl _,⟨.refl _,⟨?m0,⟨?m1,trivial⟩⟩⟩⟩⟩,⟨?s0,⟨trivial,fun z2=>fun hq0=>fun _=>Qaa.2 ⟨fun hb1=>Qaa.2 ⟨fun hb2=>⟨?s1,⟨?s2,⟨?s3,fun z3=>fun hz3=>⟨?x1,⟨⟨trivial,⟨.refl _,⟨.refl _,⟨?m2,⟨?m3,trivial⟩⟩⟩⟩⟩,⟨?s4,⟨trivial,?m4⟩⟩⟩⟩⟩⟩⟩,fun hb2=>⟨rfl,?m5⟩⟩,fun hb1=>⟨rfl,?m6⟩⟩⟩⟩⟩⟩
   all_goals try simp only [etaV] at *
   case x0=>exact (0,0)
   case x1=>exact (z2.1+1,z2.2+(1+((Bnd.name (l.getD z2.1 Sh.bnd.nil)).size / 8:Nat)+z3))
   all_goals try simp only [decide_eq_true_eq,decide_eq_false_iff_not,Int.toNat_natCast,Vw.eta] at *
   case m0=>exact .refl _
   case m1=>exact .refl _
   case s0=>exact ⟨Nat.zero_le _,by simp,by simp,by simp [cntB]⟩
   all_goals obtain ⟨q1,q2,q3,q4⟩:=hq0
   case m5=>exact (Qai (Qkz q2 (.inr (by omega))).symm).sub
   case m6=>exact (Qai (Qkz q2 (.inl (by omega))).symm).sub
   all_goals have hz:z2.1<l.length:=by omega
   all_goals have t1:=Qkp l z2.1
   all_goals have e1:IntKind.i64.wrap (m - z2.2)=m - z2.2:=wJ _ (by omega) (by omega)
   all_goals have t2:=Qq0 hz
   all_goals have t3:=Qkp l (z2.1+1)
   case s1=>omega
   case s2=>omega
   case s3 =>
    have h1:=Qkh (Bnd.value (l.getD z2.1 Sh.bnd.nil))
    rw [e1]
    exact ⟨by omega,by omega,by omega,by omega⟩
   all_goals rw [e1] at hz3
   all_goals have r:=Qdz (Bnd.value (l.getD z2.1 Sh.bnd.nil)) (m - z2.2)
   all_goals have e8:(((Bnd.name (l.getD z2.1 Sh.bnd.nil)).size:Int)).tdiv 8=(((Bnd.name (l.getD z2.1 Sh.bnd.nil)).size / 8:Nat):Int):=(Int.ofNat_tdiv _ 8).symm
   case m2 =>
    refine Qai ?_
    rw [e8]
    simp (disch:=omega) only [wJ]
    omega
   case m3=>exact Qai (wJ _ (by omega) (by omega))
   case s4=>exact ⟨by omega,by subst hz3; exact Qvh _ _ _ _ q2 hz (by omega),by show 0≤z2.2+(1+((Bnd.name (l.getD z2.1 Sh.bnd.nil)).size / 8:Nat)+z3); omega,by show z2.2+(1+((Bnd.name (l.getD z2.1 Sh.bnd.nil)).size / 8:Nat)+z3)≤_; omega⟩
   case m4 =>
    have:l.length - (z2.1+1)<l.length - z2.1:=by omega
    exact this
 · cases hs
def Qh9:Spec
 | [.f (.dt .dat l),.f (.v (.int .i64 m))]=>some (some (cntD l≤4000000∧0≤m∧m≤4000000),.nm Int (capD m l) iV)
 | _=>none
theorem QsM {E:Env} (hU:Up E):Contract Tryz.prog E 16 Qh9:=by
 refine Qad [] [] Tryz.ntmps16 Tryz.func16 (by kernel_rfl) (by kernel_rfl) hU trivial trivial ?_
 intro xs p r hs hp
 unfold Qh9 at hs
 split at hs
 · rename_i l m
   cases hs
   obtain ⟨hc,hm0,hm⟩:=hp _ rfl
   refine ⟨[.f (.dt .dat l),.f (.v (.int .i64 m))],[(3,.s ⟨Nat × Int,fun y=>⟨[(0,.f (.dt .dat l)),(1,iV m),(5,iV y.2),(6,iV y.1)],[]⟩,fun y=>y.1≤l.length∧capD m l=y.2+capD (m - y.2) (l.drop y.1)∧0≤y.2∧y.2≤cntD (l.take y.1),fun y=>l.length - y.1⟩),
    (7,⟨Nat × Nat × Int,fun y=>⟨[(0,.f (.dt .dat l)),(1,iV m),(5,iV y.2.2),(6,iV y.1),(7,iV y.2.1)],[]⟩,fun y=>y.1<l.length∧y.2.1≤(Dat.cons (l.getD y.1 Sh.dat.nil)).length∧0≤y.2.2∧y.2.2≤((cntD (l.take y.1)+1+(Dat.name (l.getD y.1 Sh.dat.nil)).size / 8+cntK ((Dat.cons (l.getD y.1 Sh.dat.nil)).take y.2.1):Nat):Int),fun y=>(Dat.cons (l.getD y.1 Sh.dat.nil)).length - y.2.1,fun x y=>y.1=x.1∧x.2.2+capK (m - x.2.2) ((Dat.cons (l.getD x.1 Sh.dat.nil)).drop x.2.1)=y.2.2+capK (m - y.2.2) ((Dat.cons (l.getD x.1 Sh.dat.nil)).drop y.2.1)⟩)],.cons (.refl _) (.cons (.refl _) .nil),rfl,fun _ hsh=>?_⟩
   have hl:=Qay hsh.1
   refine Qab (p:=∃ (x1:Nat × Int),(True∧rfB (dP Sh.dat l)∧rfB (iV m)∧SubB (iV 0) (iV x1.snd)∧SubB (iV 0) (iV (↑x1.fst:Int))∧True)∧(x1.fst≤l.length∧capD m l=x1.snd+capD (m - x1.snd) (List.drop x1.fst l)∧(0:Int)≤x1.snd∧x1.snd≤(↑(cntD (List.take x1.fst l)):Int))∧True∧∀ (z2:Nat × Int),z2.fst≤l.length∧capD m l=z2.snd+capD (m - z2.snd) (List.drop z2.fst l)∧(0:Int)≤z2.snd∧z2.snd≤(↑(cntD (List.take z2.fst l)):Int)→True→ifB (decide ((↑z2.fst:Int)<(↑l.length:Int))) (ifB (decide (z2.snd≤m)) (((0:Int)≤(↑z2.fst:Int)∧(↑z2.fst:Int)<(↑l.length:Int))∧∃ (x3:Nat × Nat × Int),(True∧rfB (dP Sh.dat l)∧rfB (iV m)∧SubB (iV (IntKind.i64.wrap (IntKind.i64.wrap (z2.snd+(1:Int))+IntKind.i64.wrap ((↑(l.getD (↑z2.fst:Int).toNat Sh.dat.nil).name.size:Int).tdiv (8:Int))))) (iV x3.snd.snd)∧SubB (iV (↑z2.fst:Int)) (iV (↑x3.fst:Int))∧SubB (iV 0) (iV (↑x3.snd.fst:Int))∧True)∧(x3.fst<l.length∧x3.snd.fst≤(l.getD x3.fst Sh.dat.nil).cons.length∧(0:Int)≤x3.snd.snd∧x3.snd.snd≤(↑(cntD (List.take x3.fst l)+1+(l.getD x3.fst Sh.dat.nil).name.size / 8+cntK (List.take x3.snd.fst (l.getD x3.fst Sh.dat.nil).cons)):Int))∧(x3.fst=x3.fst∧x3.snd.snd+capK (m - x3.snd.snd) (List.drop x3.snd.fst (l.getD x3.fst Sh.dat.nil).cons)=x3.snd.snd+capK (m - x3.snd.snd) (List.drop x3.snd.fst (l.getD x3.fst Sh.dat.nil).cons))∧∀ (z4:Nat × Nat × Int),z4.fst<l.length∧z4.snd.fst≤(l.getD z4.fst Sh.dat.nil).cons.length∧(0:Int)≤z4.snd.snd∧z4.snd.snd≤(↑(cntD (List.take z4.fst l)+1+(l.getD z4.fst Sh.dat.nil).name.size / 8+cntK (List.take z4.snd.fst (l.getD z4.fst Sh.dat.nil).cons)):Int)→z4.fst=x3.fst∧x3.snd.snd+capK (m - x3.snd.snd) (List.drop x3.snd.fst (l.getD x3.fst Sh.dat.nil).cons)=z4.snd.snd+capK (m - z4.snd.snd) (List.drop z4.snd.fst (l.getD x3.fst Sh.dat.nil).cons)→((0:Int)≤(↑z4.fst:Int)∧(↑z4.fst:Int)<(↑l.length:Int))∧ifB (decide ((↑z4.snd.fst:Int)<(↑(l.getD (↑z4.fst:Int).toNat Sh.dat.nil).cons.length:Int))) (ifB (decide (z4.snd.snd≤m)) (((0:Int)≤(↑z4.fst:Int)∧(↑z4.fst:Int)<(↑l.length:Int))∧((0:Int)≤(↑z4.snd.fst:Int)∧(↑z4.snd.fst:Int)<(↑(l.getD (↑z4.fst:Int).toNat Sh.dat.nil).cons.length:Int))∧((0:Int)≤(↑z4.fst:Int)∧(↑z4.fst:Int)<(↑l.length:Int))∧((0:Int)≤(↑z4.snd.fst:Int)∧(↑z4.snd.fst:Int)<(↑(l.getD (↑z4.fst:Int).toNat Sh.dat.nil).cons.length:Int))∧∃ (x5:Nat × Nat × Int),(True∧rfB (dP Sh.dat l)∧rfB (iV m)∧SubB (iV (IntKind.i64.wrap (IntKind.i64.wrap (IntKind.i64.wrap (z4.snd.snd+(1:Int))+IntKind.i64.wrap ((↑((l.getD (↑z4.fst:Int).toNat Sh.dat.nil).cons.getD (↑z4.snd.fst:Int).toNat Sh.con.nil).name.size:Int).tdiv (8:Int)))+(↑((l.getD (↑z4.fst:Int).toNat Sh.dat.nil).cons.getD (↑z4.snd.fst:Int).toNat Sh.con.nil).fields.length:Int)))) (iV x5.snd.snd)∧SubB (iV (↑z4.fst:Int)) (iV (↑x5.fst:Int))∧SubB (iV (IntKind.i64.wrap ((↑z4.snd.fst:Int)+(1:Int)))) (iV (↑x5.snd.fst:Int))∧True)∧(x5.fst<l.length∧x5.snd.fst≤(l.getD x5.fst Sh.dat.nil).cons.length∧(0:Int)≤x5.snd.snd∧x5.snd.snd≤(↑(cntD (List.take x5.fst l)+1+(l.getD x5.fst Sh.dat.nil).name.size / 8+cntK (List.take x5.snd.fst (l.getD x5.fst Sh.dat.nil).cons)):Int))∧(x5.fst=x3.fst∧x3.snd.snd+capK (m - x3.snd.snd) (List.drop x3.snd.fst (l.getD x3.fst Sh.dat.nil).cons)=x5.snd.snd+capK (m - x5.snd.snd) (List.drop x5.snd.fst (l.getD x3.fst Sh.dat.nil).cons))∧((l.getD x5.fst Sh.dat.nil).cons.length - x5.snd.fst).succ.le ((l.getD z4.fst Sh.dat.nil).cons.length - z4.snd.fst)) (∃ (x5:Nat × Int),(True∧rfB (dP Sh.dat l)∧rfB (iV m)∧SubB (iV z4.snd.snd) (iV x5.snd)∧SubB (iV (IntKind.i64.wrap ((↑z4.fst:Int)+(1:Int)))) (iV (↑x5.fst:Int))∧True)∧(x5.fst≤l.length∧capD m l=x5.snd+capD (m - x5.snd) (List.drop x5.fst l)∧(0:Int)≤x5.snd∧x5.snd≤(↑(cntD (List.take x5.fst l)):Int))∧True∧(l.length - x5.fst).succ.le (l.length - z2.fst))) (∃ (x5:Nat × Int),(True∧rfB (dP Sh.dat l)∧rfB (iV m)∧SubB (iV z4.snd.snd) (iV x5.snd)∧SubB (iV (IntKind.i64.wrap ((↑z4.fst:Int)+(1:Int)))) (iV (↑x5.fst:Int))∧True)∧(x5.fst≤l.length∧capD m l=x5.snd+capD (m - x5.snd) (List.drop x5.fst l)∧(0:Int)≤x5.snd∧x5.snd≤(↑(cntD (List.take x5.fst l)):Int))∧True∧(l.length - x5.fst).succ.le (l.length - z2.fst))) (true=true∧Sub (iV z2.snd) (iV (capD m l)))) (true=true∧Sub (iV z2.snd) (iV (capD m l)))) ?kr ?_
   case kr=>kernel_rfl
   refine ⟨?x0,⟨⟨trivial,⟨.refl _,⟨.refl _,⟨?m0,⟨?m1,trivial⟩⟩⟩⟩⟩,⟨?s0,⟨trivial,fun z2=>fun hq0=>fun _=>Qaa.2 ⟨fun hb1=>Qaa.2 ⟨fun hb2=>⟨?s1,⟨?x1,⟨⟨trivial,⟨.refl _,⟨.refl _,⟨?m2,⟨?m3,⟨?m4,trivial⟩⟩⟩⟩⟩⟩,⟨?s2,⟨⟨rfl,rfl⟩,fun z4=>fun hq3=>fun hq4=>⟨?s3,Qaa.2 ⟨fun hb5=>Qaa.2 ⟨fun hb6=>⟨?s4,⟨?s5,⟨?s6,⟨?s7,⟨?x2,⟨⟨trivial,⟨.refl _,⟨.refl _,⟨?m5,⟨?m6,⟨?m7,trivial⟩⟩⟩⟩⟩⟩,⟨?s8,⟨?s9,?m8⟩⟩⟩⟩⟩⟩⟩⟩,fun hb6=>⟨?x3,⟨⟨trivial,⟨.refl _,⟨.refl _,⟨?m9,⟨?m10,trivial⟩⟩⟩⟩⟩,⟨?s10,⟨trivial,?m11⟩⟩⟩⟩⟩,fun hb5=>⟨?x4,⟨⟨trivial,⟨.refl _,⟨.refl _,⟨?m12,⟨?m13,trivial⟩⟩⟩⟩⟩,⟨?s11,⟨trivial,?m14⟩⟩⟩⟩⟩⟩⟩⟩⟩⟩⟩,fun hb2=>⟨rfl,?m15⟩⟩,fun hb1=>⟨rfl,?m16⟩⟩⟩⟩⟩⟩
   case x0=>exact (0,0)
   case x1=>exact (z2.1,0,z2.2+((1+(Dat.name (l.getD z2.1 Sh.dat.nil)).size / 8:Nat):Int))
   case x2=>exact (z4.1,z4.2.1+1,z4.2.2+((1+(Cn.name ((Dat.cons (l.getD z4.1 Sh.dat.nil)).getD z4.2.1 Sh.con.nil)).size / 8+(Cn.fields ((Dat.cons (l.getD z4.1 Sh.dat.nil)).getD z4.2.1 Sh.con.nil)).length:Nat):Int))
   case x3=>exact (z4.1+1,z4.2.2)
   case x4=>exact (z4.1+1,z4.2.2)
   all_goals try simp only [decide_eq_true_eq,decide_eq_false_iff_not,Int.toNat_natCast] at *
   case m0=>exact .refl _
   case m1=>exact .refl _
   case m3=>exact .refl _
   case m4=>exact .refl _
   case m6=>exact .refl _
   case m9=>exact .refl _
   case m12=>exact .refl _
   case s0=>exact ⟨Nat.zero_le _,by simp,by simp,by simp [cntD]⟩
   all_goals obtain ⟨q1,q2,q3,q4⟩:=hq0
   case m15=>exact (Qai (Qkx q2 (.inr (by omega))).symm).sub
   case m16=>exact (Qai (Qkx q2 (.inl (by omega))).symm).sub
   all_goals have hz:z2.1<l.length:=by omega
   all_goals have t1:=Qko l z2.1
   all_goals have t2:=QqZ hz
   all_goals have t3:=Qko l (z2.1+1)
   all_goals have e8:(((Dat.name (l.getD z2.1 Sh.dat.nil)).size:Int)).tdiv 8=(((Dat.name (l.getD z2.1 Sh.dat.nil)).size / 8:Nat):Int):=(Int.ofNat_tdiv _ 8).symm
   case s1=>omega
   case m2 =>
    refine Qai ?_
    rw [e8]
    simp (disch:=omega) only [wJ]
    omega
   case s2=>exact ⟨hz,Nat.zero_le _,by show 0≤z2.2+((1+(Dat.name (l.getD z2.1 Sh.dat.nil)).size / 8:Nat):Int); omega,by simp only [List.take_zero,cntK]; omega⟩
   all_goals obtain ⟨p0,p1,p2,p3⟩:=hq3
   all_goals obtain ⟨r0,r1⟩:=hq4
   all_goals have r0:z4.1=z2.1:=r0
   all_goals simp only [r0] at *
   all_goals have u1:=Qkn (Dat.cons (l.getD z2.1 Sh.dat.nil)) z4.2.1
   case s3=>omega
   case s4=>omega
   case s6=>omega
   case m10=>exact Qai (wJ _ (by omega) (by omega))
   case m13=>exact Qai (wJ _ (by omega) (by omega))
   case m11 =>
    have:l.length - (z2.1+1)<l.length - z2.1:=by omega
    exact this
   case m14 =>
    have:l.length - (z2.1+1)<l.length - z2.1:=by omega
    exact this
   case s10=>exact ⟨by show z2.1+1≤_; omega,Qq5 q2 hz (by omega) (r1.trans (Qkw rfl (.inr (by omega)))),p2,by show z4.2.2≤_; omega⟩
   case s11=>exact ⟨by show z2.1+1≤_; omega,Qq5 q2 hz (by omega) (r1.trans (Qkw rfl (.inl (by omega)))),p2,by show z4.2.2≤_; omega⟩
   all_goals have hk:z4.2.1<(Dat.cons (l.getD z2.1 Sh.dat.nil)).length:=by omega
   all_goals have u2:=QqY hk
   all_goals have u3:=Qkn (Dat.cons (l.getD z2.1 Sh.dat.nil)) (z4.2.1+1)
   case s5=>omega
   case s7=>omega
   all_goals have e9:(((Cn.name ((Dat.cons (l.getD z2.1 Sh.dat.nil)).getD z4.2.1 Sh.con.nil)).size:Int)).tdiv 8=(((Cn.name ((Dat.cons (l.getD z2.1 Sh.dat.nil)).getD z4.2.1 Sh.con.nil)).size / 8:Nat):Int):=(Int.ofNat_tdiv _ 8).symm
   all_goals have hcl:=Qfw (Dat.cons (l.getD z2.1 Sh.dat.nil))
   case m5 =>
    refine Qai ?_
    rw [e9]
    simp (disch:=omega) only [wJ]
    omega
   case m7=>exact Qai (wJ _ (by omega) (by omega))
   case s8=>exact ⟨hz,by show z4.2.1+1≤_; omega,by show 0≤z4.2.2+((1+(Cn.name ((Dat.cons (l.getD z2.1 Sh.dat.nil)).getD z4.2.1 Sh.con.nil)).size / 8+(Cn.fields ((Dat.cons (l.getD z2.1 Sh.dat.nil)).getD z4.2.1 Sh.con.nil)).length:Nat):Int); omega,by show z4.2.2+((1+(Cn.name ((Dat.cons (l.getD z2.1 Sh.dat.nil)).getD z4.2.1 Sh.con.nil)).size / 8+(Cn.fields ((Dat.cons (l.getD z2.1 Sh.dat.nil)).getD z4.2.1 Sh.con.nil)).length:Nat):Int)≤_; omega⟩
   case s9=>exact ⟨trivial,r1.trans (Qvf _ _ _ _ _ rfl hk (by omega))⟩
   case m8 =>
    have:(Dat.cons (l.getD z2.1 Sh.dat.nil)).length - (z4.2.1+1)<(Dat.cons (l.getD z2.1 Sh.dat.nil)).length - z4.2.1:=by omega
    exact this
 · cases hs
end Go.Proofs.YtemhncjjiomppaaGreatDoor
