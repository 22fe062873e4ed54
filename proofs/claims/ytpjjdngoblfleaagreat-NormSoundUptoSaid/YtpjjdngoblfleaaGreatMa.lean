/- The layer model: constructors, what is of a sort. -/
import Derived.Test.YtpjjdngoblfleaaGreatFe
namespace Go.Proofs.YtpjjdngoblfleaaGreat
open Go.RowKit
set_option linter.unusedVariables false
set_option maxRecDepth 100000
def vlP (t:Vw):PV:=.agg (wrapF (vlC t))
def vlOf:PV→Option Vw
 | .agg l=>match leafs l with
  | some m=>toVl m
  | none=>none
 | _=>none
theorem vl_sub {x:PV} {t:Vw} (h:vlOf x=some t):SubB x (vlP t):=by
 unfold vlOf at h
 split at h
 · split at h
   · rename_i hm
     exact leaf_sub hm (toVl_sub h)
   · cases h
 · cases h
mutual
def Vw.fitV (m:Nat):Vw→Prop
 | .mk _ _ d _ n l=>n.size≤4611686018427387904∧d.length≤m∧l.length≤100000000∧fitVL m l
def fitVL (m:Nat):List Vw→Prop
 | []=>True
 | t::l=>t.fitV m∧fitVL m l
def Vw.size:Vw→Nat
 | .mk _ _ _ _ _ l=>szVL l+1
def szVL:List Vw→Nat
 | []=>0
 | t::l=>t.size+szVL l
end
theorem Vw.fitV_eq (m:Nat) (t:Vw):t.fitV m↔t.name.size≤4611686018427387904∧t.digits.length≤m∧t.fields.length≤100000000∧fitVL m t.fields:=by cases t; rfl
theorem Vw.size_eq (t:Vw):t.size=szVL t.fields+1:=by cases t; rfl
theorem fitVL_at {m:Nat}:∀ {l:List Vw} {i:Nat} (d:Vw),fitVL m l→i<l.length→(l.getD i d).fitV m
 | t::l,0,d,h,_=>h.1
 | t::l,i+1,d,h,hi=>by simpa using fitVL_at (l:=l) d h.2 (by simpa using hi)
theorem szVL_le:∀ {l:List Vw} {i:Nat} (d:Vw),i<l.length→(l.getD i d).size≤szVL l
 | t::l,0,d,_=>by simp [szVL]
 | t::l,i+1,d,h=>by
  have:=szVL_le (l:=l) (i:=i) d (by simpa using h)
  simp only [List.getD_cons_succ,szVL]
  omega
theorem fld_size {t:Vw} {i:Nat} (d:Vw) (h:i<t.fields.length):(t.fields.getD i d).size<t.size:=by
 have:=szVL_le d h
 rw [t.size_eq]; omega
def conIx (l:List Cn) (s:ByteArray):Int:=anyB l fun c=>decide (c.name=s)
def conM:List Dat→ByteArray→Nat→Option (Nat × Nat)
 | [],_,_=>none
 | d::D,s,k=>if 0≤conIx d.cons s then some (k,(conIx d.cons s).toNat) else conM D s (k+1)
theorem anyB_rng {α:Type} (l:List α) (f:α→Bool):anyB l f=-1∨(0≤anyB l f∧anyB l f<l.length):=by
 unfold anyB
 cases h:l.findIdx? f with
 | none=>exact .inl rfl
 | some i =>
  rw [List.findIdx?_eq_some_iff_getElem] at h
  obtain ⟨h,-⟩:=h
  exact .inr ⟨by show (0:Int)≤i; omega,by show (i:Int)<l.length; omega⟩
theorem conM_in {s:ByteArray}:∀ {D:List Dat} {k a b:Nat},conM D s k=some (a,b)→k≤a∧a - k<D.length∧b<((D.getD (a - k) Sh.dat.nil).cons).length
 | [],k,a,b,h=>by cases h
 | d::D,k,a,b,h=>by
  unfold conM at h
  split at h
  · rename_i hc
    cases h
    rcases anyB_rng d.cons fun c=>decide (c.name=s) with h1 | h1
    · unfold conIx at hc; omega
    · refine ⟨Nat.le_refl _,by simp,?_⟩
      rw [Nat.sub_self]
      show (conIx d.cons s).toNat<d.cons.length
      unfold conIx
      omega
  · obtain ⟨h1,h2,h3⟩:=conM_in h
    refine ⟨by omega,by simp; omega,?_⟩
    rw [show a - k=(a - (k+1))+1 by omega]
    simpa using h3
def fldsM (D:List Dat) (p:Nat × Nat):List ByteArray:=(((D.getD p.1 Sh.dat.nil).cons).getD p.2 Sh.con.nil).fields
def noneB (v:Vw):Bool:=(decide (v.kind=1) || (decide (v.digits.length=0) && !v.neg)) && (decide (v.kind=2) || !v.truth) && (decide (v.kind=3) || (decide (v.name=⟨#[]⟩) && decide (v.fields.length=0)))
mutual
def ofV (D:List Dat) (s:ByteArray):Vw→Bool
 | .mk k neg dg tr name fs=>noneB (.mk k neg dg tr name fs) &&
  (if k=1 then decide (s=bInt) && rightZ neg dg
  else if k=2 then decide (s=bBool)
  else if k=3 then dataB D s && (if name=⟨#[]⟩ then decide (fs.length=0) else match conM D name 0 with
   | none=>false
   | some p=>decide ((D.getD p.1 Sh.dat.nil).name=s) && (decide ((fldsM D p).length=fs.length) && ofVL D (fldsM D p) fs))
  else false)
def ofVL (D:List Dat):List ByteArray→List Vw→Bool
 | s::l,v::m=>ofV D s v && ofVL D l m
 | _,_=>true
end
theorem ofV_eq (D:List Dat) (s:ByteArray) (v:Vw):ofV D s v=(noneB v && (if v.kind=1 then decide (s=bInt) && rightZ v.neg v.digits
  else if v.kind=2 then decide (s=bBool)
  else if v.kind=3 then dataB D s && (if v.name=⟨#[]⟩ then decide (v.fields.length=0) else match conM D v.name 0 with
   | none=>false
   | some p=>decide ((D.getD p.1 Sh.dat.nil).name=s) && (decide ((fldsM D p).length=v.fields.length) && ofVL D (fldsM D p) v.fields))
  else false)):=by
 cases v; rw [ofV]; rfl
def someV (D:List Dat) (v:Vw):Bool:=ofV D bInt v || (ofV D bBool v || decide (0≤anyB D fun d=>ofV D d.name v))
def sConF:Spec2
 | [.agg [.f (.v (.string n)),.f (.dt .str l)],.bp 0 0],[.cells [.f (.v (.string s))]]=>some (.ret (bV (decide (n=s))) [.cells [sV s]])
 | _,_=>none
theorem cConF {E:Env} (hU:Up E):Contract2 Tryz.prog E 109 sConF:=by
 refine contract2 [] [] Tryz.ntmps109 Tryz.func109 (by kernel_rfl) (by kernel_rfl) hU trivial trivial ?_
 intro xs ob o hs hok
 unfold sConF at hs
 split at hs
 · rename_i n l s
   cases hs
   refine ⟨[.agg [.f (.v (.string n)),.f (.dt .str l)],.bp 0 0],[],.cons (.refl _) (.cons (.refl _) .nil),rfl,fun _ hsh=>?_⟩
   refine cast_rfl (p:=EndU 1 (Out.ret (bV (decide (n=s))) [PO.cells [sV s]]).fin true (bV (n.toList==s.toList)) [PO.cells [sV s],PO.cells [sV n,PV.f (Lf.dt Sh.str l)]]) ?kr ?_
   case kr=>kernel_rfl
   refine ?m0
   case m0=>exact endU rfl (subB_b (bs_l n s)) rfl rfl (r:=[.cells [sV n,.f (.dt .str l)]]) rfl
 · cases hs
def sIndexC:Spec2
 | [.f (.dt .con D),.fn f [] [.bp 0 0]],[.cells [.f (.v (.string s))]]=>match Nat.beq f 109 with
  | true=>some (.ret (iV (conIx D s)) [.cells [sV s]])
  | false=>none
 | _,_=>none
theorem cIndexC {E:Env} (hU:Up E):Contract2 Tryz.prog E 108 sIndexC:=by
 refine contract2 [] [(109,sConF)] Tryz.ntmps108 Tryz.func108 (by kernel_rfl) (by kernel_rfl) hU trivial ⟨cConF hU,trivial⟩ ?_
 intro xs ob o hs hok
 unfold sIndexC at hs
 split at hs
 · rename_i D f s
   split at hs
   · rename_i hf
     cases hs
     have hf:=Nat.eq_of_beq_eq_true hf
     subst hf
     refine ⟨[.f (.dt .con D),.fn 109 [] [.bp 0 0]],[(2,.s ⟨Nat,fun i=>⟨[(0,.f (.dt .con D)),(1,.fn 109 [] [.bp 0 0]),(7,iV D.length),(8,iV i)],[.cells [sV s]]⟩,fun i=>i≤D.length∧∀ k,k<i→¬ (Cn.name (D.getD k Sh.con.nil)=s),fun i=>D.length - i⟩)],.cons (.refl _) (.cons (.refl _) .nil),rfl,fun _ hsh=>?_⟩
     have hl:=short_row hsh.1
     refine cast_rfl (p:=∃ (x1:Nat),(((SubB (sV s) (sV s)∧True)∧True)∧SubB (PV.f (Lf.dt Sh.con D)) (PV.f (Lf.dt Sh.con D))∧SubB (PV.fn 109 [] [PV.bp 0 0]) (PV.fn 109 [] [PV.bp 0 0])∧SubB (iV (↑D.length:Int)) (iV (↑D.length:Int))∧SubB (iV 0) (iV (↑x1:Int))∧True)∧(x1≤D.length∧∀ (k:Nat),k<x1→¬(D.getD k Sh.con.nil).name=s)∧True∧∀ (z2:Nat),(z2≤D.length∧∀ (k:Nat),k<z2→¬(D.getD k Sh.con.nil).name=s)→True→ifB (decide ((↑z2:Int)<(↑D.length:Int))) (((0:Int)≤(↑z2:Int)∧(↑z2:Int)<(↑D.length:Int))∧ifB (decide ((D.getD (↑z2:Int).toNat Sh.con.nil).name=s)) (EndU 1 (Out.ret (iV (conIx D s)) [PO.cells [sV s]]).fin true (iV (↑z2:Int)) [PO.cells [sV s]]) (∃ (x3:Nat),(((SubB (sV s) (sV s)∧True)∧True)∧SubB (PV.f (Lf.dt Sh.con D)) (PV.f (Lf.dt Sh.con D))∧SubB (PV.fn 109 [] [PV.bp 0 0]) (PV.fn 109 [] [PV.bp 0 0])∧SubB (iV (↑D.length:Int)) (iV (↑D.length:Int))∧SubB (iV (IntKind.i64.wrap ((↑z2:Int)+(1:Int)))) (iV (↑x3:Int))∧True)∧(x3≤D.length∧∀ (k:Nat),k<x3→¬(D.getD k Sh.con.nil).name=s)∧True∧(D.length - x3).succ.le (D.length - z2))) (EndU 1 (Out.ret (iV (conIx D s)) [PO.cells [sV s]]).fin true (iV (-1:Int)) [PO.cells [sV s]])) ?kr ?_
     case kr=>kernel_rfl
     refine ⟨?x0,⟨⟨⟨⟨.refl _,trivial⟩,trivial⟩,⟨.refl _,⟨.refl _,⟨.refl _,⟨?m0,trivial⟩⟩⟩⟩⟩,⟨?s0,⟨trivial,fun z2=>fun hq0=>fun _=>ifB_iff.2 ⟨fun hb1=>⟨?s1,ifB_iff.2 ⟨fun hb2=>?m1,fun hb2=>⟨?x1,⟨⟨⟨⟨.refl _,trivial⟩,trivial⟩,⟨.refl _,⟨.refl _,⟨.refl _,⟨?m2,trivial⟩⟩⟩⟩⟩,⟨?s2,⟨trivial,?m3⟩⟩⟩⟩⟩⟩,fun hb1=>?m4⟩⟩⟩⟩⟩
     case x0=>exact 0
     case x1=>exact z2+1
     all_goals try simp only [decide_eq_true_eq,decide_eq_false_iff_not] at *
     case m0=>exact .refl _
     case s0=>exact ⟨Nat.zero_le _,fun k hk=>by omega⟩
     case s1=>omega
     case m1=>exact endU rfl (subB_i (anyB_hit Sh.con.nil (by omega) (by simpa using hb2) (fun k hk=>by simpa using hq0.2 k hk)).symm) rfl rfl (r:=[]) rfl
     case m2=>exact subB_i (by rw [wJ _ (by omega) (by omega)]; omega)
     case s2 =>
      refine ⟨by omega,fun k hk=>?_⟩
      by_cases hkz:k=z2
      · subst hkz; exact hb2
      · exact hq0.2 k (by omega)
     case m3 => have : D.length - (z2 + 1) < D.length - z2 := by omega
                exact this
     case m4=>exact endU rfl (subB_i (anyB_miss Sh.con.nil fun k hk=>by simpa using hq0.2 k (by omega)).symm) rfl rfl (r:=[]) rfl
   · cases hs
 · cases hs
def plP (p:Nat × Nat):PV:=.agg [iV p.1,iV p.2]
theorem plP_sub {a b:Int} {p:Nat × Nat} (ha:a=p.1) (hb:b=p.2):Sub (.agg [iV a,iV b]) (plP p):=by subst ha hb; exact .refl _
def sConM:Spec
 | [.f (.dt .dat D),.f (.v (.string s))]=>some (none,.nm (Option (Nat × Nat)) (conM D s 0) fun r=>.tup [plP (r.getD (0,0)),bV r.isSome])
 | _=>none
theorem cConM {E:Env} (hU:Up E):Contract Tryz.prog E 66 sConM:=by
 refine contract_D [] [(108,sIndexC)] Tryz.ntmps66 Tryz.func66 (by kernel_rfl) (by kernel_rfl) hU trivial ⟨cIndexC hU,trivial⟩ ?_
 intro xs p r hs hp
 unfold sConM at hs
 split at hs
 · rename_i D s
   cases hs
   refine ⟨[.f (.dt .dat D),.f (.v (.string s))],[(2,.s ⟨Nat,fun i=>⟨[(3,.bp 0 0),(4,.bp 1 0),(9,.f (.dt .dat D)),(10,iV D.length),(11,iV i)],[.cells [sV s],.cells [iV 0,iV 0]]⟩,fun i=>i≤D.length∧conM (D.drop i) s i=conM D s 0,fun i=>D.length - i⟩)],.cons (.refl _) (.cons (.refl _) .nil),rfl,fun _ hsh=>?_⟩
   have hl:=short_row hsh.1
   refine cast_rfl (p:=∃ (x1:Nat),(((SubB (sV s) (sV s)∧True)∧(SubB (iV 0) (iV 0)∧SubB (iV 0) (iV 0)∧True)∧True)∧SubB (PV.bp 0 0) (PV.bp 0 0)∧SubB (PV.bp 1 0) (PV.bp 1 0)∧SubB (PV.f (Lf.dt Sh.dat D)) (PV.f (Lf.dt Sh.dat D))∧SubB (iV (↑D.length:Int)) (iV (↑D.length:Int))∧SubB (iV 0) (iV (↑x1:Int))∧True)∧(x1≤D.length∧conM (List.drop x1 D) s x1=conM D s 0)∧True∧∀ (z2:Nat),z2≤D.length∧conM (List.drop z2 D) s z2=conM D s 0→True→ifB (decide ((↑z2:Int)<(↑D.length:Int))) (((0:Int)≤(↑z2:Int)∧(↑z2:Int)<(↑D.length:Int))∧ifB (decide (conIx (D.getD (↑z2:Int).toNat Sh.dat.nil).cons s ≥ (0:Int))) (true=true∧Sub (PV.tup [PV.agg [iV (↑z2:Int),iV (conIx (D.getD (↑z2:Int).toNat Sh.dat.nil).cons s)],bV true]) (PV.tup [PV.agg [iV (↑((conM D s 0).getD (0,0)).fst:Int),iV (↑((conM D s 0).getD (0,0)).snd:Int)],bV ((conM D s 0).isSome)])) (∃ (x3:Nat),(((SubB (sV s) (sV s)∧True)∧(SubB (iV 0) (iV 0)∧SubB (iV 0) (iV 0)∧True)∧True)∧SubB (PV.bp 0 0) (PV.bp 0 0)∧SubB (PV.bp 1 0) (PV.bp 1 0)∧SubB (PV.f (Lf.dt Sh.dat D)) (PV.f (Lf.dt Sh.dat D))∧SubB (iV (↑D.length:Int)) (iV (↑D.length:Int))∧SubB (iV (IntKind.i64.wrap ((↑z2:Int)+(1:Int)))) (iV (↑x3:Int))∧True)∧(x3≤D.length∧conM (List.drop x3 D) s x3=conM D s 0)∧True∧(D.length - x3).succ.le (D.length - z2))) (true=true∧Sub (PV.tup [PV.agg [iV 0,iV 0],bV false]) (PV.tup [PV.agg [iV (↑((conM D s 0).getD (0,0)).fst:Int),iV (↑((conM D s 0).getD (0,0)).snd:Int)],bV ((conM D s 0).isSome)]))) ?kr ?_
   case kr=>kernel_rfl
   refine ⟨?x0,⟨⟨⟨⟨.refl _,trivial⟩,⟨⟨.refl _,⟨.refl _,trivial⟩⟩,trivial⟩⟩,⟨.refl _,⟨.refl _,⟨.refl _,⟨.refl _,⟨?m0,trivial⟩⟩⟩⟩⟩⟩,⟨?s0,⟨trivial,fun z2=>fun hq0=>fun _=>ifB_iff.2 ⟨fun hb1=>⟨?s1,ifB_iff.2 ⟨fun hb2=>⟨rfl,?m1⟩,fun hb2=>⟨?x1,⟨⟨⟨⟨.refl _,trivial⟩,⟨⟨.refl _,⟨.refl _,trivial⟩⟩,trivial⟩⟩,⟨.refl _,⟨.refl _,⟨.refl _,⟨.refl _,⟨?m2,trivial⟩⟩⟩⟩⟩⟩,⟨?s2,⟨trivial,?m3⟩⟩⟩⟩⟩⟩,fun hb1=>⟨rfl,?m4⟩⟩⟩⟩⟩⟩
   case x0=>exact 0
   case x1=>exact z2+1
   all_goals try simp only [decide_eq_true_eq,decide_eq_false_iff_not,Int.toNat_natCast] at *
   case m0=>exact .refl _
   case s0=>exact ⟨Nat.zero_le _,rfl⟩
   case m4 =>
    have h:=hq0.2
    rw [List.drop_eq_nil_of_le (by omega)] at h
    rw [← h]; exact .refl _
   all_goals have hz:z2<D.length:=by omega
   all_goals have h:=hq0.2
   all_goals rw [drop_at D Sh.dat.nil hz,conM] at h
   case s1=>omega
   case m1 =>
    rw [if_pos hb2] at h
    rw [← h]
    have e:(((conIx (D.getD z2 Sh.dat.nil).cons s).toNat:Nat):Int)=conIx (D.getD z2 Sh.dat.nil).cons s:=by omega
    exact tup_sub (.cons (plP_sub rfl e.symm) (.cons (.refl _) .nil))
   case m2=>exact subB_i (by rw [wJ _ (by omega) (by omega)]; rfl)
   case s2=>rw [if_neg hb2] at h; exact ⟨hz,h⟩
   case m3=>exact (by omega:D.length - (z2+1)<D.length - z2)
 · cases hs
def sFlds:Spec
 | [.f (.dt .dat D),.agg [.f (.v (.int .i64 a)),.f (.v (.int .i64 b))]]=>some (some (0≤a∧0≤b∧a<D.length∧b<((D.getD a.toNat Sh.dat.nil).cons).length),.one (.f (.dt .str (fldsM D (a.toNat,b.toNat)))))
 | _=>none
theorem cFlds {E:Env} (hU:Up E):Contract Tryz.prog E 68 sFlds:=by
 refine contract_D [] [] Tryz.ntmps68 Tryz.func68 (by kernel_rfl) (by kernel_rfl) hU trivial trivial ?_
 intro xs p r hs hp
 unfold sFlds at hs
 split at hs
 · rename_i D a b
   cases hs
   have hq:=hp _ rfl
   refine ⟨[.f (.dt .dat D),.agg [.f (.v (.int .i64 a)),.f (.v (.int .i64 b))]],[],.cons (.refl _) (.cons (.refl _) .nil),rfl,fun _ hsh=>?_⟩
   refine cast_rfl (p:=((0:Int)≤a∧a<(↑D.length:Int))∧((0:Int)≤b∧b<(↑(D.getD a.toNat Sh.dat.nil).cons.length:Int))∧true=true∧Sub (PV.f (Lf.dt Sh.str ((D.getD a.toNat Sh.dat.nil).cons.getD b.toNat Sh.con.nil).fields)) (PV.f (Lf.dt Sh.str (fldsM D (a.toNat,b.toNat))))) ?kr ?_
   case kr=>kernel_rfl
   refine ⟨?s0,⟨?s1,⟨rfl,?m0⟩⟩⟩
   case s0=>exact ⟨hq.1,hq.2.2.1⟩
   case s1=>exact ⟨hq.2.1,hq.2.2.2⟩
   case m0=>exact .refl _
 · cases hs
def sDataF2:Spec2
 | [.agg [.f (.v (.string n)),.f (.dt .con l)],.bp 0 0],[.cells [.f (.v (.string s))]]=>some (.ret (bV (decide (n=s))) [.cells [sV s]])
 | _,_=>none
theorem cDataF2 {E:Env} (hU:Up E):Contract2 Tryz.prog E 110 sDataF2:=by
 refine contract2 [] [] Tryz.ntmps110 Tryz.func110 (by kernel_rfl) (by kernel_rfl) hU trivial trivial ?_
 intro xs ob o hs hok
 unfold sDataF2 at hs
 split at hs
 · rename_i n l s
   cases hs
   refine ⟨[.agg [.f (.v (.string n)),.f (.dt .con l)],.bp 0 0],[],.cons (.refl _) (.cons (.refl _) .nil),rfl,fun _ hsh=>?_⟩
   refine cast_rfl (p:=EndU 1 (Out.ret (bV (decide (n=s))) [PO.cells [sV s]]).fin true (bV (n.toList==s.toList)) [PO.cells [sV s],PO.cells [sV n,PV.f (Lf.dt Sh.con l)]]) ?kr ?_
   case kr=>kernel_rfl
   refine ?m0
   case m0=>exact endU rfl (subB_b (bs_l n s)) rfl rfl (r:=[.cells [sV n,.f (.dt .con l)]]) rfl
 · cases hs
def sIndexD2:Spec2
 | [.f (.dt .dat D),.fn f [] [.bp 0 0]],[.cells [.f (.v (.string s))]]=>match Nat.beq f 110 with
  | true=>some (.ret (iV (anyD D s)) [.cells [sV s]])
  | false=>none
 | _,_=>none
theorem cIndexD2 {E:Env} (hU:Up E):Contract2 Tryz.prog E 115 sIndexD2:=by
 refine contract2 [] [(110,sDataF2)] Tryz.ntmps115 Tryz.func115 (by kernel_rfl) (by kernel_rfl) hU trivial ⟨cDataF2 hU,trivial⟩ ?_
 intro xs ob o hs hok
 unfold sIndexD2 at hs
 split at hs
 · rename_i D f s
   split at hs
   · rename_i hf
     cases hs
     have hf:=Nat.eq_of_beq_eq_true hf
     subst hf
     refine ⟨[.f (.dt .dat D),.fn 110 [] [.bp 0 0]],[(2,.s ⟨Nat,fun i=>⟨[(0,.f (.dt .dat D)),(1,.fn 110 [] [.bp 0 0]),(7,iV D.length),(8,iV i)],[.cells [sV s]]⟩,fun i=>i≤D.length∧∀ k,k<i→¬ (Dat.name (D.getD k Sh.dat.nil)=s),fun i=>D.length - i⟩)],.cons (.refl _) (.cons (.refl _) .nil),rfl,fun _ hsh=>?_⟩
     have hl:=short_row hsh.1
     refine cast_rfl (p:=∃ (x1:Nat),(((SubB (sV s) (sV s)∧True)∧True)∧SubB (PV.f (Lf.dt Sh.dat D)) (PV.f (Lf.dt Sh.dat D))∧SubB (PV.fn 110 [] [PV.bp 0 0]) (PV.fn 110 [] [PV.bp 0 0])∧SubB (iV (↑D.length:Int)) (iV (↑D.length:Int))∧SubB (iV 0) (iV (↑x1:Int))∧True)∧(x1≤D.length∧∀ (k:Nat),k<x1→¬(D.getD k Sh.dat.nil).name=s)∧True∧∀ (z2:Nat),(z2≤D.length∧∀ (k:Nat),k<z2→¬(D.getD k Sh.dat.nil).name=s)→True→ifB (decide ((↑z2:Int)<(↑D.length:Int))) (((0:Int)≤(↑z2:Int)∧(↑z2:Int)<(↑D.length:Int))∧ifB (decide ((D.getD (↑z2:Int).toNat Sh.dat.nil).name=s)) (EndU 1 (Out.ret (iV (anyD D s)) [PO.cells [sV s]]).fin true (iV (↑z2:Int)) [PO.cells [sV s]]) (∃ (x3:Nat),(((SubB (sV s) (sV s)∧True)∧True)∧SubB (PV.f (Lf.dt Sh.dat D)) (PV.f (Lf.dt Sh.dat D))∧SubB (PV.fn 110 [] [PV.bp 0 0]) (PV.fn 110 [] [PV.bp 0 0])∧SubB (iV (↑D.length:Int)) (iV (↑D.length:Int))∧SubB (iV (IntKind.i64.wrap ((↑z2:Int)+(1:Int)))) (iV (↑x3:Int))∧True)∧(x3≤D.length∧∀ (k:Nat),k<x3→¬(D.getD k Sh.dat.nil).name=s)∧True∧(D.length - x3).succ.le (D.length - z2))) (EndU 1 (Out.ret (iV (anyD D s)) [PO.cells [sV s]]).fin true (iV (-1:Int)) [PO.cells [sV s]])) ?kr ?_
     case kr=>kernel_rfl
     refine ⟨?x0,⟨⟨⟨⟨.refl _,trivial⟩,trivial⟩,⟨.refl _,⟨.refl _,⟨.refl _,⟨?m0,trivial⟩⟩⟩⟩⟩,⟨?s0,⟨trivial,fun z2=>fun hq0=>fun _=>ifB_iff.2 ⟨fun hb1=>⟨?s1,ifB_iff.2 ⟨fun hb2=>?m1,fun hb2=>⟨?x1,⟨⟨⟨⟨.refl _,trivial⟩,trivial⟩,⟨.refl _,⟨.refl _,⟨.refl _,⟨?m2,trivial⟩⟩⟩⟩⟩,⟨?s2,⟨trivial,?m3⟩⟩⟩⟩⟩⟩,fun hb1=>?m4⟩⟩⟩⟩⟩
     case x0=>exact 0
     case x1=>exact z2+1
     all_goals try simp only [decide_eq_true_eq,decide_eq_false_iff_not] at *
     case m0=>exact .refl _
     case s0=>exact ⟨Nat.zero_le _,fun k hk=>by omega⟩
     case s1=>omega
     case m1=>exact endU rfl (subB_i (anyB_hit Sh.dat.nil (by omega) (by simpa using hb2) (fun k hk=>by simpa using hq0.2 k hk)).symm) rfl rfl (r:=[]) rfl
     case m2=>exact subB_i (by rw [wJ _ (by omega) (by omega)]; omega)
     case s2 =>
      refine ⟨by omega,fun k hk=>?_⟩
      by_cases hkz:k=z2
      · subst hkz; exact hb2
      · exact hq0.2 k (by omega)
     case m3 => have : D.length - (z2 + 1) < D.length - z2 := by omega
                exact this
     case m4=>exact endU rfl (subB_i (anyB_miss Sh.dat.nil fun k hk=>by simpa using hq0.2 k (by omega)).symm) rfl rfl (r:=[]) rfl
   · cases hs
 · cases hs
def sContD2:Spec2
 | [.f (.dt .dat D),.fn f [] [.bp 0 0]],[.cells [.f (.v (.string s))]]=>match Nat.beq f 110 with
  | true=>some (.ret (bV (decide (0≤anyD D s))) [.cells [sV s]])
  | false=>none
 | _,_=>none
theorem cContD2 {E:Env} (hU:Up E):Contract2 Tryz.prog E 78 sContD2:=by
 refine contract2 [] [(115,sIndexD2)] Tryz.ntmps78 Tryz.func78 (by kernel_rfl) (by kernel_rfl) hU trivial ⟨cIndexD2 hU,trivial⟩ ?_
 intro xs ob o hs hok
 unfold sContD2 at hs
 split at hs
 · rename_i D f s
   split at hs
   · rename_i hf
     cases hs
     have hf:=Nat.eq_of_beq_eq_true hf
     subst hf
     refine ⟨[.f (.dt .dat D),.fn 110 [] [.bp 0 0]],[],.cons (.refl _) (.cons (.refl _) .nil),rfl,fun _ hsh=>?_⟩
     refine cast_rfl (p:=EndU 1 (Out.ret (bV (decide ((0:Int)≤anyD D s))) [PO.cells [sV s]]).fin true (bV (decide (anyD D s ≥ (0:Int)))) [PO.cells [sV s]]) ?kr ?_
     case kr=>kernel_rfl
     refine ?m0
     case m0=>exact endU rfl (.refl _) rfl rfl (r:=[]) rfl
   · cases hs
 · cases hs
def sDataM:Spec
 | [.f (.dt .dat D),.f (.v (.string s))]=>some (none,.nm Bool (dataB D s) bV)
 | _=>none
theorem cDataM {E:Env} (hU:Up E):Contract Tryz.prog E 67 sDataM:=by
 refine contract_D [] [(78,sContD2)] Tryz.ntmps67 Tryz.func67 (by kernel_rfl) (by kernel_rfl) hU trivial ⟨cContD2 hU,trivial⟩ ?_
 intro xs p r hs hp
 unfold sDataM at hs
 split at hs
 · rename_i D s
   cases hs
   refine ⟨[.f (.dt .dat D),.f (.v (.string s))],[],.cons (.refl _) (.cons (.refl _) .nil),rfl,fun _ hsh=>?_⟩
   refine cast_rfl (p:=ifB (!s.toList==(ByteArray.mk #[(105:UInt8),(110:UInt8),(116:UInt8)]).toList) (ifB (!s.toList==(ByteArray.mk #[(98:UInt8),(111:UInt8),(111:UInt8),(108:UInt8)]).toList) (true=true∧Sub (bV (decide ((0:Int)≤anyD D s))) (bV (dataB D s))) (true=true∧Sub (bV false) (bV (dataB D s)))) (true=true∧Sub (bV false) (bV (dataB D s)))) ?kr ?_
   case kr=>kernel_rfl
   refine ifB_iff.2 ⟨fun hb0=>ifB_iff.2 ⟨fun hb1=>⟨rfl,?m0⟩,fun hb1=>⟨rfl,?m1⟩⟩,fun hb0=>⟨rfl,?m2⟩⟩
   all_goals refine (subB_b ?_).sub
   all_goals simp only [bs_l,dataB,anyD] at *
   all_goals simp_all [bInt,bBool]
   all_goals rfl
 · cases hs
def sNoneM:Spec
 | [x]=>match vlOf x with
  | some v=>some (none,.nm Bool (noneB v) bV)
  | none=>none
 | _=>none
theorem cNoneM {E:Env} (hU:Up E):Contract Tryz.prog E 64 sNoneM:=by
 refine contract_D [] [] Tryz.ntmps64 Tryz.func64 (by kernel_rfl) (by kernel_rfl) hU trivial trivial ?_
 intro xs p r hs hp
 unfold sNoneM at hs
 split at hs
 · rename_i x
   split at hs
   · rename_i v hv
     cases hs
     refine ⟨[vlP v],[],.cons (vl_sub hv).sub .nil,rfl,fun _ hsh=>?_⟩
     refine cast_rfl (p:=ifB (v.kind==(1:Int)) (ifB (v.kind==(2:Int)) (ifB (v.kind==(3:Int)) (true=true∧Sub (bV true) (bV (noneB v))) (ifB (v.name.toList==(ByteArray.mk #[]).toList) (true=true∧Sub (bV ((↑v.fields.length:Int)==(0:Int))) (bV (noneB v))) (true=true∧Sub (bV false) (bV (noneB v))))) (ifB (!v.truth) (ifB (v.kind==(3:Int)) (true=true∧Sub (bV true) (bV (noneB v))) (ifB (v.name.toList==(ByteArray.mk #[]).toList) (true=true∧Sub (bV ((↑v.fields.length:Int)==(0:Int))) (bV (noneB v))) (true=true∧Sub (bV false) (bV (noneB v))))) (true=true∧Sub (bV false) (bV (noneB v))))) (ifB ((↑v.digits.length:Int)==(0:Int)) (ifB (!v.neg) (ifB (v.kind==(2:Int)) (ifB (v.kind==(3:Int)) (true=true∧Sub (bV true) (bV (noneB v))) (ifB (v.name.toList==(ByteArray.mk #[]).toList) (true=true∧Sub (bV ((↑v.fields.length:Int)==(0:Int))) (bV (noneB v))) (true=true∧Sub (bV false) (bV (noneB v))))) (ifB (!v.truth) (ifB (v.kind==(3:Int)) (true=true∧Sub (bV true) (bV (noneB v))) (ifB (v.name.toList==(ByteArray.mk #[]).toList) (true=true∧Sub (bV ((↑v.fields.length:Int)==(0:Int))) (bV (noneB v))) (true=true∧Sub (bV false) (bV (noneB v))))) (true=true∧Sub (bV false) (bV (noneB v))))) (true=true∧Sub (bV false) (bV (noneB v)))) (true=true∧Sub (bV false) (bV (noneB v))))) ?kr ?_
     case kr=>kernel_rfl
     refine ifB_iff.2 ⟨fun hb0=>ifB_iff.2 ⟨fun hb1=>ifB_iff.2 ⟨fun hb2=>⟨rfl,?m0⟩,fun hb2=>ifB_iff.2 ⟨fun hb3=>⟨rfl,?m1⟩,fun hb3=>⟨rfl,?m2⟩⟩⟩,fun hb1=>ifB_iff.2 ⟨fun hb4=>ifB_iff.2 ⟨fun hb5=>⟨rfl,?m3⟩,fun hb5=>ifB_iff.2 ⟨fun hb6=>⟨rfl,?m4⟩,fun hb6=>⟨rfl,?m5⟩⟩⟩,fun hb4=>⟨rfl,?m6⟩⟩⟩,fun hb0=>ifB_iff.2 ⟨fun hb7=>ifB_iff.2 ⟨fun hb8=>ifB_iff.2 ⟨fun hb9=>ifB_iff.2 ⟨fun hb10=>⟨rfl,?m7⟩,fun hb10=>ifB_iff.2 ⟨fun hb11=>⟨rfl,?m8⟩,fun hb11=>⟨rfl,?m9⟩⟩⟩,fun hb9=>ifB_iff.2 ⟨fun hb12=>ifB_iff.2 ⟨fun hb13=>⟨rfl,?m10⟩,fun hb13=>ifB_iff.2 ⟨fun hb14=>⟨rfl,?m11⟩,fun hb14=>⟨rfl,?m12⟩⟩⟩,fun hb12=>⟨rfl,?m13⟩⟩⟩,fun hb8=>⟨rfl,?m14⟩⟩,fun hb7=>⟨rfl,?m15⟩⟩⟩
     all_goals refine (subB_b ?_).sub
     all_goals try simp only [bs_l] at *
     all_goals unfold noneB
     all_goals grind
   · cases hs
 · cases hs
end Go.Proofs.YtpjjdngoblfleaaGreat
