/- How much there is, as far as it is asked: the kit's counts. -/
import Derived.Test.YtdjnlgkpnjdchaaDoorFb
import Derived.Test.YtdjnlgkpnjdchaaDoorVt
namespace Go.Proofs.YtdjnlgkpnjdchaaDoor
open Go.RowKit
set_option linter.unusedVariables false
set_option maxRecDepth 100000
mutual
def Vw.fitV (m:Nat):Vw→Prop
 | .mk _ _ d _ n l=>n.size≤4611686018427387904∧d.length≤m∧l.length≤100000000∧fitVL m l
def fitVL (m:Nat):List Vw→Prop
 | []=>True
 | t::l=>t.fitV m∧fitVL m l
def Vw.size:Vw→Nat
 | .mk _ _ _ _ _ l=>szVL l+1
def szVL:List Vw→Nat
 | []=>0
 | t::l=>t.size+szVL l
end
theorem Vw.size_eq (t:Vw):t.size=szVL t.fields+1:=by cases t; rfl
def conIx (l:List Cn) (s:ByteArray):Int:=anyB l fun c=>decide (c.name=s)
def conM:List Dat→ByteArray→Nat→Option (Nat × Nat)
 | [],_,_=>none
 | d::D,s,k=>if 0≤conIx d.cons s then some (k,(conIx d.cons s).toNat) else conM D s (k+1)
def fldsM (D:List Dat) (p:Nat × Nat):List ByteArray:=(((D.getD p.1 Sh.dat.nil).cons).getD p.2 Sh.con.nil).fields
def noneB (v:Vw):Bool:=(decide (v.kind=1) || (decide (v.digits.length=0) && !v.neg)) && (decide (v.kind=2) || !v.truth) && (decide (v.kind=3) || (decide (v.name=⟨#[]⟩) && decide (v.fields.length=0)))
mutual
def ofV (D:List Dat) (s:ByteArray):Vw→Bool
 | .mk k neg dg tr name fs=>noneB (.mk k neg dg tr name fs) &&
  (if k=1 then decide (s=bInt) && rightZ neg dg
  else if k=2 then decide (s=bBool)
  else if k=3 then dataB D s && (if name=⟨#[]⟩ then decide (fs.length=0) else match conM D name 0 with
   | none=>false
   | some p=>decide ((D.getD p.1 Sh.dat.nil).name=s) && (decide ((fldsM D p).length=fs.length) && ofVL D (fldsM D p) fs))
  else false)
def ofVL (D:List Dat):List ByteArray→List Vw→Bool
 | s::l,v::m=>ofV D s v && ofVL D l m
 | _,_=>true
end
end Go.Proofs.YtdjnlgkpnjdchaaDoor
namespace Go.Proofs.YtdjnlgkpnjdchaaDoor
open Go.RowKit
set_option linter.unusedVariables false
set_option maxRecDepth 100000
theorem Vw.ext {t u:Vw} (h1:t.kind=u.kind) (h2:t.neg=u.neg) (h3:t.digits=u.digits) (h4:t.truth=u.truth) (h5:t.name=u.name) (h6:t.fields=u.fields):t=u:=by
 rw [← t.eta,← u.eta,h1,h2,h3,h4,h5,h6]
end Go.Proofs.YtdjnlgkpnjdchaaDoor
namespace Go.Proofs.YtdjnlgkpnjdchaaDoor
open Go.RowKit
set_option linter.unusedVariables false
set_option maxRecDepth 100000
def outR:Rs→Out
 | .one x=>.ret x []
 | .nm α e r=>.nm α e fun y=>.ret (r y) []
 | .nm2 α β e e' r=>.nm α e fun y=>.nm β e' fun y'=>.ret (r y y') []
def upS (sp:Spec):Spec2:=fun xs ob=>match ob with
 | []=>match pureL (flatL xs),sp (flatL xs) with
  | true,some (some p,r)=>some (.need p (outR r))
  | true,some (none,r)=>some (outR r)
  | _,_=>none
 | _::_=>none
theorem outR_fin (r:Rs):(outR r).fin=(true,r.out,[]):=by cases r <;> rfl
theorem Contract.up {P:Program} {E:Env} {f:FuncId} {sp:Spec} (hU:Up E) (h:Contract P E f sp):Contract2 P E f (upS sp):=by
 intro xs ob o hs hok K w g vs hK hO hfull hE hvs
 cases ob with
 | cons x ob=>cases hs
 | nil =>
  have key:∀ p r,pureL (flatL xs)=true→sp (flatL xs)=some (p,r)→(∀ q,p=some q→q)→o.fin=(true,r.out,[]) →
    Calls P f vs.toArray w fun e w'=>∃ g' v,ExtK ⟨K,w,g.B,[]⟩ g.H w' g'.H∧Obs K o.fin.2.2 g' w'∧(∀ i,i<o.fin.2.2.length→∃ u,g'.B i=some u)∧(∀ i p,FixB g.B i p→g'.B i=some p)∧PR g'.H g'.B v o.fin.2.1 ∧
     e=(match o.fin.1 with | true=>.returned v | false=>.panicked [{ v,recovered:=false }]):=by
   intro p r hpu hsp hp hfin
   rw [hfin]
   have hfl:PRs g.H g.B vs (flatL xs):=⟨by rw [flatL_len]; exact hvs.1,fun i v x hv hx=>by
    rw [flatL_at] at hx
    cases hx':xs[i]? with
    | none=>rw [hx'] at hx; cases hx
    | some y=>rw [hx'] at hx; cases hx; exact (hvs.2 i v y hv hx').flat⟩
   refine (h (flatL xs) p r hsp hp w g.H vs hO.fro (hU.more K _ w g.H hK hE) (hfl.pure hpu)).mono ?_
   rintro e w' ⟨H',v,rfl,hext,hpr⟩
   have hdom:∀ o u,g.B o=some u→False:=fun o u hb=>absurd (hO.dom o u hb) (Nat.not_lt_zero _)
   refine ⟨⟨H',g.B⟩,v,(ExtK.refl (c:=⟨K,w,g.B,[]⟩) hO.fro hK).trans hext,?_,fun i hi=>absurd hi (Nat.not_lt_zero _),fun i p hp=>hp.1,hpr.mono (Hp.le_refl _) (B0.le _),rfl⟩
   exact hO.ext hext
  unfold upS at hs
  dsimp only at hs
  split at hs
  · rename_i p r hpu hsp
    cases hs
    exact key (some p) r hpu hsp (fun q hq=>by cases hq; exact hok.1) (outR_fin r)
  · rename_i r hpu hsp
    cases hs
    exact key none r hpu hsp (fun q hq=>by cases hq) (outR_fin r)
  · cases hs
end Go.Proofs.YtdjnlgkpnjdchaaDoor
namespace Go.Proofs.YtdjnlgkpnjdchaaDoor
open Go.RowKit
set_option linter.unusedVariables false
set_option maxRecDepth 100000
mutual
def cntT:Tw→Nat
 | .mk _ n _ d l=>1+n.size / 8+d.length+cntTL l
def cntTL:List Tw→Nat
 | []=>0
 | t::l=>cntT t+cntTL l
end
theorem cntT_eq (t:Tw):cntT t=1+t.name.size / 8+t.digits.length+cntTL t.kids:=by cases t; rfl
theorem cntT_pos (t:Tw):1≤cntT t:=by rw [cntT_eq]; omega
theorem cntTL_len:∀ l:List Tw,l.length≤cntTL l
 | []=>Nat.le_refl _
 | t::l=>by
  have:=cntTL_len l
  have:=cntT_pos t
  simp only [List.length_cons,cntTL]; omega
theorem cntTL_at:∀ {l:List Tw} {i:Nat} (d:Tw),i<l.length→cntT (l.getD i d)≤cntTL l
 | t::l,0,d,_=>by simp [cntTL]
 | t::l,i+1,d,h=>by
  have:=cntTL_at (l:=l) (i:=i) d (by simpa using h)
  simp only [List.getD_cons_succ,cntTL]; omega
mutual
theorem Vw.fitV.mono:∀ {v:Vw} {m m':Nat},v.fitV m→m≤m'→v.fitV m'
 | .mk k b d t n l,m,m',h,hm=>⟨h.1,Nat.le_trans h.2.1 hm,h.2.2.1,fitVL_mono h.2.2.2 hm⟩
theorem fitVL_mono:∀ {l:List Vw} {m m':Nat},fitVL m l→m≤m'→fitVL m' l
 | [],_,_,_,_=>trivial
 | v::l,m,m',h,hm=>⟨h.1.mono hm,fitVL_mono h.2 hm⟩
end
theorem Tw.fitT.nm {t:Tw} (h:t.fitT):t.name.size≤4611686018427387904:=((Tw.fitT_eq t).1 h).1
end Go.Proofs.YtdjnlgkpnjdchaaDoor
namespace Go.Proofs.YtdjnlgkpnjdchaaDoor
open Go.RowKit
set_option linter.unusedVariables false
set_option maxRecDepth 100000
mutual
def capT:Int→Tw→Int
 | m,.mk _ n _ d l=>1+(n.size / 8:Nat)+(d.length:Nat)+capTL (m - 1) l
def capTL:Int→List Tw→Int
 | _,[]=>0
 | m,t::l=>if 0≤m then capT m t+capTL (m - capT m t) l else 0
end
theorem capT_eq (m:Int) (t:Tw):capT m t=1+(t.name.size / 8:Nat)+(t.digits.length:Nat)+capTL (m - 1) t.kids:=by cases t; rw [capT]; rfl
mutual
theorem capT_rng:∀ (t:Tw) (m:Int),1≤capT m t∧capT m t≤cntT t
 | .mk k n b d l,m=>by
  have:=capTL_rng l (m - 1)
  rw [capT,cntT]; omega
theorem capTL_rng:∀ (l:List Tw) (m:Int),0≤capTL m l∧capTL m l≤cntTL l
 | [],m=>by simp [capTL,cntTL]
 | t::l,m=>by
  have h1:=capT_rng t m
  have h2:=capTL_rng l (m - capT m t)
  rw [capTL,cntTL]
  split <;> omega
end
mutual
theorem capT_exact:∀ (t:Tw) (m:Int),capT m t≤m→capT m t=cntT t
 | .mk k n b d l,m,h=>by
  rw [capT] at h ⊢
  rw [capTL_exact l (m - 1) (by omega),cntT]; omega
theorem capTL_exact:∀ (l:List Tw) (m:Int),capTL m l≤m→capTL m l=cntTL l
 | [],m,_=>by simp [capTL,cntTL]
 | t::l,m,h=>by
  have h1:=capT_rng t m
  have h2:=capTL_rng l (m - capT m t)
  rw [capTL] at h ⊢
  by_cases h0:0≤m
  · rw [if_pos h0] at h ⊢
    rw [capTL_exact l _ (by omega),capT_exact t m (by omega),cntTL]; omega
  · rw [if_neg h0] at h; omega
end
theorem capTL_at:∀ (l:List Tw) (i:Nat) (m n:Int),capTL m l=n+capTL (m - n) (l.drop i)→i<l.length→n≤m→capTL m l=(n+capT (m - n) (l.getD i Sh.tm.nil))+capTL (m - (n+capT (m - n) (l.getD i Sh.tm.nil))) (l.drop (i+1)):=by
 intro l i m n h hi hn
 rw [h]
 have e:l.drop i=l.getD i Sh.tm.nil::l.drop (i+1):=by
  rw [List.getD_eq_getElem?_getD,List.getElem?_eq_getElem hi,Option.getD_some,List.drop_eq_getElem_cons hi]
 rw [e,capTL,if_pos (by omega),Int.add_assoc,show m - n - capT (m - n) (l.getD i Sh.tm.nil)=m - (n+capT (m - n) (l.getD i Sh.tm.nil)) by omega]
theorem capTL_stop {l:List Tw} {i:Nat} {m n:Int} (h:capTL m l=n+capTL (m - n) (l.drop i)) (hi:¬ i<l.length∨¬ n≤m):capTL m l=n:=by
 rw [h]
 rcases hi with hi | hi
 · rw [List.drop_eq_nil_of_le (by omega),capTL]; omega
 · cases hd:l.drop i with
   | nil=>rw [capTL]; omega
   | cons t r=>rw [capTL,if_neg (by omega)]; omega
theorem cntTL_app:∀ l m:List Tw,cntTL (l++m)=cntTL l+cntTL m
 | [],m=>by simp [cntTL]
 | x::l,m=>by
  have:=cntTL_app l m
  simp only [List.cons_append,cntTL,this]
  omega
theorem cntTL_take (l:List Tw) (i:Nat):cntTL (l.take i)≤cntTL l:=by
 have:=cntTL_app (l.take i) (l.drop i)
 rw [List.take_append_drop] at this
 omega
theorem cntTL_next {l:List Tw} {i:Nat} (h:i<l.length):cntTL (l.take (i+1))=cntTL (l.take i)+cntT (l.getD i Sh.tm.nil):=by
 rw [List.take_add_one,cntTL_app,List.getElem?_eq_getElem h,List.getD_eq_getElem?_getD,List.getElem?_eq_getElem h]
 simp only [Option.toList_some,Option.getD_some,cntTL]
 omega
mutual
theorem cntT_size:∀ v:Tw,v.size≤cntT v
 | .mk _ _ _ _ l=>by
  have:=cntTL_size l
  rw [Tw.size_eq,cntT]
  simp only [Tw.kids]; omega
theorem cntTL_size:∀ l:List Tw,szL l≤cntTL l
 | []=>by simp [szL]
 | v::l=>by
  have:=cntT_size v
  have:=cntTL_size l
  rw [szL,cntTL]; omega
end
end Go.Proofs.YtdjnlgkpnjdchaaDoor
namespace Go.Proofs.YtdjnlgkpnjdchaaDoor
open Go.RowKit
set_option linter.unusedVariables false
set_option maxRecDepth 100000
def sTermOfN (n:Nat):Spec
 | [x,.f (.v (.int .i64 m))]=>match tmOf x with
  | some t=>some (some (2 * t.size<n∧cntT t≤4000000∧0≤m∧m≤4000000),.nm Int (capT m t) iV)
  | none=>none
 | _=>none
def sTermsOfN (n:Nat):Spec
 | [.f (.dt .tm l),.f (.v (.int .i64 m))]=>some (some (2 * szL l+1<n∧cntTL l≤4000000∧-1≤m∧m≤4000000),.nm Int (capTL m l) iV)
 | _=>none
theorem cCntN {E:Env} (hU:Up E):∀ n,Contract Tryd.prog E 89 (sTermOfN n)∧Contract Tryd.prog E 37 (sTermsOfN n)
 | 0=>by
  refine ⟨fun xs p r hs hp=>?_,fun xs p r hs hp=>?_⟩
  · unfold sTermOfN at hs
    split at hs
    · split at hs
      · cases hs
        exact absurd (hp _ rfl).1 (Nat.not_lt_zero _)
      · cases hs
    · cases hs
  · unfold sTermsOfN at hs
    split at hs
    · cases hs
      exact absurd (hp _ rfl).1 (Nat.not_lt_zero _)
    · cases hs
 | n+1=>by
  refine ⟨?_,?_⟩
  · refine contract_D [(37,sTermsOfN n)] [] Tryd.ntmps89 Tryd.func89 (by kernel_rfl) (by kernel_rfl) hU ⟨(cCntN hU n).2,trivial⟩ trivial ?_
    intro xs p r hs hp
    unfold sTermOfN at hs
    split at hs
    · rename_i x m
      split at hs
      · rename_i t ht
        cases hs
        obtain ⟨hn,hc,hm0,hm⟩:=hp _ rfl
        refine ⟨[tmP t,.f (.v (.int .i64 m))],[],.cons (tm_sub ht).sub (.cons (.refl _) .nil),rfl,fun _ hsh=>?_⟩
        refine cast_rfl (p:=(2 * szL t.kids+1<n∧cntTL t.kids≤4000000∧(-1:Int)≤IntKind.i64.wrap (m - (1:Int))∧IntKind.i64.wrap (m - (1:Int))≤(4000000:Int))∧∀ (z1:Int),z1=capTL (IntKind.i64.wrap (m - (1:Int))) t.kids→true=true∧Sub (iV (IntKind.i64.wrap (IntKind.i64.wrap (IntKind.i64.wrap ((1:Int)+IntKind.i64.wrap ((↑t.name.size:Int).tdiv (8:Int)))+(↑t.digits.length:Int))+z1))) (iV (capT m t))) ?kr ?_
        case kr=>kernel_rfl
        refine ⟨?s0,fun z1=>fun hz1=>⟨rfl,?m0⟩⟩
        all_goals have e1:IntKind.i64.wrap (m - 1)=m - 1:=wJ _ (by omega) (by omega)
        all_goals have q:=cntT_eq t
        all_goals have q1:=t.size_eq
        all_goals have e8:((t.name.size:Int)).tdiv 8=((t.name.size / 8:Nat):Int):=(Int.ofNat_tdiv _ 8).symm
        all_goals have r:=capTL_rng t.kids (m - 1)
        case s0=>rw [e1]; exact ⟨by omega,by omega,by omega,by omega⟩
        case m0 =>
         rw [e1] at hz1
         have p:=capT_eq m t
         refine (subB_i ?_).sub
         rw [e8]
         simp (disch:=omega) only [wJ]
         omega
      · cases hs
    · cases hs
  · refine contract_D [(89,sTermOfN n)] [] Tryd.ntmps37 Tryd.func37 (by kernel_rfl) (by kernel_rfl) hU ⟨(cCntN hU n).1,trivial⟩ trivial ?_
    intro xs p r hs hp
    unfold sTermsOfN at hs
    split at hs
    · rename_i l m
      cases hs
      obtain ⟨hn,hc,hm0,hm⟩:=hp _ rfl
      refine ⟨[.f (.dt .tm l),.f (.v (.int .i64 m))],[(3,.s ⟨Nat × Int,fun y=>⟨[(0,.f (.dt .tm l)),(1,iV m),(5,iV y.2),(6,iV y.1)],[]⟩,fun y=>y.1≤l.length∧capTL m l=y.2+capTL (m - y.2) (l.drop y.1)∧0≤y.2∧y.2≤cntTL (l.take y.1),fun y=>l.length - y.1⟩)],.cons (.refl _) (.cons (.refl _) .nil),rfl,fun _ hsh=>?_⟩
      have hl:=short_row hsh.1
      refine cast_rfl (p:=∃ (x1:Nat × Int),(True∧SubB (PV.f (Lf.dt Sh.tm l)) (PV.f (Lf.dt Sh.tm l))∧SubB (iV m) (iV m)∧SubB (iV 0) (iV x1.snd)∧SubB (iV 0) (iV (↑x1.fst:Int))∧True)∧(x1.fst≤l.length∧capTL m l=x1.snd+capTL (m - x1.snd) (List.drop x1.fst l)∧(0:Int)≤x1.snd∧x1.snd≤(↑(cntTL (List.take x1.fst l)):Int))∧True∧∀ (z2:Nat × Int),z2.fst≤l.length∧capTL m l=z2.snd+capTL (m - z2.snd) (List.drop z2.fst l)∧(0:Int)≤z2.snd∧z2.snd≤(↑(cntTL (List.take z2.fst l)):Int)→True→ifB (decide ((↑z2.fst:Int)<(↑l.length:Int))) (ifB (decide (z2.snd≤m)) (((0:Int)≤(↑z2.fst:Int)∧(↑z2.fst:Int)<(↑l.length:Int))∧(2 * (Tw.mk (Tw.kind (l.getD (↑z2.fst:Int).toNat Sh.tm.nil)) (Tw.name (l.getD (↑z2.fst:Int).toNat Sh.tm.nil)) (Tw.neg (l.getD (↑z2.fst:Int).toNat Sh.tm.nil)) (Tw.digits (l.getD (↑z2.fst:Int).toNat Sh.tm.nil)) (Tw.kids (l.getD (↑z2.fst:Int).toNat Sh.tm.nil))).size<n∧cntT (Tw.mk (Tw.kind (l.getD (↑z2.fst:Int).toNat Sh.tm.nil)) (Tw.name (l.getD (↑z2.fst:Int).toNat Sh.tm.nil)) (Tw.neg (l.getD (↑z2.fst:Int).toNat Sh.tm.nil)) (Tw.digits (l.getD (↑z2.fst:Int).toNat Sh.tm.nil)) (Tw.kids (l.getD (↑z2.fst:Int).toNat Sh.tm.nil)))≤4000000∧(0:Int)≤IntKind.i64.wrap (m - z2.snd)∧IntKind.i64.wrap (m - z2.snd)≤(4000000:Int))∧∀ (z3:Int),z3=capT (IntKind.i64.wrap (m - z2.snd)) (Tw.mk (Tw.kind (l.getD (↑z2.fst:Int).toNat Sh.tm.nil)) (Tw.name (l.getD (↑z2.fst:Int).toNat Sh.tm.nil)) (Tw.neg (l.getD (↑z2.fst:Int).toNat Sh.tm.nil)) (Tw.digits (l.getD (↑z2.fst:Int).toNat Sh.tm.nil)) (Tw.kids (l.getD (↑z2.fst:Int).toNat Sh.tm.nil)))→∃ (x4:Nat × Int),(True∧SubB (PV.f (Lf.dt Sh.tm l)) (PV.f (Lf.dt Sh.tm l))∧SubB (iV m) (iV m)∧SubB (iV (IntKind.i64.wrap (z2.snd+z3))) (iV x4.snd)∧SubB (iV (IntKind.i64.wrap ((↑z2.fst:Int)+(1:Int)))) (iV (↑x4.fst:Int))∧True)∧(x4.fst≤l.length∧capTL m l=x4.snd+capTL (m - x4.snd) (List.drop x4.fst l)∧(0:Int)≤x4.snd∧x4.snd≤(↑(cntTL (List.take x4.fst l)):Int))∧True∧(l.length - x4.fst).succ.le (l.length - z2.fst)) (true=true∧Sub (iV z2.snd) (iV (capTL m l)))) (true=true∧Sub (iV z2.snd) (iV (capTL m l)))) ?kr ?_
      case kr=>kernel_rfl
      refine ⟨?x0,⟨⟨trivial,⟨.refl _,⟨.refl _,⟨?m0,⟨?m1,trivial⟩⟩⟩⟩⟩,⟨?s0,⟨trivial,fun z2=>fun hq0=>fun _=>ifB_iff.2 ⟨fun hb1=>ifB_iff.2 ⟨fun hb2=>⟨?s1,⟨?s2,fun z3=>fun hz3=>⟨?x1,⟨⟨trivial,⟨.refl _,⟨.refl _,⟨?m2,⟨?m3,trivial⟩⟩⟩⟩⟩,⟨?s3,⟨trivial,?m4⟩⟩⟩⟩⟩⟩,fun hb2=>⟨rfl,?m5⟩⟩,fun hb1=>⟨rfl,?m6⟩⟩⟩⟩⟩⟩
      case x0=>exact (0,0)
      case x1=>exact (z2.1+1,z2.2+z3)
      all_goals try simp only [decide_eq_true_eq,decide_eq_false_iff_not,Int.toNat_natCast,Tw.eta] at *
      case m0=>exact .refl _
      case m1=>exact .refl _
      case s0=>exact ⟨Nat.zero_le _,by simp,by simp,by simp [cntTL]⟩
      all_goals obtain ⟨q1,q2,q3,q4⟩:=hq0
      case m5=>exact (subB_i (capTL_stop q2 (.inr (by omega))).symm).sub
      case m6=>exact (subB_i (capTL_stop q2 (.inl (by omega))).symm).sub
      all_goals have hz:z2.1<l.length:=by omega
      all_goals have t1:=cntTL_take l z2.1
      all_goals have e1:IntKind.i64.wrap (m - z2.2)=m - z2.2:=wJ _ (by omega) (by omega)
      case s1=>omega
      case s2 =>
       have h1:=szL_le hz
       rw [getD_any hz default Sh.tm.nil] at h1
       have h2:=cntTL_at Sh.tm.nil hz
       rw [e1]
       exact ⟨by omega,by omega,by omega,by omega⟩
      all_goals rw [e1] at hz3
      all_goals have r:=capT_rng (l.getD z2.1 Sh.tm.nil) (m - z2.2)
      all_goals have t2:=cntTL_next hz
      all_goals have t3:=cntTL_take l (z2.1+1)
      case m2=>exact subB_i (wJ _ (by omega) (by omega))
      case m3=>exact subB_i (wJ _ (by omega) (by omega))
      case s3=>exact ⟨by omega,by subst hz3; exact capTL_at _ _ _ _ q2 hz (by omega),by show 0≤z2.2+z3; omega,by show z2.2+z3≤_; omega⟩
      case m4 =>
       have:l.length - (z2.1+1)<l.length - z2.1:=by omega
       exact this
    · cases hs
end Go.Proofs.YtdjnlgkpnjdchaaDoor
