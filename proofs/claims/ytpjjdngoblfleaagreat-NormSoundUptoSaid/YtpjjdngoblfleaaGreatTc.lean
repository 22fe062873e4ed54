/- The layer term: a function's sorts. -/
import Derived.Test.YtpjjdngoblfleaaGreatTb
namespace Go.Proofs.YtpjjdngoblfleaaGreat
open Go.RowKit
set_option linter.unusedVariables false
set_option maxRecDepth 100000
def frR:Option (ByteArray × ByteArray)→ByteArray
 | some (a,_)=>a
 | none=>⟨#[]⟩
def toR:Option (ByteArray × ByteArray)→ByteArray
 | some (_,b)=>b
 | none=>⟨#[]⟩
def funP (r:Option (ByteArray × ByteArray)):PV:=.tup [sV (frR r),sV (toR r),bV r.isSome]
def sFun:Spec
 | [.f (.dt .dat D),.f (.v (.string s))]=>some (some (s.size≤4611686018427387904),.nm (Option (ByteArray × ByteArray)) (funD D s) funP)
 | _=>none
theorem w8 (n:Int) (h1:0≤n) (h2:n≤255):IntKind.u8.wrap n=n:=by
 have:IntKind.u8.wrap n=n % 256:=by simp [IntKind.wrap,IntKind.bits,IntKind.signed]
 rw [this]; omega
theorem funD_conD {D:List Dat} {s:ByteArray} (h0:¬ s=bTag) (h1:2≤s.size) (h2:¬ (byN s (s.size - 2)≠46∨byN s (s.size - 1)<48∨57<byN s (s.size - 1))):funD D s=match conD D (s.extract 0 (s.size - 2)) with
  | some (d,c)=>if byN s (s.size - 1) - 48<c.fields.length then some (d,c.fields.getD (byN s (s.size - 1) - 48) ⟨#[]⟩) else none
  | none=>none:=by
 unfold funD
 rw [if_neg h0,if_neg (by omega),if_neg h2]
 generalize conD D (s.extract 0 (s.size - 2))=x
 cases x <;> rfl
theorem cFun {E:Env} (hU:Up E):Contract Tryz.prog E 113 sFun:=by
 refine contract_D [] [] Tryz.ntmps113 Tryz.func113 (by kernel_rfl) (by kernel_rfl) hU trivial trivial ?_
 intro xs p r hs hp
 unfold sFun at hs
 split at hs
 · rename_i D s
   cases hs
   refine ⟨[.f (.dt .dat D),.f (.v (.string s))],[(7,.s ⟨Nat,fun i=>⟨[(1,sV s),(7,iV (s.size - 2)),(40,.f (.dt .dat D)),(41,iV D.length),(42,iV i)],[]⟩,fun i=>i≤D.length∧conD (D.drop i) (s.extract 0 (s.size - 2))=conD D (s.extract 0 (s.size - 2)),fun i=>D.length - i⟩),
    (10,⟨Nat × Nat,fun x=>⟨[(1,sV s),(7,iV (s.size - 2)),(40,.f (.dt .dat D)),(41,iV D.length),(42,iV x.1),(9,.bp 0 0),(47,.f (.dt .con (Dat.cons (D.getD x.1 Sh.dat.nil)))),(48,iV (Dat.cons (D.getD x.1 Sh.dat.nil)).length),(49,iV x.2)],[.cells [sV (Dat.name (D.getD x.1 Sh.dat.nil)),.f (.dt .con (Dat.cons (D.getD x.1 Sh.dat.nil)))]]⟩,
     fun x=>x.1<D.length∧x.2≤(Dat.cons (D.getD x.1 Sh.dat.nil)).length∧conD (⟨Dat.name (D.getD x.1 Sh.dat.nil),(Dat.cons (D.getD x.1 Sh.dat.nil)).drop x.2⟩::D.drop (x.1+1)) (s.extract 0 (s.size - 2))=conD D (s.extract 0 (s.size - 2)),fun x=>(Dat.cons (D.getD x.1 Sh.dat.nil)).length - x.2,fun x y=>x.1=y.1⟩)],
    .cons (.refl _) (.cons (.refl _) .nil),rfl,fun _ hsh=>?_⟩
   have hl:=short_row hsh.1
   have hsz:=hp _ rfl
   have e1:IntKind.i64.wrap ((s.size:Int) - 2)=(s.size:Int) - 2:=wJ _ (by omega) (by omega)
   have e2:IntKind.i64.wrap ((s.size:Int) - 2+1)=(s.size:Int) - 1:=by rw [wJ _ (by omega) (by omega)]; omega
   have e3:((s.size:Int) - 2).toNat=s.size - 2:=by omega
   have e4:((s.size:Int) - 1).toNat=s.size - 1:=by omega
   have eb:∀ i,(s.data.toList.getD i 0).toNat=byN s i:=fun i=>rfl
   have fno:funD D s=none→∀ x,x=PV.tup [sV ⟨#[]⟩,sV ⟨#[]⟩,bV false]→Sub x (funP (funD D s)):=fun h x hx=>by rw [h,hx]; exact .refl _
   refine cast_rfl (p:=ifB (s.toList==(ByteArray.mk #[(116:UInt8),(97:UInt8),(103:UInt8)]).toList) (true=true∧Sub (PV.tup [sV (ByteArray.mk #[]),sV (ByteArray.mk #[(105:UInt8),(110:UInt8),(116:UInt8)]),bV true]) (PV.tup [sV (frR (funD D s)),sV (toR (funD D s)),bV ((funD D s).isSome)])) (ifB (decide (IntKind.i64.wrap ((↑s.size:Int) - (2:Int))<(0:Int))) (true=true∧Sub (PV.tup [sV (ByteArray.mk #[]),sV (ByteArray.mk #[]),bV false]) (PV.tup [sV (frR (funD D s)),sV (toR (funD D s)),bV ((funD D s).isSome)])) (((0:Int)≤IntKind.i64.wrap ((↑s.size:Int) - (2:Int))∧IntKind.i64.wrap ((↑s.size:Int) - (2:Int))<(↑s.size:Int))∧ifB ((↑(s.data.toList.getD (IntKind.i64.wrap ((↑s.size:Int) - (2:Int))).toNat (0:UInt8)).toNat:Int) != (46:Int)) (true=true∧Sub (PV.tup [sV (ByteArray.mk #[]),sV (ByteArray.mk #[]),bV false]) (PV.tup [sV (frR (funD D s)),sV (toR (funD D s)),bV ((funD D s).isSome)])) (((0:Int)≤IntKind.i64.wrap (IntKind.i64.wrap ((↑s.size:Int) - (2:Int))+(1:Int))∧IntKind.i64.wrap (IntKind.i64.wrap ((↑s.size:Int) - (2:Int))+(1:Int))<(↑s.size:Int))∧ifB (decide ((↑(s.data.toList.getD (IntKind.i64.wrap (IntKind.i64.wrap ((↑s.size:Int) - (2:Int))+(1:Int))).toNat (0:UInt8)).toNat:Int)<(48:Int))) (true=true∧Sub (PV.tup [sV (ByteArray.mk #[]),sV (ByteArray.mk #[]),bV false]) (PV.tup [sV (frR (funD D s)),sV (toR (funD D s)),bV ((funD D s).isSome)])) (((0:Int)≤IntKind.i64.wrap (IntKind.i64.wrap ((↑s.size:Int) - (2:Int))+(1:Int))∧IntKind.i64.wrap (IntKind.i64.wrap ((↑s.size:Int) - (2:Int))+(1:Int))<(↑s.size:Int))∧ifB (decide ((↑(s.data.toList.getD (IntKind.i64.wrap (IntKind.i64.wrap ((↑s.size:Int) - (2:Int))+(1:Int))).toNat (0:UInt8)).toNat:Int) > (57:Int))) (true=true∧Sub (PV.tup [sV (ByteArray.mk #[]),sV (ByteArray.mk #[]),bV false]) (PV.tup [sV (frR (funD D s)),sV (toR (funD D s)),bV ((funD D s).isSome)])) (∃ (x1:Nat),(True∧SubB (sV s) (sV s)∧SubB (iV (IntKind.i64.wrap ((↑s.size:Int) - (2:Int)))) (iV ((↑s.size:Int) - (2:Int)))∧SubB (PV.f (Lf.dt Sh.dat D)) (PV.f (Lf.dt Sh.dat D))∧SubB (iV (↑D.length:Int)) (iV (↑D.length:Int))∧SubB (iV 0) (iV (↑x1:Int))∧True)∧(x1≤D.length∧conD (List.drop x1 D) (s.extract 0 (s.size - 2))=conD D (s.extract 0 (s.size - 2)))∧True∧∀ (z2:Nat),z2≤D.length∧conD (List.drop z2 D) (s.extract 0 (s.size - 2))=conD D (s.extract 0 (s.size - 2))→True→ifB (decide ((↑z2:Int)<(↑D.length:Int))) (((0:Int)≤(↑z2:Int)∧(↑z2:Int)<(↑D.length:Int))∧∃ (x3:Nat × Nat),(((SubB (sV ((D.getD (↑z2:Int).toNat Sh.dat.nil).name)) (sV ((D.getD x3.fst Sh.dat.nil).name))∧SubB (PV.f (Lf.dt Sh.con (D.getD (↑z2:Int).toNat Sh.dat.nil).cons)) (PV.f (Lf.dt Sh.con (D.getD x3.fst Sh.dat.nil).cons))∧True)∧True)∧SubB (sV s) (sV s)∧SubB (iV ((↑s.size:Int) - (2:Int))) (iV ((↑s.size:Int) - (2:Int)))∧SubB (PV.f (Lf.dt Sh.dat D)) (PV.f (Lf.dt Sh.dat D))∧SubB (iV (↑D.length:Int)) (iV (↑D.length:Int))∧SubB (iV (↑z2:Int)) (iV (↑x3.fst:Int))∧SubB (PV.bp 0 0) (PV.bp 0 0)∧SubB (PV.f (Lf.dt Sh.con (D.getD (↑z2:Int).toNat Sh.dat.nil).cons)) (PV.f (Lf.dt Sh.con (D.getD x3.fst Sh.dat.nil).cons))∧SubB (iV (↑(D.getD (↑z2:Int).toNat Sh.dat.nil).cons.length:Int)) (iV (↑(D.getD x3.fst Sh.dat.nil).cons.length:Int))∧SubB (iV 0) (iV (↑x3.snd:Int))∧True)∧(x3.fst<D.length∧x3.snd≤(D.getD x3.fst Sh.dat.nil).cons.length∧conD (Dat.mk (D.getD x3.fst Sh.dat.nil).name (List.drop x3.snd (D.getD x3.fst Sh.dat.nil).cons)::List.drop (x3.fst+1) D) (s.extract 0 (s.size - 2))=conD D (s.extract 0 (s.size - 2)))∧x3.fst=x3.fst∧∀ (z4:Nat × Nat),z4.fst<D.length∧z4.snd≤(D.getD z4.fst Sh.dat.nil).cons.length∧conD (Dat.mk (D.getD z4.fst Sh.dat.nil).name (List.drop z4.snd (D.getD z4.fst Sh.dat.nil).cons)::List.drop (z4.fst+1) D) (s.extract 0 (s.size - 2))=conD D (s.extract 0 (s.size - 2))→x3.fst=z4.fst→ifB (decide ((↑z4.snd:Int)<(↑(D.getD z4.fst Sh.dat.nil).cons.length:Int))) (((0:Int)≤(↑z4.snd:Int)∧(↑z4.snd:Int)<(↑(D.getD z4.fst Sh.dat.nil).cons.length:Int))∧((0:Int)≤(0:Int)∧(0:Int)≤(↑s.size:Int) - (2:Int)∧(↑s.size:Int) - (2:Int)≤(↑s.size:Int))∧ifB (!((D.getD z4.fst Sh.dat.nil).cons.getD (↑z4.snd:Int).toNat Sh.con.nil).name.toList==(s.extract (Int.toNat (0:Int)) ((↑s.size:Int) - (2:Int)).toNat).toList) (∃ (x5:Nat × Nat),(((SubB (sV ((D.getD z4.fst Sh.dat.nil).name)) (sV ((D.getD x5.fst Sh.dat.nil).name))∧SubB (PV.f (Lf.dt Sh.con (D.getD z4.fst Sh.dat.nil).cons)) (PV.f (Lf.dt Sh.con (D.getD x5.fst Sh.dat.nil).cons))∧True)∧True)∧SubB (sV s) (sV s)∧SubB (iV ((↑s.size:Int) - (2:Int))) (iV ((↑s.size:Int) - (2:Int)))∧SubB (PV.f (Lf.dt Sh.dat D)) (PV.f (Lf.dt Sh.dat D))∧SubB (iV (↑D.length:Int)) (iV (↑D.length:Int))∧SubB (iV (↑z4.fst:Int)) (iV (↑x5.fst:Int))∧SubB (PV.bp 0 0) (PV.bp 0 0)∧SubB (PV.f (Lf.dt Sh.con (D.getD z4.fst Sh.dat.nil).cons)) (PV.f (Lf.dt Sh.con (D.getD x5.fst Sh.dat.nil).cons))∧SubB (iV (↑(D.getD z4.fst Sh.dat.nil).cons.length:Int)) (iV (↑(D.getD x5.fst Sh.dat.nil).cons.length:Int))∧SubB (iV (IntKind.i64.wrap ((↑z4.snd:Int)+(1:Int)))) (iV (↑x5.snd:Int))∧True)∧(x5.fst<D.length∧x5.snd≤(D.getD x5.fst Sh.dat.nil).cons.length∧conD (Dat.mk (D.getD x5.fst Sh.dat.nil).name (List.drop x5.snd (D.getD x5.fst Sh.dat.nil).cons)::List.drop (x5.fst+1) D) (s.extract 0 (s.size - 2))=conD D (s.extract 0 (s.size - 2)))∧x3.fst=x5.fst∧((D.getD x5.fst Sh.dat.nil).cons.length - x5.snd).succ.le ((D.getD z4.fst Sh.dat.nil).cons.length - z4.snd)) (((0:Int)≤IntKind.i64.wrap ((↑s.size:Int) - (2:Int)+(1:Int))∧IntKind.i64.wrap ((↑s.size:Int) - (2:Int)+(1:Int))<(↑s.size:Int))∧ifB (decide (IntKind.i64.wrap (IntKind.u8.wrap ((↑(s.data.toList.getD (IntKind.i64.wrap ((↑s.size:Int) - (2:Int)+(1:Int))).toNat (0:UInt8)).toNat:Int) - (48:Int)))<(↑((D.getD z4.fst Sh.dat.nil).cons.getD (↑z4.snd:Int).toNat Sh.con.nil).fields.length:Int))) (((0:Int)≤IntKind.i64.wrap (IntKind.u8.wrap ((↑(s.data.toList.getD (IntKind.i64.wrap ((↑s.size:Int) - (2:Int)+(1:Int))).toNat (0:UInt8)).toNat:Int) - (48:Int)))∧IntKind.i64.wrap (IntKind.u8.wrap ((↑(s.data.toList.getD (IntKind.i64.wrap ((↑s.size:Int) - (2:Int)+(1:Int))).toNat (0:UInt8)).toNat:Int) - (48:Int)))<(↑((D.getD z4.fst Sh.dat.nil).cons.getD (↑z4.snd:Int).toNat Sh.con.nil).fields.length:Int))∧true=true∧Sub (PV.tup [sV ((D.getD z4.fst Sh.dat.nil).name),sV (((D.getD z4.fst Sh.dat.nil).cons.getD (↑z4.snd:Int).toNat Sh.con.nil).fields.getD (IntKind.i64.wrap (IntKind.u8.wrap ((↑(s.data.toList.getD (IntKind.i64.wrap ((↑s.size:Int) - (2:Int)+(1:Int))).toNat (0:UInt8)).toNat:Int) - (48:Int)))).toNat Sh.str.nil),bV true]) (PV.tup [sV (frR (funD D s)),sV (toR (funD D s)),bV ((funD D s).isSome)])) (true=true∧Sub (PV.tup [sV (ByteArray.mk #[]),sV (ByteArray.mk #[]),bV false]) (PV.tup [sV (frR (funD D s)),sV (toR (funD D s)),bV ((funD D s).isSome)])))) (∃ (x5:Nat),(True∧SubB (sV s) (sV s)∧SubB (iV ((↑s.size:Int) - (2:Int))) (iV ((↑s.size:Int) - (2:Int)))∧SubB (PV.f (Lf.dt Sh.dat D)) (PV.f (Lf.dt Sh.dat D))∧SubB (iV (↑D.length:Int)) (iV (↑D.length:Int))∧SubB (iV (IntKind.i64.wrap ((↑z4.fst:Int)+(1:Int)))) (iV (↑x5:Int))∧True)∧(x5≤D.length∧conD (List.drop x5 D) (s.extract 0 (s.size - 2))=conD D (s.extract 0 (s.size - 2)))∧True∧(D.length - x5).succ.le (D.length - z2))) (true=true∧Sub (PV.tup [sV (ByteArray.mk #[]),sV (ByteArray.mk #[]),bV false]) (PV.tup [sV (frR (funD D s)),sV (toR (funD D s)),bV ((funD D s).isSome)])))))))) (by kernel_rfl) ?_
   refine ifB_iff.2 ⟨fun hb0=>⟨rfl,?m0⟩,fun hb0=>ifB_iff.2 ⟨fun hb1=>⟨rfl,?m1⟩,fun hb1=>⟨?s0,ifB_iff.2 ⟨fun hb2=>⟨rfl,?m2⟩,fun hb2=>⟨?s1,ifB_iff.2 ⟨fun hb3=>⟨rfl,?m3⟩,fun hb3=>⟨?s2,ifB_iff.2 ⟨fun hb4=>⟨rfl,?m4⟩,fun hb4=>⟨?x0,⟨⟨trivial,⟨.refl _,⟨?m5,⟨.refl _,⟨.refl _,⟨?m6,trivial⟩⟩⟩⟩⟩⟩,⟨?s3,⟨trivial,fun z2=>fun hq5=>fun _=>ifB_iff.2 ⟨fun hb6=>⟨?s4,⟨?x1,⟨⟨⟨⟨?m7,⟨?m8,trivial⟩⟩,trivial⟩,⟨.refl _,⟨.refl _,⟨.refl _,⟨.refl _,⟨?m9,⟨.refl _,⟨?m10,⟨?m11,⟨?m12,trivial⟩⟩⟩⟩⟩⟩⟩⟩⟩⟩,⟨?s5,⟨rfl,fun z4=>fun hq7=>fun hq8=>ifB_iff.2 ⟨fun hb9=>⟨?s6,⟨?s7,ifB_iff.2 ⟨fun hb10=>⟨?x2,⟨⟨⟨⟨?m13,⟨?m14,trivial⟩⟩,trivial⟩,⟨.refl _,⟨.refl _,⟨.refl _,⟨.refl _,⟨?m15,⟨.refl _,⟨?m16,⟨?m17,⟨?m18,trivial⟩⟩⟩⟩⟩⟩⟩⟩⟩⟩,⟨?s8,⟨?s9,?m19⟩⟩⟩⟩,fun hb10=>⟨?s10,ifB_iff.2 ⟨fun hb11=>⟨?s11,⟨rfl,?m20⟩⟩,fun hb11=>⟨rfl,?m21⟩⟩⟩⟩⟩⟩,fun hb9=>⟨?x3,⟨⟨trivial,⟨.refl _,⟨.refl _,⟨.refl _,⟨.refl _,⟨?m22,trivial⟩⟩⟩⟩⟩⟩,⟨?s12,⟨trivial,?m23⟩⟩⟩⟩⟩⟩⟩⟩⟩⟩,fun hb6=>⟨rfl,?m24⟩⟩⟩⟩⟩⟩⟩⟩⟩⟩⟩⟩⟩⟩
   case x0=>exact 0
   case x1=>exact (z2,0)
   case x2=>exact (z4.1,z4.2+1)
   case x3=>exact z2+1
   all_goals try simp only [bs_l,Bool.not_eq_true',Bool.not_eq_false',decide_eq_true_eq,decide_eq_false_iff_not] at *
   all_goals try simp only [e1] at *
   all_goals try simp only [e2] at *
   all_goals try simp only [e3,e4,eb,Int.toNat_natCast,bne_iff_ne,ne_eq,bne_eq_false_iff_eq,Int.toNat_zero] at *
   case m0 =>
    have hf:funD D s=some (⟨#[]⟩,bInt):=by unfold funD; exact if_pos hb0
    show Sub _ (funP (funD D s))
    rw [hf]; exact .refl _
   case m1=>exact fno (by unfold funD; rw [if_neg (show ¬ s=bTag from hb0),if_pos (by omega)]) _ rfl
   case s0=>omega
   case m2=>exact fno (by unfold funD; rw [if_neg (show ¬ s=bTag from hb0),if_neg (by omega),if_pos (by omega)]) _ rfl
   case s1=>omega
   case m3=>exact fno (by unfold funD; rw [if_neg (show ¬ s=bTag from hb0),if_neg (by omega),if_pos (by omega)]) _ rfl
   case s2=>omega
   case m4=>exact fno (by unfold funD; rw [if_neg (show ¬ s=bTag from hb0),if_neg (by omega),if_pos (by omega)]) _ rfl
   case s3=>exact ⟨Nat.zero_le _,rfl⟩
   case s4=>omega
   case s5 =>
    have hz:z2<D.length:=by omega
    refine ⟨hz,Nat.zero_le _,?_⟩
    rw [List.drop_zero,← hq5.2,drop_at D Sh.dat.nil hz]
   case s6=>omega
   case s7=>omega
   case m18 =>
    have hc:=short_deep (j:=1) (s':=.con) hsh.1 hq7.1 rfl
    exact subB_i (by rw [wJ _ (by omega) (by omega)]; omega)
   case s8 =>
    have hk:z4.2<(Dat.cons (D.getD z4.1 Sh.dat.nil)).length:=by omega
    refine ⟨hq7.1,hk,?_⟩
    rw [← hq7.2.2,drop_at (Dat.cons (D.getD z4.1 Sh.dat.nil)) Sh.con.nil hk,conD_step,if_neg hb10]
   case s9=>exact hq8
   case m19 =>
    have:(Dat.cons (D.getD z4.1 Sh.dat.nil)).length - (z4.2+1)<(Dat.cons (D.getD z4.1 Sh.dat.nil)).length - z4.2:=by omega
    exact this
   case s10=>omega
   case s11=>exact ⟨by rw [w8 _ (by omega) (by omega),wJ _ (by omega) (by omega)]; omega,hb11⟩
   case m20 =>
    have hk:z4.2<(Dat.cons (D.getD z4.1 Sh.dat.nil)).length:=by omega
    have hc:=hq7.2.2
    rw [drop_at _ Sh.con.nil hk,conD_step,if_pos hb10] at hc
    have ed:IntKind.i64.wrap (IntKind.u8.wrap ((byN s (s.size - 1):Int) - 48))=((byN s (s.size - 1) - 48:Nat):Int):=by rw [w8 _ (by omega) (by omega),wJ _ (by omega) (by omega)]; omega
    rw [ed] at hb11 ⊢
    have hf:=funD_conD (D:=D) (show ¬ s=bTag from hb0) (by omega) (by omega)
    rw [← hc] at hf
    dsimp only at hf
    rw [if_pos (by omega)] at hf
    show Sub _ (funP (funD D s))
    rw [hf,Int.toNat_natCast]; exact .refl _
   case m21 =>
    have hk:z4.2<(Dat.cons (D.getD z4.1 Sh.dat.nil)).length:=by omega
    have hc:=hq7.2.2
    rw [drop_at _ Sh.con.nil hk,conD_step,if_pos hb10] at hc
    have ed:IntKind.i64.wrap (IntKind.u8.wrap ((byN s (s.size - 1):Int) - 48))=((byN s (s.size - 1) - 48:Nat):Int):=by rw [w8 _ (by omega) (by omega),wJ _ (by omega) (by omega)]; omega
    rw [ed] at hb11
    have hf:=funD_conD (D:=D) (show ¬ s=bTag from hb0) (by omega) (by omega)
    rw [← hc] at hf
    dsimp only at hf
    rw [if_neg (by omega)] at hf
    exact fno hf _ rfl
   case m22=>exact subB_i (by rw [wJ _ (by omega) (by omega)]; omega)
   case s12 =>
    have hz:z2<D.length:=by omega
    refine ⟨hz,?_⟩
    have hc:=hq7.2.2
    have he:z4.2=(Dat.cons (D.getD z4.1 Sh.dat.nil)).length:=by omega
    rw [he,List.drop_length,conD_skip,← hq8] at hc
    exact hc
   case m23 =>
    have:D.length - (z2+1)<D.length - z2:=by omega
    exact this
   case m24 =>
    have hc:=hq5.2
    rw [List.drop_eq_nil_of_le (by omega),conD_end] at hc
    have hf:=funD_conD (D:=D) (show ¬ s=bTag from hb0) (by omega) (by omega)
    rw [← hc] at hf
    exact fno hf _ rfl
   all_goals exact .refl _
 · cases hs
theorem endU_need {n0:Nat} {p:Prop} {o:Out} {t:Bool} {x:PV} {ob:List PO} (h:EndU n0 o.fin t x ob):EndU n0 (Out.need p o).fin t x ob:=h
theorem funS_ok {D:List Dat} {n k:ByteArray} {z:Option (ByteArray × ByteArray)} (hz:z=funD D n) (h0:z.isSome=true) (h1:dataB D k=true) (h2:n=bTag∨frR z=k) (h3:baseB D (toR z)=true):funS D n k=.ok (toR z):=by
 unfold funS
 rw [← hz]
 obtain _ | ⟨u,v⟩:=z
 · cases h0
 · have h2':(decide (n=bTag) || decide (u=k))=true:=by
    rcases h2 with h | h
    · simp [h]
    · simp [show u=k from h]
   have h3':baseB D v=true:=h3
   dsimp only
   rw [h1,h2',h3']
   rfl
theorem funS_no {D:List Dat} {n k:ByteArray} {z:Option (ByteArray × ByteArray)} (hz:z=funD D n) (h:¬ (z.isSome=true∧dataB D k=true∧(n=bTag∨frR z=k)∧baseB D (toR z)=true)):funS D n k=.error 23:=by
 unfold funS
 rw [← hz]
 obtain _ | ⟨u,v⟩:=z
 · rfl
 · dsimp only
   rw [if_neg]
   intro hc
   simp only [Bool.and_eq_true,Bool.or_eq_true,decide_eq_true_eq] at hc
   exact h ⟨rfl,hc.1,hc.2.1,hc.2.2⟩
def sApp:Spec2
 | [.bp 0 0,.f (.v (.string n)),.f (.v (.string k))],[.cells [.f (.dt .dat D),.f (.dt .srt S)]]=>some (.need (n.size≤4611686018427387904) (outE ⟨#[]⟩ sV (funS D n k) (soO D S)))
 | _,_=>none
theorem cApp {E:Env} (hU:Up E):Contract2 Tryz.prog E 76 sApp:=by
 refine contract2 [(113,sFun)] [(114,sData),(112,sBase),(73,sMust)] Tryz.ntmps76 Tryz.func76 (by kernel_rfl) (by kernel_rfl) hU ⟨cFun hU,trivial⟩ ⟨cData hU,cBase hU,cMust hU,trivial⟩ ?_
 intro xs ob o hs hok
 unfold sApp at hs
 split at hs
 · rename_i n k D S
   cases hs
   refine ⟨[.bp 0 0,.f (.v (.string n)),.f (.v (.string k))],[],.cons (.refl _) (.cons (.refl _) (.cons (.refl _) .nil)),rfl,fun _ _=>?_⟩
   have hn:=hok.1
   refine cast_rfl (p:=n.size≤4611686018427387904∧∀ (z1:Option (ByteArray × ByteArray)),z1=funD D n→ifB z1.isSome (ifB (dataB D k) (ifB (n.toList==(ByteArray.mk #[(116:UInt8),(97:UInt8),(103:UInt8)]).toList) (ifB (baseB D (toR z1)) (EndU 1 (Out.need (n.size≤4611686018427387904) (outE (ByteArray.mk #[]) sV (funS D n k) (soO D S))).fin true (sV (toR z1)) [PO.cells [PV.f (Lf.dt Sh.dat D),PV.f (Lf.dt Sh.srt S)]]) (EndU 1 (Out.need (n.size≤4611686018427387904) (outE (ByteArray.mk #[]) sV (funS D n k) (soO D S))).fin false (PV.ifc 45 (iV 23)) [PO.cells [PV.f (Lf.dt Sh.dat D),PV.f (Lf.dt Sh.srt S)]])) (ifB ((frR z1).toList==k.toList) (ifB (baseB D (toR z1)) (EndU 1 (Out.need (n.size≤4611686018427387904) (outE (ByteArray.mk #[]) sV (funS D n k) (soO D S))).fin true (sV (toR z1)) [PO.cells [PV.f (Lf.dt Sh.dat D),PV.f (Lf.dt Sh.srt S)]]) (EndU 1 (Out.need (n.size≤4611686018427387904) (outE (ByteArray.mk #[]) sV (funS D n k) (soO D S))).fin false (PV.ifc 45 (iV 23)) [PO.cells [PV.f (Lf.dt Sh.dat D),PV.f (Lf.dt Sh.srt S)]])) (EndU 1 (Out.need (n.size≤4611686018427387904) (outE (ByteArray.mk #[]) sV (funS D n k) (soO D S))).fin false (PV.ifc 45 (iV 23)) [PO.cells [PV.f (Lf.dt Sh.dat D),PV.f (Lf.dt Sh.srt S)]]))) (EndU 1 (Out.need (n.size≤4611686018427387904) (outE (ByteArray.mk #[]) sV (funS D n k) (soO D S))).fin false (PV.ifc 45 (iV 23)) [PO.cells [PV.f (Lf.dt Sh.dat D),PV.f (Lf.dt Sh.srt S)]])) (EndU 1 (Out.need (n.size≤4611686018427387904) (outE (ByteArray.mk #[]) sV (funS D n k) (soO D S))).fin false (PV.ifc 45 (iV 23)) [PO.cells [PV.f (Lf.dt Sh.dat D),PV.f (Lf.dt Sh.srt S)]])) (by kernel_rfl) ?_
   refine ⟨?s0,fun z1=>fun hz1=>ifB_iff.2 ⟨fun hb0=>ifB_iff.2 ⟨fun hb1=>ifB_iff.2 ⟨fun hb2=>ifB_iff.2 ⟨fun hb3=>?m0,fun hb3=>?m1⟩,fun hb2=>ifB_iff.2 ⟨fun hb4=>ifB_iff.2 ⟨fun hb5=>?m2,fun hb5=>?m3⟩,fun hb4=>?m4⟩⟩,fun hb1=>?m5⟩,fun hb0=>?m6⟩⟩
   case s0=>exact hn
   all_goals try simp only [bs_l,decide_eq_true_eq,decide_eq_false_iff_not] at *
   case m0=>exact endU_need (endU (ob:=soO D S) (outE_ok (funS_ok hz1 hb0 hb1 (.inl hb2) hb3)) (.refl _) rfl rfl (r:=[]) rfl)
   case m2=>exact endU_need (endU (ob:=soO D S) (outE_ok (funS_ok hz1 hb0 hb1 (.inr hb4) hb5)) (.refl _) rfl rfl (r:=[]) rfl)
   case m1=>exact endU_need (endU (ob:=soO D S) (outE_err (funS_no hz1 (fun h=>by have:=h.2.2.2; rw [hb3] at this; cases this))) (.refl _) rfl rfl (r:=[]) rfl)
   case m3=>exact endU_need (endU (ob:=soO D S) (outE_err (funS_no hz1 (fun h=>by have:=h.2.2.2; rw [hb5] at this; cases this))) (.refl _) rfl rfl (r:=[]) rfl)
   case m4=>exact endU_need (endU (ob:=soO D S) (outE_err (funS_no hz1 (fun h=>h.2.2.1.elim hb2 hb4))) (.refl _) rfl rfl (r:=[]) rfl)
   case m5=>exact endU_need (endU (ob:=soO D S) (outE_err (funS_no hz1 (fun h=>by have:=h.2.1; rw [hb1] at this; cases this))) (.refl _) rfl rfl (r:=[]) rfl)
   case m6=>exact endU_need (endU (ob:=soO D S) (outE_err (funS_no hz1 (fun h=>by have:=h.1; rw [hb0] at this; cases this))) (.refl _) rfl rfl (r:=[]) rfl)
 · cases hs
end Go.Proofs.YtpjjdngoblfleaaGreat
