/- The reference's reader takes back a term's text; what it takes has a short text. -/
import Derived.Test.YtdeacbdpmdfgdaaDoorYb
import Derived.Test.YtdeacbdpmdfgdaaDoorTp
import Derived.Test.YtdeacbdpmdfgdaaDoorKr
set_option linter.unusedSimpArgs false
namespace Go.Proofs.YtdeacbdpmdfgdaaDoor
open Go.RowKit
set_option linter.unusedVariables false
set_option maxRecDepth 100000
theorem num_is {m n:Nat} {l:List UInt8} (h:numW m l=some n):l=Lib.decDigits n∧n≤m:=by
 unfold numW at h
 split at h
 · rename_i hc; cases h; exact ⟨hc.1.symm,hc.2⟩
 · cases h
theorem limb_is:∀ {f:Nat} {l:List UInt8} {ds:List Nat},limbW f l=some ds→l=digsC ds∧∀ x∈ds,x<4294967296
 | f,[],ds,h=>by
  have e:limbW f []=some []:=by cases f <;> rw [limbW]
  rw [e] at h
  cases h
  exact ⟨rfl,fun x hx=>by cases hx⟩
 | 0,x::l,ds,h=>by simp [limbW] at h
 | f+1,x::l,ds,h=>by
  rw [limbW] at h
  split at h
  · cases h
  · rename_i d r hc
    split at h
    · rename_i n k h1 h2
      cases h
      obtain ⟨e1,-⟩:=cut_len hc
      obtain ⟨e2,h3⟩:=num_is h1
      obtain ⟨e3,h4⟩:=limb_is h2
      refine ⟨?_,fun x hx=>?_⟩
      · rw [e1,e2,e3,digsC]
      · rcases List.mem_cons.1 hx with rfl | hx
        · omega
        · exact h4 x hx
    · cases h
theorem neg_is (x:List UInt8):x=(if (negW x).1=true then [45] else [])++(negW x).2:=by
 cases x with
 | nil=>rfl
 | cons y l =>
  show y::l=(if (if y=45 then (true,l) else (false,y::l)).1=true then [45] else [])++(if y=45 then (true,l) else (false,y::l)).2
  by_cases h:y=45
  · subst h; rfl
  · rw [if_neg h]; rfl
theorem take_get {l:List UInt8} {n:Nat} (h:n<l.length) (hc:l.getD n 0=32):l=l.take n++32::l.drop (n+1):=by
 conv=>lhs; rw [← List.take_append_drop n l]
 rw [List.drop_eq_getElem_cons h]
 rw [List.getD_eq_getElem?_getD,List.getElem?_eq_getElem h,Option.getD_some] at hc
 rw [hc]
theorem head_is {s:List UInt8} {l:List Tw} {r:List UInt8} (h:HdOk s) (hl:l.length=hM s) (he:(hE s).2=keyBL l++r):s=keyB (headTw s l)++r:=by
 obtain ⟨e1,-⟩:=cut_len (some_get ([],[]) h.a)
 obtain ⟨e2,-⟩:=cut_len (some_get ([],[]) h.b)
 obtain ⟨e5,-⟩:=cut_len (some_get ([],[]) h.c)
 obtain ⟨e7,-⟩:=cut_len (some_get ([],[]) h.e)
 change s=(hA s).1++32::(hA s).2 at e1
 change (hA s).2=(hB s).1++58::(hB s).2 at e2
 change hR s=(hC s).1++32::(hC s).2 at e5
 change (hC s).2=(hE s).1++59::(hE s).2 at e7
 obtain ⟨n1,-⟩:=num_is (some_get 0 h.k)
 obtain ⟨n2,-⟩:=num_is (some_get 0 h.n)
 obtain ⟨n3,-⟩:=num_is (some_get 0 h.m)
 change (hA s).1=Lib.decDigits (hK s) at n1
 change (hB s).1=Lib.decDigits (hN s) at n2
 change (hE s).1=Lib.decDigits (hM s) at n3
 obtain ⟨d1,-⟩:=limb_is (some_get [] h.l)
 change hD s=digsC (hL s) at d1
 have r1:=take_get h.r.1 h.r.2
 change (hB s).2=(hB s).2.take (hN s)++32::hR s at r1
 have c1:=neg_is (hC s).1
 change (hC s).1=(if (negW (hC s).1).1=true then [45] else [])++hD s at c1
 have z:(⟨⟨(hB s).2.take (hN s)⟩⟩:ByteArray).size=hN s:=by
  show ((hB s).2.take (hN s)).length=_
  rw [List.length_take]; have:=h.r.1; omega
 unfold headTw
 rw [key_cut,z,Int.toNat_natCast]
 unfold restA restB
 rw [hl,← n1,← n2,← n3,← he]
 rw [← e7,← d1,← c1,← e5]
 show s=(hA s).1++32::((hB s).1++58::((hB s).2.take (hN s)++32::hR s))
 rw [← r1,← e2,← e1]
theorem head_kind {s:List UInt8} {l:List Tw} (h:HdOk s) (hk:kindRL l):kindR (headTw s l):=by
 obtain ⟨-,n1⟩:=num_is (some_get 0 h.k)
 obtain ⟨-,d1⟩:=limb_is (some_get [] h.l)
 change hK s≤255 at n1
 exact ⟨⟨⟨by omega,by omega⟩,d1⟩,hk⟩
mutual
theorem readT_is:∀ {f:Nat} {s r:List UInt8} {t:Tw},readT f s=some (t,r)→s=keyB t++r∧kindR t
 | 0,s,r,t,h=>by rw [readT] at h; cases h
 | f+1,s,r,t,h=>by
  by_cases hh:HdOk s
  · rw [readT_ok hh] at h
    split at h
    · rename_i l r' hl
      cases h
      obtain ⟨h1,h2,h3⟩:=readL_is hl
      exact ⟨head_is hh h2 h1,head_kind hh h3⟩
    · cases h
  · rw [readT_no hh] at h; cases h
theorem readL_is:∀ {f m:Nat} {s r:List UInt8} {l:List Tw},readL f m s=some (l,r)→s=keyBL l++r∧l.length=m∧kindRL l
 | f,0,s,r,l,h=>by
  rw [readL_zero] at h
  cases h
  exact ⟨rfl,rfl,trivial⟩
 | 0,m+1,s,r,l,h=>by rw [readL] at h; cases h
 | f+1,m+1,s,r,l,h=>by
  rw [readL] at h
  split at h
  · cases h
  · rename_i t r1 h1
    split at h
    · cases h
    · rename_i l' r' h2
      cases h
      obtain ⟨e1,k1⟩:=readT_is h1
      obtain ⟨e2,hm,k2⟩:=readL_is h2
      refine ⟨?_,by rw [List.length_cons,hm],k1,k2⟩
      rw [e1,e2,keyBL,List.append_assoc]
end
theorem rdO_is {s r:List UInt8} {t:Tw} (h:rdO s=some (t,r)):s=keyB t++r∧kindR t:=readT_is h
theorem key_rd {t:Tw} (hk:kindR t) (hs:shortT t):rdO (keyB t)=some (t,[]):=by
 have h:=read_at t (2 * t.size+(keyB t).length+1) [] hk hs (by omega)
 rw [List.append_nil] at h
 rw [rdO,(fuels (keyB t).length).1 (keyB t) ((keyB t).length+1) (2 * t.size+(keyB t).length+1) (Nat.le_refl _) (by omega) (by omega)]
 exact h
end Go.Proofs.YtdeacbdpmdfgdaaDoor
namespace Go.Proofs.YtdeacbdpmdfgdaaDoor
open Go.RowKit
set_option linter.unusedVariables false
set_option maxRecDepth 100000
def byR (s:List UInt8) (a:Int):Int:=((s.getD a.toNat 0).toNat:Int)
def sgnR (s:List UInt8) (a c:Int):Bool:=decide (a<(s.length:Int)) && decide (byR s a=c)
theorem sgnR_far {s:List UInt8} {a c:Int} (h:¬ a<(s.length:Int)):sgnR s a c=false:=by unfold sgnR; rw [decide_eq_false h]; rfl
theorem sgnR_near {s:List UInt8} {a c:Int} (h:a<(s.length:Int)):sgnR s a c=(((s.getD a.toNat 0).toNat:Int)==c):=by unfold sgnR; rw [decide_eq_true h]; rfl
theorem sz_list (s:ByteArray):(s.data.toList.length:Int)=s.size:=by rw [Array.length_toList]; rfl
def sSignR:Spec2
 | [.bp 0 0,.f (.v (.int .u8 c))],[.cells [.f (.v (.string s)),.f (.v (.int .i64 a)),.f (.v (.bool b))]]=>some (.need (0≤a∧a≤4611686018427387904) (.ret (.tup []) [.cells [sV s,iV (a+1),bV (b || !sgnR s.data.toList a c)]]))
 | _,_=>none
theorem cSignR {E:Env} (hU:Up E):Contract2 Tryd.prog E 73 sSignR:=by
 refine contract2 [] [] Tryd.ntmps73 Tryd.func73 (by kernel_rfl) (by kernel_rfl) hU trivial trivial ?_
 intro xs ob o hs hok
 unfold sSignR at hs
 split at hs
 · rename_i c s a b
   cases hs
   obtain ⟨⟨ha,ha1⟩,-⟩:=hok
   refine ⟨[.bp 0 0,.f (.v (.int .u8 c))],[],.cons (.refl _) (.cons (.refl _) .nil),rfl,fun _ hsh=>?_⟩
   have h0:=ha
   refine cast_rfl (p:=ifB b (EndU 1 (Out.need ((0:Int)≤a∧a≤(4611686018427387904:Int)) (Out.ret (PV.tup []) [PO.cells [sV s,iV (a+(1:Int)),bV (b || !sgnR s.data.toList a c)]])).fin true (PV.tup []) [PO.cells [sV s,iV (IntKind.i64.wrap (a+(1:Int))),bV true]]) (ifB (decide (a ≥ (↑s.size:Int))) (EndU 1 (Out.need ((0:Int)≤a∧a≤(4611686018427387904:Int)) (Out.ret (PV.tup []) [PO.cells [sV s,iV (a+(1:Int)),bV (b || !sgnR s.data.toList a c)]])).fin true (PV.tup []) [PO.cells [sV s,iV (IntKind.i64.wrap (a+(1:Int))),bV true]]) (((0:Int)≤a∧a<(↑s.size:Int))∧EndU 1 (Out.need ((0:Int)≤a∧a≤(4611686018427387904:Int)) (Out.ret (PV.tup []) [PO.cells [sV s,iV (a+(1:Int)),bV (b || !sgnR s.data.toList a c)]])).fin true (PV.tup []) [PO.cells [sV s,iV (IntKind.i64.wrap (a+(1:Int))),bV ((↑(s.data.toList.getD a.toNat (0:UInt8)).toNat:Int) != c)]]))) ?kr ?_
   case kr=>kernel_rfl
   refine ifB_iff.2 ⟨fun hb0=>?m0,fun hb0=>ifB_iff.2 ⟨fun hb1=>?m1,fun hb1=>⟨?s0,?m2⟩⟩⟩
   all_goals have e:=wJ (a+1) (by omega) (by omega)
   all_goals have hz:=sz_list s
   all_goals try simp only [decide_eq_true_eq,decide_eq_false_iff_not,ge_iff_le] at *
   case s0=>omega
   all_goals rw [e]
   case m0=>subst hb0; exact endU_need (endU rfl (.refl _) rfl rfl (r:=[]) rfl)
   case m1 =>
    subst hb0
    rw [sgnR_far (by omega)]
    exact endU_need (endU rfl (.refl _) rfl rfl (r:=[]) rfl)
   case m2 =>
    subst hb0
    rw [sgnR_near (by omega)]
    exact endU_need (endU rfl (.refl _) rfl rfl (r:=[]) rfl)
 · cases hs
def sNextR:Spec2
 | [.bp 0 0,.f (.v (.int .u8 c))],[.cells [.f (.v (.string s)),.f (.v (.int .i64 a)),.f (.v (.bool b))]]=>some (.need (0≤a) (.ret (bV (sgnR s.data.toList a c)) [.cells [sV s,iV a,bV b]]))
 | _,_=>none
theorem cNextR {E:Env} (hU:Up E):Contract2 Tryd.prog E 74 sNextR:=by
 refine contract2 [] [] Tryd.ntmps74 Tryd.func74 (by kernel_rfl) (by kernel_rfl) hU trivial trivial ?_
 intro xs ob o hs hok
 unfold sNextR at hs
 split at hs
 · rename_i c s a b
   cases hs
   obtain ⟨ha,-⟩:=hok
   refine ⟨[.bp 0 0,.f (.v (.int .u8 c))],[],.cons (.refl _) (.cons (.refl _) .nil),rfl,fun _ hsh=>?_⟩
   have h0:=ha
   refine cast_rfl (p:=ifB (decide (a<(↑s.size:Int))) (((0:Int)≤a∧a<(↑s.size:Int))∧EndU 1 (Out.need ((0:Int)≤a) (Out.ret (bV (sgnR s.data.toList a c)) [PO.cells [sV s,iV a,bV b]])).fin true (bV ((↑(s.data.toList.getD a.toNat (0:UInt8)).toNat:Int)==c)) [PO.cells [sV s,iV a,bV b]]) (EndU 1 (Out.need ((0:Int)≤a) (Out.ret (bV (sgnR s.data.toList a c)) [PO.cells [sV s,iV a,bV b]])).fin true (bV false) [PO.cells [sV s,iV a,bV b]])) ?kr ?_
   case kr=>kernel_rfl
   refine ifB_iff.2 ⟨fun hb0=>⟨?s0,?m0⟩,fun hb0=>?m1⟩
   all_goals have hz:=sz_list s
   all_goals try simp only [decide_eq_true_eq,decide_eq_false_iff_not] at *
   case s0=>omega
   case m0=>rw [sgnR_near (by omega)]; exact endU_need (endU rfl (.refl _) rfl rfl (r:=[]) rfl)
   case m1=>rw [sgnR_far (by omega)]; exact endU_need (endU rfl (.refl _) rfl rfl (r:=[]) rfl)
 · cases hs
def scanN (s:List UInt8) (m:Int):Nat→Int→Int→Int × Int
 | 0,n,a=>(n,a)
 | f+1,n,a=>if a<(s.length:Int)∧48≤byR s a∧byR s a≤57∧n≤m then scanN s m f (10 * n+(byR s a - 48)) (a+1) else (n,a)
def scanR (s:List UInt8) (m n a:Int):Int × Int:=scanN s m ((s.length:Int) - a).toNat n a
theorem scan_go {s:List UInt8} {m n a:Int} (h:a<(s.length:Int)∧48≤byR s a∧byR s a≤57∧n≤m):scanR s m n a=scanR s m (10 * n+(byR s a - 48)) (a+1):=by
 unfold scanR
 rw [show ((s.length:Int) - a).toNat=((s.length:Int) - (a+1)).toNat+1 by omega,scanN,if_pos h]
theorem scan_end {s:List UInt8} {m n a:Int} (h:¬ (a<(s.length:Int)∧48≤byR s a∧byR s a≤57∧n≤m)):scanR s m n a=(n,a):=by
 unfold scanR
 cases ((s.length:Int) - a).toNat with
 | zero=>rfl
 | succ f=>rw [scanN,if_neg h]
structure ScanAt (s:List UInt8) (m a:Int) (q:Int × Int):Prop where
 eq:scanR s m q.1 q.2=scanR s m 0 a
 n0:0≤q.1
 n1:q.1≤10 * m+9
 a0:a≤q.2
 a1:q.2=a∨q.2≤(s.length:Int)
theorem scanAt_zero {s:List UInt8} {m a:Int} (hm:0≤m):ScanAt s m a (0,a):=⟨rfl,Int.le_refl 0,by show (0:Int)≤_; omega,Int.le_refl a,.inl rfl⟩
theorem scanAt_go {s:List UInt8} {m a:Int} {q:Int × Int} (hq:ScanAt s m a q) (h:q.2<(s.length:Int)∧48≤byR s q.2∧byR s q.2≤57∧q.1≤m):ScanAt s m a (10 * q.1+(byR s q.2 - 48),q.2+1):=by
 obtain ⟨n,x⟩:=q
 obtain ⟨h1,h2,h3,h4,h5⟩:=hq
 dsimp only at *
 exact ⟨by rw [← h1]; exact (scan_go h).symm,by dsimp only; omega,by dsimp only; omega,by dsimp only; omega,.inr (by dsimp only; omega)⟩
theorem scanAt_end {s:List UInt8} {m a:Int} {q:Int × Int} (hq:ScanAt s m a q) (h:¬ (q.2<(s.length:Int)∧48≤byR s q.2∧byR s q.2≤57∧q.1≤m)):scanR s m 0 a=q:=by
 rw [← hq.eq,scan_end h]
theorem dig_wrap {x n:Int} (h:48≤x) (h':x≤57) (n0:0≤n) (n1:n≤1099511627776):IntKind.i64.wrap (IntKind.i64.wrap (10 * n)+IntKind.i64.wrap (IntKind.u8.wrap (x - 48)))=10 * n+(x - 48):=by
 have e:IntKind.u8.wrap (x - 48)=x - 48:=by
  have:=u8_id (k:=x - 48) (by omega) (by omega)
  rwa [Int.toNat_of_nonneg (by omega)] at this
 rw [e,wJ (10 * n) (by omega) (by omega),wJ (x - 48) (by omega) (by omega),wJ _ (by omega) (by omega)]
theorem num_end {P:Prop} {s:ByteArray} {m a c:Int} {b v:Bool} {q:Int × Int} (hq:ScanAt s.data.toList m a q) (hx:¬ (q.2<(s.data.toList.length:Int)∧48≤byR s.data.toList q.2∧byR s.data.toList q.2≤57∧q.1≤m)) (hv:v=(b || (decide (q.2=a) || (decide (q.1 > m) || !sgnR s.data.toList q.2 c)))) :
  EndU 1 (Out.need P (.nm (Int × Int) (scanR s.data.toList m 0 a) fun z=>.ret (iV z.1) [.cells [sV s,iV (z.2+1),bV (b || (decide (z.2=a) || (decide (z.1 > m) || !sgnR s.data.toList z.2 c)))]])).fin true (iV q.1) [.cells [sV s,iV (q.2+1),bV v]]:=by
 rw [scanAt_end hq hx,hv]
 exact endU_need (endU rfl (.refl _) rfl rfl (r:=[]) rfl)
def sNumR:Spec2
 | [.bp 0 0,.f (.v (.int .i64 m)),.f (.v (.int .u8 c))],[.cells [.f (.v (.string s)),.f (.v (.int .i64 a)),.f (.v (.bool b))]]=>some (.need ((0≤a∧a≤2305843009213693952)∧(0≤m∧m≤1099511627776)∧s.size≤1099511627776) (.nm (Int × Int) (scanR s.data.toList m 0 a) fun z=>.ret (iV z.1) [.cells [sV s,iV (z.2+1),bV (b || (decide (z.2=a) || (decide (z.1 > m) || !sgnR s.data.toList z.2 c)))]]))
 | _,_=>none
theorem cNumR {E:Env} (hU:Up E):Contract2 Tryd.prog E 72 sNumR:=by
 refine contract2 [] [(73,sSignR)] Tryd.ntmps72 Tryd.func72 (by kernel_rfl) (by kernel_rfl) hU trivial ⟨cSignR hU,trivial⟩ ?_
 intro xs ob o hs hok
 unfold sNumR at hs
 split at hs
 · rename_i m c s a b
   cases hs
   obtain ⟨⟨⟨ha,ha1⟩,⟨hm,hm1⟩,hs1⟩,-⟩:=hok
   refine ⟨[.bp 0 0,.f (.v (.int .i64 m)),.f (.v (.int .u8 c))],[(3,.s ⟨Int × Int,fun q=>⟨[(0,.bp 0 0),(1,.f (.v (.int .i64 m))),(2,.f (.v (.int .u8 c))),(7,iV q.1),(8,iV a)],[.cells [sV s,iV q.2,bV b]]⟩,fun q=>ScanAt s.data.toList m a q,fun q=>((s.size:Int) - q.2).toNat⟩)],.cons (.refl _) (.cons (.refl _) (.cons (.refl _) .nil)),rfl,fun _ hsh=>?_⟩
   have h0:=ha
   refine cast_rfl (p:=∃ (x1:Int × Int),(((SubB (sV s) (sV s)∧SubB (iV a) (iV x1.snd)∧SubB (bV b) (bV b)∧True)∧True)∧SubB (PV.bp 0 0) (PV.bp 0 0)∧SubB (iV m) (iV m)∧SubB (PV.f (Lf.v (Value.int IntKind.u8 c))) (PV.f (Lf.v (Value.int IntKind.u8 c)))∧SubB (iV 0) (iV x1.fst)∧SubB (iV a) (iV a)∧True)∧ScanAt s.data.toList m a x1∧True∧∀ (z2:Int × Int),ScanAt s.data.toList m a z2→True→ifB (decide (z2.snd<(↑s.size:Int))) (((0:Int)≤z2.snd∧z2.snd<(↑s.size:Int))∧ifB (decide ((↑(s.data.toList.getD z2.snd.toNat (0:UInt8)).toNat:Int) ≥ (48:Int))) (((0:Int)≤z2.snd∧z2.snd<(↑s.size:Int))∧ifB (decide ((↑(s.data.toList.getD z2.snd.toNat (0:UInt8)).toNat:Int)≤(57:Int))) (ifB (decide (z2.fst≤m)) (((0:Int)≤z2.snd∧z2.snd<(↑s.size:Int))∧∃ (x3:Int × Int),(((SubB (sV s) (sV s)∧SubB (iV (IntKind.i64.wrap (z2.snd+(1:Int)))) (iV x3.snd)∧SubB (bV b) (bV b)∧True)∧True)∧SubB (PV.bp 0 0) (PV.bp 0 0)∧SubB (iV m) (iV m)∧SubB (PV.f (Lf.v (Value.int IntKind.u8 c))) (PV.f (Lf.v (Value.int IntKind.u8 c)))∧SubB (iV (IntKind.i64.wrap (IntKind.i64.wrap ((10:Int) * z2.fst)+IntKind.i64.wrap (IntKind.u8.wrap ((↑(s.data.toList.getD z2.snd.toNat (0:UInt8)).toNat:Int) - (48:Int)))))) (iV x3.fst)∧SubB (iV a) (iV a)∧True)∧ScanAt s.data.toList m a x3∧True∧((↑s.size:Int) - x3.snd).toNat.succ.le ((↑s.size:Int) - z2.snd).toNat) (ifB b (((0:Int)≤z2.snd∧z2.snd≤(4611686018427387904:Int))∧EndU 1 (Out.need (((0:Int)≤a∧a≤(2305843009213693952:Int))∧((0:Int)≤m∧m≤(1099511627776:Int))∧s.size≤1099511627776) (Out.nm (Int × Int) (scanR s.data.toList m (0:Int) a) fun (z:Int × Int)=>Out.ret (iV z.fst) [PO.cells [sV s,iV (z.snd+(1:Int)),bV (b || (decide (z.snd=a) || (decide (z.fst > m) || !sgnR s.data.toList z.snd c)))]])).fin true (iV z2.fst) [PO.cells [sV s,iV (z2.snd+(1:Int)),bV (true || !sgnR s.data.toList z2.snd c)]]) (ifB (z2.snd==a) (((0:Int)≤z2.snd∧z2.snd≤(4611686018427387904:Int))∧EndU 1 (Out.need (((0:Int)≤a∧a≤(2305843009213693952:Int))∧((0:Int)≤m∧m≤(1099511627776:Int))∧s.size≤1099511627776) (Out.nm (Int × Int) (scanR s.data.toList m (0:Int) a) fun (z:Int × Int)=>Out.ret (iV z.fst) [PO.cells [sV s,iV (z.snd+(1:Int)),bV (b || (decide (z.snd=a) || (decide (z.fst > m) || !sgnR s.data.toList z.snd c)))]])).fin true (iV z2.fst) [PO.cells [sV s,iV (z2.snd+(1:Int)),bV (true || !sgnR s.data.toList z2.snd c)]]) (((0:Int)≤z2.snd∧z2.snd≤(4611686018427387904:Int))∧EndU 1 (Out.need (((0:Int)≤a∧a≤(2305843009213693952:Int))∧((0:Int)≤m∧m≤(1099511627776:Int))∧s.size≤1099511627776) (Out.nm (Int × Int) (scanR s.data.toList m (0:Int) a) fun (z:Int × Int)=>Out.ret (iV z.fst) [PO.cells [sV s,iV (z.snd+(1:Int)),bV (b || (decide (z.snd=a) || (decide (z.fst > m) || !sgnR s.data.toList z.snd c)))]])).fin true (iV z2.fst) [PO.cells [sV s,iV (z2.snd+(1:Int)),bV (decide (z2.fst > m) || !sgnR s.data.toList z2.snd c)]])))) (ifB b (((0:Int)≤z2.snd∧z2.snd≤(4611686018427387904:Int))∧EndU 1 (Out.need (((0:Int)≤a∧a≤(2305843009213693952:Int))∧((0:Int)≤m∧m≤(1099511627776:Int))∧s.size≤1099511627776) (Out.nm (Int × Int) (scanR s.data.toList m (0:Int) a) fun (z:Int × Int)=>Out.ret (iV z.fst) [PO.cells [sV s,iV (z.snd+(1:Int)),bV (b || (decide (z.snd=a) || (decide (z.fst > m) || !sgnR s.data.toList z.snd c)))]])).fin true (iV z2.fst) [PO.cells [sV s,iV (z2.snd+(1:Int)),bV (true || !sgnR s.data.toList z2.snd c)]]) (ifB (z2.snd==a) (((0:Int)≤z2.snd∧z2.snd≤(4611686018427387904:Int))∧EndU 1 (Out.need (((0:Int)≤a∧a≤(2305843009213693952:Int))∧((0:Int)≤m∧m≤(1099511627776:Int))∧s.size≤1099511627776) (Out.nm (Int × Int) (scanR s.data.toList m (0:Int) a) fun (z:Int × Int)=>Out.ret (iV z.fst) [PO.cells [sV s,iV (z.snd+(1:Int)),bV (b || (decide (z.snd=a) || (decide (z.fst > m) || !sgnR s.data.toList z.snd c)))]])).fin true (iV z2.fst) [PO.cells [sV s,iV (z2.snd+(1:Int)),bV (true || !sgnR s.data.toList z2.snd c)]]) (((0:Int)≤z2.snd∧z2.snd≤(4611686018427387904:Int))∧EndU 1 (Out.need (((0:Int)≤a∧a≤(2305843009213693952:Int))∧((0:Int)≤m∧m≤(1099511627776:Int))∧s.size≤1099511627776) (Out.nm (Int × Int) (scanR s.data.toList m (0:Int) a) fun (z:Int × Int)=>Out.ret (iV z.fst) [PO.cells [sV s,iV (z.snd+(1:Int)),bV (b || (decide (z.snd=a) || (decide (z.fst > m) || !sgnR s.data.toList z.snd c)))]])).fin true (iV z2.fst) [PO.cells [sV s,iV (z2.snd+(1:Int)),bV (decide (z2.fst > m) || !sgnR s.data.toList z2.snd c)]])))) (ifB b (((0:Int)≤z2.snd∧z2.snd≤(4611686018427387904:Int))∧EndU 1 (Out.need (((0:Int)≤a∧a≤(2305843009213693952:Int))∧((0:Int)≤m∧m≤(1099511627776:Int))∧s.size≤1099511627776) (Out.nm (Int × Int) (scanR s.data.toList m (0:Int) a) fun (z:Int × Int)=>Out.ret (iV z.fst) [PO.cells [sV s,iV (z.snd+(1:Int)),bV (b || (decide (z.snd=a) || (decide (z.fst > m) || !sgnR s.data.toList z.snd c)))]])).fin true (iV z2.fst) [PO.cells [sV s,iV (z2.snd+(1:Int)),bV (true || !sgnR s.data.toList z2.snd c)]]) (ifB (z2.snd==a) (((0:Int)≤z2.snd∧z2.snd≤(4611686018427387904:Int))∧EndU 1 (Out.need (((0:Int)≤a∧a≤(2305843009213693952:Int))∧((0:Int)≤m∧m≤(1099511627776:Int))∧s.size≤1099511627776) (Out.nm (Int × Int) (scanR s.data.toList m (0:Int) a) fun (z:Int × Int)=>Out.ret (iV z.fst) [PO.cells [sV s,iV (z.snd+(1:Int)),bV (b || (decide (z.snd=a) || (decide (z.fst > m) || !sgnR s.data.toList z.snd c)))]])).fin true (iV z2.fst) [PO.cells [sV s,iV (z2.snd+(1:Int)),bV (true || !sgnR s.data.toList z2.snd c)]]) (((0:Int)≤z2.snd∧z2.snd≤(4611686018427387904:Int))∧EndU 1 (Out.need (((0:Int)≤a∧a≤(2305843009213693952:Int))∧((0:Int)≤m∧m≤(1099511627776:Int))∧s.size≤1099511627776) (Out.nm (Int × Int) (scanR s.data.toList m (0:Int) a) fun (z:Int × Int)=>Out.ret (iV z.fst) [PO.cells [sV s,iV (z.snd+(1:Int)),bV (b || (decide (z.snd=a) || (decide (z.fst > m) || !sgnR s.data.toList z.snd c)))]])).fin true (iV z2.fst) [PO.cells [sV s,iV (z2.snd+(1:Int)),bV (decide (z2.fst > m) || !sgnR s.data.toList z2.snd c)]])))) (ifB b (((0:Int)≤z2.snd∧z2.snd≤(4611686018427387904:Int))∧EndU 1 (Out.need (((0:Int)≤a∧a≤(2305843009213693952:Int))∧((0:Int)≤m∧m≤(1099511627776:Int))∧s.size≤1099511627776) (Out.nm (Int × Int) (scanR s.data.toList m (0:Int) a) fun (z:Int × Int)=>Out.ret (iV z.fst) [PO.cells [sV s,iV (z.snd+(1:Int)),bV (b || (decide (z.snd=a) || (decide (z.fst > m) || !sgnR s.data.toList z.snd c)))]])).fin true (iV z2.fst) [PO.cells [sV s,iV (z2.snd+(1:Int)),bV (true || !sgnR s.data.toList z2.snd c)]]) (ifB (z2.snd==a) (((0:Int)≤z2.snd∧z2.snd≤(4611686018427387904:Int))∧EndU 1 (Out.need (((0:Int)≤a∧a≤(2305843009213693952:Int))∧((0:Int)≤m∧m≤(1099511627776:Int))∧s.size≤1099511627776) (Out.nm (Int × Int) (scanR s.data.toList m (0:Int) a) fun (z:Int × Int)=>Out.ret (iV z.fst) [PO.cells [sV s,iV (z.snd+(1:Int)),bV (b || (decide (z.snd=a) || (decide (z.fst > m) || !sgnR s.data.toList z.snd c)))]])).fin true (iV z2.fst) [PO.cells [sV s,iV (z2.snd+(1:Int)),bV (true || !sgnR s.data.toList z2.snd c)]]) (((0:Int)≤z2.snd∧z2.snd≤(4611686018427387904:Int))∧EndU 1 (Out.need (((0:Int)≤a∧a≤(2305843009213693952:Int))∧((0:Int)≤m∧m≤(1099511627776:Int))∧s.size≤1099511627776) (Out.nm (Int × Int) (scanR s.data.toList m (0:Int) a) fun (z:Int × Int)=>Out.ret (iV z.fst) [PO.cells [sV s,iV (z.snd+(1:Int)),bV (b || (decide (z.snd=a) || (decide (z.fst > m) || !sgnR s.data.toList z.snd c)))]])).fin true (iV z2.fst) [PO.cells [sV s,iV (z2.snd+(1:Int)),bV (decide (z2.fst > m) || !sgnR s.data.toList z2.snd c)]])))) ?kr ?_
   case kr=>kernel_rfl
   refine ⟨?x0,⟨⟨⟨⟨.refl _,⟨?m0,⟨.refl _,trivial⟩⟩⟩,trivial⟩,⟨.refl _,⟨.refl _,⟨.refl _,⟨?m1,⟨.refl _,trivial⟩⟩⟩⟩⟩⟩,⟨?s0,⟨trivial,fun z2=>fun hq0=>fun _=>ifB_iff.2 ⟨fun hb1=>⟨?s1,ifB_iff.2 ⟨fun hb2=>⟨?s2,ifB_iff.2 ⟨fun hb3=>ifB_iff.2 ⟨fun hb4=>⟨?s3,⟨?x1,⟨⟨⟨⟨.refl _,⟨?m2,⟨.refl _,trivial⟩⟩⟩,trivial⟩,⟨.refl _,⟨.refl _,⟨.refl _,⟨?m3,⟨.refl _,trivial⟩⟩⟩⟩⟩⟩,⟨?s4,⟨trivial,?m4⟩⟩⟩⟩⟩,fun hb4=>ifB_iff.2 ⟨fun hb5=>⟨?s5,?m5⟩,fun hb5=>ifB_iff.2 ⟨fun hb6=>⟨?s6,?m6⟩,fun hb6=>⟨?s7,?m7⟩⟩⟩⟩,fun hb3=>ifB_iff.2 ⟨fun hb7=>⟨?s8,?m8⟩,fun hb7=>ifB_iff.2 ⟨fun hb8=>⟨?s9,?m9⟩,fun hb8=>⟨?s10,?m10⟩⟩⟩⟩⟩,fun hb2=>ifB_iff.2 ⟨fun hb9=>⟨?s11,?m11⟩,fun hb9=>ifB_iff.2 ⟨fun hb10=>⟨?s12,?m12⟩,fun hb10=>⟨?s13,?m13⟩⟩⟩⟩⟩,fun hb1=>ifB_iff.2 ⟨fun hb11=>⟨?s14,?m14⟩,fun hb11=>ifB_iff.2 ⟨fun hb12=>⟨?s15,?m15⟩,fun hb12=>⟨?s16,?m16⟩⟩⟩⟩⟩⟩⟩⟩
   case x0=>exact (0,a)
   case x1=>exact (10 * z2.1+(byR s.data.toList z2.2 - 48),z2.2+1)
   all_goals have hz:=sz_list s
   all_goals try simp only [decide_eq_true_eq,decide_eq_false_iff_not,ge_iff_le,beq_iff_eq,beq_eq_false_iff_ne,ne_eq] at *
   case m0=>exact .refl _
   case m1=>exact .refl _
   case s0=>exact scanAt_zero hm
   all_goals have q1:=hq0.n0
   all_goals have q2:=hq0.n1
   all_goals have q3:=hq0.a0
   all_goals have q4:=hq0.a1
   case s1=>omega
   case s2=>omega
   case s3=>omega
   case m2=>exact subB_i (wJ _ (by omega) (by omega))
   case m3=>exact subB_i (dig_wrap hb2 hb3 q1 (by omega))
   case s4=>exact scanAt_go hq0 ⟨by omega,hb2,hb3,hb4⟩
   case m4=>exact (by show ((s.size:Int) - (z2.2+1)).toNat<((s.size:Int) - z2.2).toNat; omega)
   case s5=>exact ⟨by omega,by omega⟩
   case s6=>exact ⟨by omega,by omega⟩
   case s7=>exact ⟨by omega,by omega⟩
   case s8=>exact ⟨by omega,by omega⟩
   case s9=>exact ⟨by omega,by omega⟩
   case s10=>exact ⟨by omega,by omega⟩
   case s11=>exact ⟨by omega,by omega⟩
   case s12=>exact ⟨by omega,by omega⟩
   case s13=>exact ⟨by omega,by omega⟩
   case s14=>exact ⟨by omega,by omega⟩
   case s15=>exact ⟨by omega,by omega⟩
   case s16=>exact ⟨by omega,by omega⟩
   case m5=>exact num_end hq0 (fun h=>by obtain ⟨h1,h2,h3,h4⟩:=h; unfold byR at h2 h3; omega) (by rw [‹b=true›]; rfl)
   case m6=>exact num_end hq0 (fun h=>by obtain ⟨h1,h2,h3,h4⟩:=h; unfold byR at h2 h3; omega) (by rw [‹b=false›,decide_eq_true ‹z2.2=a›]; rfl)
   case m7=>exact num_end hq0 (fun h=>by obtain ⟨h1,h2,h3,h4⟩:=h; unfold byR at h2 h3; omega) (by rw [‹b=false›,decide_eq_false ‹¬ z2.2=a›]; rfl)
   case m8=>exact num_end hq0 (fun h=>by obtain ⟨h1,h2,h3,h4⟩:=h; unfold byR at h2 h3; omega) (by rw [‹b=true›]; rfl)
   case m9=>exact num_end hq0 (fun h=>by obtain ⟨h1,h2,h3,h4⟩:=h; unfold byR at h2 h3; omega) (by rw [‹b=false›,decide_eq_true ‹z2.2=a›]; rfl)
   case m10=>exact num_end hq0 (fun h=>by obtain ⟨h1,h2,h3,h4⟩:=h; unfold byR at h2 h3; omega) (by rw [‹b=false›,decide_eq_false ‹¬ z2.2=a›]; rfl)
   case m11=>exact num_end hq0 (fun h=>by obtain ⟨h1,h2,h3,h4⟩:=h; unfold byR at h2 h3; omega) (by rw [‹b=true›]; rfl)
   case m12=>exact num_end hq0 (fun h=>by obtain ⟨h1,h2,h3,h4⟩:=h; unfold byR at h2 h3; omega) (by rw [‹b=false›,decide_eq_true ‹z2.2=a›]; rfl)
   case m13=>exact num_end hq0 (fun h=>by obtain ⟨h1,h2,h3,h4⟩:=h; unfold byR at h2 h3; omega) (by rw [‹b=false›,decide_eq_false ‹¬ z2.2=a›]; rfl)
   case m14=>exact num_end hq0 (fun h=>by obtain ⟨h1,h2,h3,h4⟩:=h; unfold byR at h2 h3; omega) (by rw [‹b=true›]; rfl)
   case m15=>exact num_end hq0 (fun h=>by obtain ⟨h1,h2,h3,h4⟩:=h; unfold byR at h2 h3; omega) (by rw [‹b=false›,decide_eq_true ‹z2.2=a›]; rfl)
   case m16=>exact num_end hq0 (fun h=>by obtain ⟨h1,h2,h3,h4⟩:=h; unfold byR at h2 h3; omega) (by rw [‹b=false›,decide_eq_false ‹¬ z2.2=a›]; rfl)
 · cases hs
end Go.Proofs.YtdeacbdpmdfgdaaDoor
namespace Go.Proofs.YtdeacbdpmdfgdaaDoor
open Go.RowKit
set_option linter.unusedVariables false
set_option maxRecDepth 100000
def lnR (s:List UInt8):Int:=(s.length:Int)
def rdN (s:List UInt8) (m a:Int):Int:=(scanR s m 0 a).1
def rdP (s:List UInt8) (m a:Int):Int:=(scanR s m 0 a).2+1
def rdB (s:List UInt8) (m a c:Int):Bool:=decide ((scanR s m 0 a).2=a) || (decide ((scanR s m 0 a).1 > m) || !sgnR s (scanR s m 0 a).2 c)
theorem scan_at (s:List UInt8) (m:Int):∀ (f:Nat) (n a:Int),a≤(scanN s m f n a).2∧((scanN s m f n a).2=a∨(scanN s m f n a).2≤(s.length:Int))
 | 0,n,a=>⟨Int.le_refl a,.inl rfl⟩
 | f+1,n,a=>by
  rw [scanN]
  split
  · rename_i h
    have h1:=scan_at s m f (10 * n+(byR s a - 48)) (a+1)
    refine ⟨by omega,.inr ?_⟩
    rcases h1.2 with h2 | h2
    · rw [h2]; omega
    · exact h2
  · exact ⟨Int.le_refl a,.inl rfl⟩
theorem rdP_up (s:List UInt8) (m a:Int):a+1≤rdP s m a∧(rdP s m a=a+1∨rdP s m a≤lnR s+1):=by
 have h:=scan_at s m ((s.length:Int) - a).toNat 0 a
 unfold rdP lnR scanR
 omega
theorem rdB_far {s:List UInt8} {m a c:Int} (h:lnR s≤a):rdB s m a c=true:=by
 have e:scanR s m 0 a=(0,a):=scan_end fun h'=>by have:=h'.1; unfold lnR at h; omega
 unfold rdB
 rw [e,decide_eq_true rfl]
 rfl
def limF (s:List UInt8):Nat→List Nat→Int→Bool→List Nat × Int × Bool
 | 0,ds,a,b=>(ds,a,b)
 | f+1,ds,a,b=>if b=false∧sgnR s a 32=false then limF s f (ds++[(IntKind.u32.wrap (rdN s 4294967295 a)).toNat]) (rdP s 4294967295 a) (rdB s 4294967295 a 46) else (ds,a,b)
def limR (s:List UInt8) (ds:List Nat) (a:Int) (b:Bool):List Nat × Int × Bool:=limF s (lnR s+2 - a).toNat ds a b
theorem limF_stop {s:List UInt8} {ds:List Nat} {a:Int} {b:Bool} (h:¬ (b=false∧sgnR s a 32=false)) (f:Nat):limF s f ds a b=(ds,a,b):=by
 cases f with
 | zero=>rfl
 | succ f=>rw [limF,if_neg h]
theorem limF_fuel {s:List UInt8}:∀ (N:Nat) (f f':Nat) (ds:List Nat) (a:Int) (b:Bool),(lnR s+2 - a).toNat≤N→(lnR s+2 - a).toNat≤f→(lnR s+2 - a).toNat≤f'→a≤lnR s+1∨b=true→limF s f ds a b=limF s f' ds a b
 | N,f,f',ds,a,b,hN,hf,hf',hb=>by
  by_cases h:b=false∧sgnR s a 32=false
  · have ha:a≤lnR s+1:=hb.elim id fun e=>by rw [h.1] at e; cases e
    obtain ⟨g,rfl⟩:∃ g,f=g+1:=⟨f - 1,by omega⟩
    obtain ⟨g',rfl⟩:∃ g',f'=g'+1:=⟨f' - 1,by omega⟩
    have h1:=rdP_up s 4294967295 a
    rw [limF,limF,if_pos h,if_pos h]
    match N,hN with
    | 0,hN=>omega
    | M+1,hN =>
     refine limF_fuel M g g' _ _ _ (by omega) (by omega) (by omega) ?_
     rcases Int.lt_or_le a (lnR s) with h2 | h2
     · exact .inl (by omega)
     · exact .inr (rdB_far h2)
  · rw [limF_stop h,limF_stop h]
theorem limR_go {s:List UInt8} {ds:List Nat} {a:Int} (ha:a≤lnR s+1) (h:sgnR s a 32=false):limR s ds a false=limR s (ds++[(IntKind.u32.wrap (rdN s 4294967295 a)).toNat]) (rdP s 4294967295 a) (rdB s 4294967295 a 46):=by
 have h1:=rdP_up s 4294967295 a
 unfold limR
 rw [show (lnR s+2 - a).toNat=(lnR s+2 - a).toNat - 1+1 by omega,limF,if_pos ⟨rfl,h⟩]
 refine limF_fuel _ _ _ _ _ _ (Nat.le_refl _) (by omega) (Nat.le_refl _) ?_
 rcases Int.lt_or_le a (lnR s) with h2 | h2
 · exact .inl (by omega)
 · exact .inr (rdB_far h2)
theorem limR_stop {s:List UInt8} {ds:List Nat} {a:Int} {b:Bool} (h:¬ (b=false∧sgnR s a 32=false)):limR s ds a b=(ds,a,b):=limF_stop h _
end Go.Proofs.YtdeacbdpmdfgdaaDoor
namespace Go.Proofs.YtdeacbdpmdfgdaaDoor
open Go.RowKit
set_option linter.unusedVariables false
set_option maxRecDepth 100000
section
variable (s : List UInt8) (a : Int)
def tE1:Int:=rdP s 255 a
def tE2:Int:=rdP s (lnR s) (tE1 s a)
def tN:Int:=rdN s (lnR s) (tE1 s a)
def tB2:Bool:=rdB s 255 a 32 || rdB s (lnR s) (tE1 s a) 58
def tE3:Int:=tE2 s a+tN s a+1
def tB3:Bool:=!sgnR s (tE2 s a+tN s a) 32
def tG:Bool:=sgnR s (tE3 s a) 45
def tE4:Int:=if tG s a=true then tE3 s a+1 else tE3 s a
def tQ:List Nat × Int × Bool:=limR s [] (tE4 s a) (tB3 s a)
def tE6:Int:=(tQ s a).2.1+1
def tB6:Bool:=(tQ s a).2.2 || !sgnR s (tQ s a).2.1 32
def tM:Int:=rdN s (lnR s) (tE6 s a)
def tE7:Int:=rdP s (lnR s) (tE6 s a)
def tB7:Bool:=tB6 s a || rdB s (lnR s) (tE6 s a) 59
def tKd:Int:=IntKind.u8.wrap (rdN s 255 a)
def tNm:ByteArray:=bA ((s.take (tE2 s a+tN s a).toNat).drop (tE2 s a).toNat)
def tOut:Prop:=tB2 s a=true∨tN s a > lnR s - tE2 s a
end
instance (s:List UInt8) (a:Int):Decidable (tOut s a):=by unfold tOut; infer_instance
mutual
def refT (s:List UInt8):Nat→Int→Tw × Int × Bool
 | 0,a=>(Sh.tm.nil,a,true)
 | f+1,a=>if tOut s a then (.mk (tKd s a) ⟨#[]⟩ false [] [],tE2 s a,true) else
  (.mk (tKd s a) (tNm s a) (tG s a) (tQ s a).1 (refK s f (tM s a) (tE7 s a) (tB7 s a) 0 []).1,(refK s f (tM s a) (tE7 s a) (tB7 s a) 0 []).2)
def refK (s:List UInt8):Nat→Int→Int→Bool→Int→List Tw→List Tw × Int × Bool
 | 0,m,a,b,i,l=>(l,a,b)
 | f+1,m,a,b,i,l=>if i<m∧b=false then refK s f m (refT s f a).2.1 (refT s f a).2.2 (i+1) (l++[(refT s f a).1]) else (l,a,b)
end
theorem limF_up (s:List UInt8):∀ (f:Nat) (ds:List Nat) (a:Int) (b:Bool),a≤(limF s f ds a b).2.1
 | 0,ds,a,b=>Int.le_refl a
 | f+1,ds,a,b=>by
  rw [limF]
  split
  · have h1:=limF_up s f (ds++[(IntKind.u32.wrap (rdN s 4294967295 a)).toNat]) (rdP s 4294967295 a) (rdB s 4294967295 a 46)
    have h2:=rdP_up s 4294967295 a
    omega
  · exact Int.le_refl a
theorem scan_n0 (s:List UInt8) (m:Int):∀ (f:Nat) (n a:Int),0≤n→0≤(scanN s m f n a).1
 | 0,n,a,h=>h
 | f+1,n,a,h=>by
  rw [scanN]
  split
  · rename_i h1
    exact scan_n0 s m f _ _ (by omega)
  · exact h
theorem rdN_0 (s:List UInt8) (m a:Int):0≤rdN s m a:=scan_n0 s m _ 0 a (Int.le_refl 0)
theorem tE_up (s:List UInt8) (a:Int):a+2≤tE2 s a∧tE2 s a+3≤tE7 s a:=by
 have h1:=rdP_up s 255 a
 have h2:=rdP_up s (lnR s) (tE1 s a)
 have h3:=rdN_0 s (lnR s) (tE1 s a)
 have h4:=limF_up s (lnR s+2 - tE4 s a).toNat [] (tE4 s a) (tB3 s a)
 have h5:=rdP_up s (lnR s) (tE6 s a)
 have h6:tE3 s a≤tE4 s a:=by unfold tE4; split <;> omega
 change a+1≤tE1 s a∧_ at h1
 change tE1 s a+1≤tE2 s a∧_ at h2
 change 0≤tN s a at h3
 change tE4 s a≤(tQ s a).2.1 at h4
 change tE6 s a+1≤tE7 s a∧_ at h5
 have h7:tE3 s a=tE2 s a+tN s a+1:=rfl
 have h8:tE6 s a=(tQ s a).2.1+1:=rfl
 omega
mutual
theorem refT_up (s:List UInt8):∀ (f:Nat) (a:Int),a≤(refT s f a).2.1∧(0<f→a+2≤(refT s f a).2.1)
 | 0,a=>⟨Int.le_refl a,fun h=>absurd h (Nat.lt_irrefl 0)⟩
 | f+1,a=>by
  have h1:=tE_up s a
  rw [refT]
  split
  · exact ⟨by show a≤tE2 s a; omega,fun _=>by show a+2≤tE2 s a; omega⟩
  · have h2:=refK_up s f (tM s a) (tE7 s a) (tB7 s a) 0 []
    exact ⟨by dsimp only; omega,fun _=>by dsimp only; omega⟩
theorem refK_up (s:List UInt8):∀ (f:Nat) (m a:Int) (b:Bool) (i:Int) (l:List Tw),a≤(refK s f m a b i l).2.1
 | 0,m,a,b,i,l=>Int.le_refl a
 | f+1,m,a,b,i,l=>by
  rw [refK]
  split
  · have h1:=(refT_up s f a).1
    have h2:=refK_up s f m (refT s f a).2.1 (refT s f a).2.2 (i+1) (l++[(refT s f a).1])
    omega
  · exact Int.le_refl a
end
theorem rdB_in {s:List UInt8} {m a c:Int} (h:rdB s m a c=false):rdP s m a≤lnR s∧a<lnR s:=by
 have h0:a<lnR s:=by
  rcases Int.lt_or_le a (lnR s) with h1 | h1
  · exact h1
  · rw [rdB_far h1] at h; cases h
 have h2:sgnR s (scanR s m 0 a).2 c=true:=by
  unfold rdB at h
  cases hc:sgnR s (scanR s m 0 a).2 c with
  | true=>rfl
  | false=>rw [hc] at h; simp at h
 have h3:(scanR s m 0 a).2<(s.length:Int):=by
  unfold sgnR at h2
  rw [Bool.and_eq_true,decide_eq_true_eq] at h2
  exact h2.1
 refine ⟨?_,h0⟩
 unfold rdP lnR
 omega
theorem refK_stop {s:List UInt8} {m a i:Int} {b:Bool} {l:List Tw} (h:¬ (i<m∧b=false)) (f:Nat):refK s f m a b i l=(l,a,b):=by
 cases f with
 | zero=>rw [refK]
 | succ f=>rw [refK,if_neg h]
theorem refT_far {s:List UInt8} {a:Int} (h:lnR s≤a) (f:Nat):(refT s f a).2.2=true:=by
 cases f with
 | zero=>rw [refT]
 | succ f =>
  have:tOut s a:=.inl (by unfold tB2; rw [rdB_far h]; rfl)
  rw [refT,if_pos this]
def msR (s:List UInt8) (a:Int):Nat:=(lnR s+4 - a).toNat
def FuelR (s:List UInt8) (N:Nat):Prop:=(∀ (a:Int) (f f':Nat),msR s a≤N→msR s a<f→msR s a<f'→refT s f a=refT s f' a)∧(∀ (f f':Nat) (m a:Int) (b:Bool) (i:Int) (l:List Tw),msR s a≤N→msR s a+1<f→msR s a+1<f'→refK s f m a b i l=refK s f' m a b i l)
theorem fuelR_at (s:List UInt8) (N:Nat) (ih:∀ M,M<N→FuelR s M):FuelR s N:=by
 have hT:∀ (a:Int) (f f':Nat),msR s a≤N→msR s a<f→msR s a<f'→refT s f a=refT s f' a:=by
  intro a f f' hN hf hf'
  obtain ⟨g,rfl⟩:∃ g,f=g+1:=⟨f - 1,by omega⟩
  obtain ⟨g',rfl⟩:∃ g',f'=g'+1:=⟨f' - 1,by omega⟩
  rw [refT,refT]
  by_cases ho:tOut s a
  · rw [if_pos ho,if_pos ho]
  · rw [if_neg ho,if_neg ho]
    have hk:refK s g (tM s a) (tE7 s a) (tB7 s a) 0 []=refK s g' (tM s a) (tE7 s a) (tB7 s a) 0 []:=by
     by_cases hb:(0:Int)<tM s a∧tB7 s a=false
     · have h1:=tE_up s a
       have h2:rdB s (lnR s) (tE6 s a) 59=false:=by
        have:=hb.2
        unfold tB7 at this
        exact (Bool.or_eq_false_iff.1 this).2
       have h3:=(rdB_in h2).1
       change tE7 s a≤lnR s at h3
       unfold msR at hN hf hf'
       exact (ih (msR s (tE7 s a)) (by unfold msR; omega)).2 g g' _ _ _ _ _ (Nat.le_refl _) (by unfold msR; omega) (by unfold msR; omega)
     · rw [refK_stop hb,refK_stop hb]
    rw [hk]
 refine ⟨hT,fun f f' m a b i l hN hf hf'=>?_⟩
 by_cases hc:i<m∧b=false
 · obtain ⟨g,rfl⟩:∃ g,f=g+1:=⟨f - 1,by omega⟩
   obtain ⟨g',rfl⟩:∃ g',f'=g'+1:=⟨f' - 1,by omega⟩
   rw [refK,refK,if_pos hc,if_pos hc,hT a g g' hN (by omega) (by omega)]
   by_cases hb:i+1<m∧(refT s g' a).2.2=false
   · have h1:a<lnR s:=by
      rcases Int.lt_or_le a (lnR s) with h2 | h2
      · exact h2
      · rw [refT_far h2] at hb; cases hb.2
     have h2:=(refT_up s g' a).2 (by omega)
     unfold msR at hN hf hf'
     exact (ih (msR s (refT s g' a).2.1) (by unfold msR; omega)).2 g g' _ _ _ _ _ (Nat.le_refl _) (by unfold msR; omega) (by unfold msR; omega)
   · rw [refK_stop hb,refK_stop hb]
 · rw [refK_stop hc,refK_stop hc]
theorem fuelR (s:List UInt8) (N:Nat):FuelR s N:=Nat.strongRecOn N fun N ih=>fuelR_at s N ih
def refO (s:List UInt8) (a:Int):Tw × Int × Bool:=refT s (msR s a+1) a
def refKO (s:List UInt8) (m a:Int) (b:Bool) (i:Int) (l:List Tw):List Tw × Int × Bool:=refK s (msR s a+2) m a b i l
theorem refO_out {s:List UInt8} {a:Int} (h:tOut s a):refO s a=(.mk (tKd s a) ⟨#[]⟩ false [] [],tE2 s a,true):=by rw [refO,refT,if_pos h]
theorem refKO_stop {s:List UInt8} {m a i:Int} {b:Bool} {l:List Tw} (h:¬ (i<m∧b=false)):refKO s m a b i l=(l,a,b):=refK_stop h _
theorem refO_in {s:List UInt8} {a:Int} (h:¬ tOut s a):refO s a=(.mk (tKd s a) (tNm s a) (tG s a) (tQ s a).1 (refKO s (tM s a) (tE7 s a) (tB7 s a) 0 []).1,(refKO s (tM s a) (tE7 s a) (tB7 s a) 0 []).2):=by
 have hk:refK s (msR s a) (tM s a) (tE7 s a) (tB7 s a) 0 []=refKO s (tM s a) (tE7 s a) (tB7 s a) 0 []:=by
  by_cases hb:(0:Int)<tM s a∧tB7 s a=false
  · have h1:=tE_up s a
    have h2:rdB s (lnR s) (tE6 s a) 59=false:=by
     have:=hb.2
     unfold tB7 at this
     exact (Bool.or_eq_false_iff.1 this).2
    have h3:=(rdB_in h2).1
    change tE7 s a≤lnR s at h3
    exact (fuelR s (msR s (tE7 s a))).2 _ _ _ _ _ _ _ (Nat.le_refl _) (by unfold msR; omega) (by omega)
  · rw [refK_stop hb,refKO_stop hb]
 rw [refO,refT,if_neg h,hk]
theorem refKO_go {s:List UInt8} {m a i:Int} {l:List Tw} (h:i<m):refKO s m a false i l=refKO s m (refO s a).2.1 (refO s a).2.2 (i+1) (l++[(refO s a).1]):=by
 rw [refKO,refK,if_pos ⟨h,rfl⟩]
 show refK s (msR s a+1) m (refO s a).2.1 (refO s a).2.2 (i+1) (l++[(refO s a).1])=_
 by_cases hb:i+1<m∧(refO s a).2.2=false
 · have h1:a<lnR s:=by
    rcases Int.lt_or_le a (lnR s) with h2 | h2
    · exact h2
    · have:=refT_far h2 (msR s a+1)
      rw [← refO] at this
      rw [this] at hb; cases hb.2
   have h2:a+2≤(refO s a).2.1:=(refT_up s (msR s a+1) a).2 (Nat.succ_pos _)
   exact (fuelR s (msR s (refO s a).2.1)).2 _ _ _ _ _ _ _ (Nat.le_refl _) (by unfold msR; omega) (by omega)
 · rw [refK_stop hb,refKO_stop hb]
theorem scan_n1 (s:List UInt8) (m:Int):∀ (f:Nat) (n a:Int),n≤10 * m+9→(scanN s m f n a).1≤10 * m+9
 | 0,n,a,h=>h
 | f+1,n,a,h=>by
  rw [scanN]
  split
  · rename_i h1
    exact scan_n1 s m f _ _ (by omega)
  · exact h
theorem rdN_1 (s:List UInt8) {m:Int} (a:Int) (h:0≤m):rdN s m a≤10 * m+9:=scan_n1 s m _ 0 a (by omega)
theorem u32_in (z:Int):0≤IntKind.u32.wrap z∧IntKind.u32.wrap z<4294967296:=by
 have h1:=Int.emod_nonneg z (show (4294967296:Int)≠0 by decide)
 have h2:=Int.emod_lt_of_pos z (show (0:Int)<4294967296 by decide)
 exact ⟨h1,h2⟩
theorem limF_lt (s:List UInt8):∀ (f:Nat) (ds:List Nat) (a:Int) (b:Bool),(∀ x∈ds,x<4294967296)→∀ x∈(limF s f ds a b).1,x<4294967296
 | 0,ds,a,b,h=>h
 | f+1,ds,a,b,h=>by
  rw [limF]
  split
  · refine limF_lt s f _ _ _ fun x hx=>?_
    rcases List.mem_append.1 hx with hx | hx
    · exact h x hx
    · cases List.mem_singleton.1 hx
      have:=u32_in (rdN s 4294967295 a)
      omega
  · exact h
theorem tQ_lt (s:List UInt8) (a:Int):∀ x∈(tQ s a).1,x<4294967296:=limF_lt s _ [] _ _ fun x hx=>by cases hx
end Go.Proofs.YtdeacbdpmdfgdaaDoor
namespace Go.Proofs.YtdeacbdpmdfgdaaDoor
open Go.RowKit
set_option linter.unusedVariables false
set_option maxRecDepth 100000
theorem tB7_in {s:List UInt8} {a:Int} (h:tB7 s a=false):tE7 s a≤lnR s:=by
 unfold tB7 at h
 exact (rdB_in (Bool.or_eq_false_iff.1 h).2).1
mutual
theorem refT_ok (s:List UInt8):∀ (f:Nat) (a:Int),(refT s f a).2.2=false→(refT s f a).2.1≤lnR s
 | 0,a,h=>by rw [refT] at h; cases h
 | f+1,a,h=>by
  rw [refT] at h ⊢
  split at h
  · cases h
  · rename_i ho
    rw [if_neg ho]
    refine refK_ok s f (tM s a) (tE7 s a) (tB7 s a) 0 [] ?_ h
    cases hc:tB7 s a with
    | true=>exact .inl rfl
    | false=>exact .inr (tB7_in hc)
theorem refK_ok (s:List UInt8):∀ (f:Nat) (m a:Int) (b:Bool) (i:Int) (l:List Tw),(b=true∨a≤lnR s)→(refK s f m a b i l).2.2=false→(refK s f m a b i l).2.1≤lnR s
 | 0,m,a,b,i,l,hb,h=>by
  rw [refK] at h ⊢
  exact hb.elim (fun e=>by rw [e] at h; cases h) id
 | f+1,m,a,b,i,l,hb,h=>by
  rw [refK] at h ⊢
  split at h
  · rename_i hc
    rw [if_pos hc]
    refine refK_ok s f m _ _ _ _ ?_ h
    cases hd:(refT s f a).2.2 with
    | true=>exact .inl rfl
    | false=>exact .inr (refT_ok s f a hd)
  · rename_i hc
    rw [if_neg hc]
    exact hb.elim (fun e=>by rw [e] at h; cases h) id
end
theorem tOut_lt {s:List UInt8} {a:Int} (h:¬ tOut s a):a<lnR s:=by
 have h1:tB2 s a=false:=by
  cases hc:tB2 s a with
  | true=>exact absurd (.inl hc) h
  | false=>rfl
 unfold tB2 at h1
 exact (rdB_in (Bool.or_eq_false_iff.1 h1).1).2
structure LimAt (s:List UInt8) (a:Int) (q:List Nat × Int × Bool):Prop where
 eq:limR s q.1 q.2.1 q.2.2=tQ s a
 n0:0≤q.2.1
 len:(q.1.length:Int)≤q.2.1
 hi:q.2.1≤lnR s+2
 ok:q.2.2=true∨q.2.1≤lnR s+1
structure KidR (s:List UInt8) (a:Int) (q:List Tw × Int × Bool):Prop where
 eq:refKO s (tM s a) q.2.1 q.2.2 q.1.length q.1=refKO s (tM s a) (tE7 s a) (tB7 s a) 0 []
 up:tE7 s a≤q.2.1
 ok:q.2.2=true∨q.2.1≤lnR s
 len:(q.1.length:Int)≤q.2.1
theorem limAt_go {s:List UInt8} {a:Int} {ds:List Nat} {x:Int} (h:LimAt s a (ds,x,false)) (hg:sgnR s x 32=false):LimAt s a (ds++[(IntKind.u32.wrap (rdN s 4294967295 x)).toNat],rdP s 4294967295 x,rdB s 4294967295 x 46)∧x<rdP s 4294967295 x:=by
 obtain ⟨h1,h2,h3,h4,h5⟩:=h
 dsimp only at h1 h2 h3 h4 h5
 have h6:x≤lnR s+1:=h5.elim (fun e=>by cases e) id
 have h7:=rdP_up s 4294967295 x
 refine ⟨⟨(limR_go h6 hg).symm.trans h1,by dsimp only; omega,by simp only [List.length_append,List.length_cons,List.length_nil]; omega,by dsimp only; omega,?_⟩,by omega⟩
 dsimp only
 rcases Int.lt_or_le x (lnR s) with h8 | h8
 · exact .inr (by omega)
 · exact .inl (rdB_far h8)
theorem limAt_stop {s:List UInt8} {a:Int} {q:List Nat × Int × Bool} (h:LimAt s a q) (hg:¬ (q.2.2=false∧sgnR s q.2.1 32=false)):q=tQ s a:=(limR_stop hg).symm.trans h.eq
theorem kidR_go {s:List UInt8} {a:Int} {l:List Tw} {x:Int} (h:KidR s a (l,x,false)) (hl:(l.length:Int)<tM s a):KidR s a (l++[(refO s x).1],(refO s x).2):=by
 obtain ⟨h1,h2,-,h3⟩:=h
 dsimp only at h1 h2 h3
 have h4:x+2≤(refO s x).2.1:=(refT_up s (msR s x+1) x).2 (Nat.succ_pos _)
 have h5:((l++[(refO s x).1]).length:Int)=l.length+1:=by simp
 exact ⟨by dsimp only; rw [h5,← refKO_go hl]; exact h1,by dsimp only; omega,by
  dsimp only
  cases hd:(refO s x).2.2 with
  | true=>exact .inl rfl
  | false=>exact .inr (refT_ok s _ x hd),by rw [h5]; dsimp only; omega⟩
theorem kidR_stop {s:List UInt8} {a:Int} {q:List Tw × Int × Bool} (h:KidR s a q) (hg:¬ ((q.1.length:Int)<tM s a∧q.2.2=false)):refKO s (tM s a) (tE7 s a) (tB7 s a) 0 []=q:=h.eq.symm.trans (refKO_stop hg)
theorem sgn_in {s:List UInt8} {a c:Int} (h:sgnR s a c=true):a<lnR s:=by
 unfold sgnR at h
 rw [Bool.and_eq_true,decide_eq_true_eq] at h
 exact h.1
theorem limAt_zero {s:List UInt8} {a:Int} (h0:0≤a) (ho:¬ tOut s a):LimAt s a ([],tE4 s a,tB3 s a):=by
 have h1:tN s a≤lnR s - tE2 s a:=Int.not_lt.1 fun h=>ho (.inr h)
 have h2:=tE_up s a
 have h3:=rdN_0 s (lnR s) (tE1 s a)
 change 0≤tN s a at h3
 have h4:tE3 s a=tE2 s a+tN s a+1:=rfl
 have h5:tE3 s a≤tE4 s a∧tE4 s a≤lnR s+1:=by
  unfold tE4
  split
  · rename_i hg
    have:=sgn_in hg
    omega
  · omega
 exact ⟨rfl,by dsimp only; omega,by simp only [List.length_nil]; omega,by dsimp only; omega,.inr h5.2⟩
theorem tl_add (d:List Nat) (z:Int):SubB (.tl 3 (.is .u32 (d.map Int.ofNat++[IntKind.u32.wrap z]))) (.tl 3 (.is .u32 ((d++[(IntKind.u32.wrap z).toNat]).map Int.ofNat))):=by
 have e:(d++[(IntKind.u32.wrap z).toNat]).map Int.ofNat=d.map Int.ofNat++[IntKind.u32.wrap z]:=by
  rw [List.map_append]
  show _++[(((IntKind.u32.wrap z).toNat:Nat):Int)]=_
  rw [Int.toNat_of_nonneg (u32_in z).1]
 rw [e]
 exact .refl _
theorem lim_go {s:List UInt8} {a:Int} {q:List Nat × Int × Bool} {z:Int × Int} (h:LimAt s a q) (h4:(!q.2.2)=true) (h5:(!sgnR s q.2.1 32)=true) (hz:z=scanR s 4294967295 0 q.2.1):LimAt s a (q.1++[(IntKind.u32.wrap z.1).toNat],z.2+1,(q.2.2 || (decide (z.2=q.2.1) || (decide (z.1 > 4294967295) || !sgnR s z.2 46)))):=by
 obtain ⟨ds,x,b⟩:=q
 dsimp only at h4 h5 hz ⊢
 rw [Bool.not_eq_true'] at h4 h5
 subst h4 hz
 exact (limAt_go h h5).1
theorem lim_less {s:List UInt8} {a:Int} {q:List Nat × Int × Bool} {z:Int × Int} (h:LimAt s a q) (h4:(!q.2.2)=true) (h5:(!sgnR s q.2.1 32)=true) (hz:z=scanR s 4294967295 0 q.2.1):(lnR s+3 - (z.2+1)).toNat<(lnR s+3 - q.2.1).toNat:=by
 have h1:=h.hi
 have h2:q.2.1+1≤z.2+1:=by rw [hz]; exact (rdP_up s 4294967295 q.2.1).1
 omega
theorem limF_hi (s:List UInt8):∀ (f:Nat) (ds:List Nat) (a:Int) (b:Bool),a≤lnR s+2→(b=true∨a≤lnR s+1)→(limF s f ds a b).2.1≤lnR s+2
 | 0,ds,a,b,h,_=>h
 | f+1,ds,a,b,h,h'=>by
  rw [limF]
  split
  · rename_i hc
    have h6:a≤lnR s+1:=h'.elim (fun e=>by rw [hc.1] at e; cases e) id
    have h7:=rdP_up s 4294967295 a
    refine limF_hi s f _ _ _ (by omega) ?_
    rcases Int.lt_or_le a (lnR s) with h8 | h8
    · exact .inr (by omega)
    · exact .inl (rdB_far h8)
  · exact h
theorem tQ_in {s:List UInt8} {a:Int} (h0:0≤a) (ho:¬ tOut s a):0≤(tQ s a).2.1∧(tQ s a).2.1≤lnR s+2:=by
 have h:=limAt_zero h0 ho
 have h1:=limF_up s (lnR s+2 - tE4 s a).toNat [] (tE4 s a) (tB3 s a)
 have h2:=limF_hi s (lnR s+2 - tE4 s a).toNat [] (tE4 s a) (tB3 s a) h.hi h.ok
 have h3:0≤tE4 s a:=h.n0
 change tE4 s a≤(tQ s a).2.1 at h1
 change (tQ s a).2.1≤lnR s+2 at h2
 exact ⟨by omega,h2⟩
theorem kid_goR {s:List UInt8} {a:Int} {q:List Tw × Int × Bool} {z:Tw × Int × Bool} (h:KidR s a q) (hl:decide ((q.1.length:Int)<tM s a)=true) (hb:(!q.2.2)=true) (hz:z=refO s q.2.1):KidR s a (q.1++[z.1],z.2):=by
 obtain ⟨l,x,b⟩:=q
 dsimp only at hl hb hz ⊢
 rw [Bool.not_eq_true'] at hb
 subst hb hz
 exact kidR_go h (of_decide_eq_true hl)
theorem ref_end {P:Prop} {s:ByteArray} {a:Int} {q:List Tw × Int × Bool} {r:List PO} (ho:¬ tOut s.data.toList a) (h:KidR s.data.toList a q) (hg:¬ ((q.1.length:Int)<tM s.data.toList a∧q.2.2=false)) :
  EndU 1 (Out.need P (.nm (Tw × Int × Bool) (refO s.data.toList a) fun z=>.ret (tmP z.1) [.cells [sV s,iV z.2.1,bV z.2.2]])).fin true (.agg [.f (.v (.int .u8 (tKd s.data.toList a))),sV (tNm s.data.toList a),bV (tG s.data.toList a),.f (.is .u32 ((tQ s.data.toList a).1.map Int.ofNat)),.f (.dt .tm q.1)]) (.cells [sV s,iV q.2.1,bV q.2.2]::r):=by
 rw [refO_in ho,kidR_stop h hg]
 exact endU_need (endU rfl (ends (tQ_lt _ _)) rfl rfl rfl)
theorem ex_sub (s:ByteArray) (x y:Nat):s.extract x y=bA ((s.data.toList.take y).drop x):=by
 apply ByteArray.ext
 apply Array.ext'
 rw [ext_listU]
 rfl
def sRefN (n:Nat):Spec2
 | [.bp 0 0],[.cells [.f (.v (.string s)),.f (.v (.int .i64 a)),.f (.v (.bool b))]] =>
  some (.need (b=false∧msR s.data.toList a<n∧(0≤a∧a≤1099511627776)∧s.size≤1073741824) (.nm (Tw × Int × Bool) (refO s.data.toList a) fun z=>.ret (tmP z.1) [.cells [sV s,iV z.2.1,bV z.2.2]]))
 | _,_=>none
set_option maxHeartbeats 8000000 in
theorem cRefN {E:Env} (hU:Up E):∀ n,Contract2 Tryd.prog E 45 (sRefN n)
 | 0=>by
  intro xs ob o hs hok
  unfold sRefN at hs
  split at hs
  · cases hs
    exact absurd hok.1.2.1 (Nat.not_lt_zero _)
  · cases hs
 | n+1=>by
  refine contract2 [] [(72,sNumR),(73,sSignR),(74,sNextR),(45,sRefN n)] Tryd.ntmps45 Tryd.func45 (by kernel_rfl) (by kernel_rfl) hU trivial ⟨cNumR hU,cSignR hU,cNextR hU,cRefN hU n,trivial⟩ ?_
  intro xs ob o hs hok
  unfold sRefN at hs
  split at hs
  · rename_i s a b
    · cases hs
      obtain ⟨⟨rfl,hn,⟨ha,ha1⟩,hs1⟩,-⟩:=hok
      refine ⟨[.bp 0 0],[
       (1000012,.s ⟨Unit,fun _=>⟨[(0,.bp 0 0),(2,.bp 1 0),(3,.bp 2 0)],[.cells [sV s,iV (tE4 s.data.toList a),bV (tB3 s.data.toList a)],.cells [.f (.v (.int .u8 0)),.f (.v (.string ⟨#[]⟩)),.f (.v (.bool false)),.f (.v (.slice none 0 0)),.f (.v (.slice none 0 0))],.cells [.f (.v (.int .u8 (tKd s.data.toList a))),sV (tNm s.data.toList a),bV (tG s.data.toList a),.f (.v (.slice none 0 0)),.f (.v (.slice none 0 0))]]⟩,fun _=>True,fun _=>0⟩),
       (12,.s ⟨List Nat × Int × Bool,fun q=>⟨[(0,.bp 0 0),(2,.bp 1 0),(3,.bp 2 0)],[.cells [sV s,iV q.2.1,bV q.2.2],.cells [.f (.v (.int .u8 0)),.f (.v (.string ⟨#[]⟩)),.f (.v (.bool false)),.f (.v (.slice none 0 0)),.f (.v (.slice none 0 0))],.cells [.f (.v (.int .u8 (tKd s.data.toList a))),sV (tNm s.data.toList a),bV (tG s.data.toList a),.tl 3 (.is .u32 (q.1.map Int.ofNat)),.f (.v (.slice none 0 0))],.tail 84 1]⟩,fun q=>LimAt s.data.toList a q,fun q=>(lnR s.data.toList+3 - q.2.1).toNat⟩),
       (1000015,.s ⟨Unit,fun _=>⟨[(0,.bp 0 0),(2,.bp 1 0),(3,.bp 2 0)],[.cells [sV s,iV (tQ s.data.toList a).2.1,bV (tQ s.data.toList a).2.2],.cells [.f (.v (.int .u8 0)),.f (.v (.string ⟨#[]⟩)),.f (.v (.bool false)),.f (.v (.slice none 0 0)),.f (.v (.slice none 0 0))],.cells [.f (.v (.int .u8 (tKd s.data.toList a))),sV (tNm s.data.toList a),bV (tG s.data.toList a),.tl 3 (.is .u32 ((tQ s.data.toList a).1.map Int.ofNat)),.f (.v (.slice none 0 0))],.tail 84 1]⟩,fun _=>True,fun _=>0⟩),
       (18,.s ⟨List Tw × Int × Bool,fun q=>⟨[(0,.bp 0 0),(2,.bp 1 0),(3,.bp 2 0),(4,iV (tM s.data.toList a)),(6,iV q.1.length)],[.cells [sV s,iV q.2.1,bV q.2.2],.cells [.f (.v (.int .u8 0)),.f (.v (.string ⟨#[]⟩)),.f (.v (.bool false)),.f (.v (.slice none 0 0)),.f (.v (.slice none 0 0))],.cells [.f (.v (.int .u8 (tKd s.data.toList a))),sV (tNm s.data.toList a),bV (tG s.data.toList a),.tl 3 (.is .u32 ((tQ s.data.toList a).1.map Int.ofNat)),.tl 4 (.dt .tm q.1)],.tail 84 1,.tail 28 5]⟩,fun q=>KidR s.data.toList a q,fun q=>(tM s.data.toList a - q.1.length).toNat⟩)],.cons (.refl _) .nil,rfl,fun _ hsh=>?_⟩
      have h0:=ha
      refine cast_rfl (p:=(((0:Int)≤a∧a≤(2305843009213693952:Int))∧((0:Int)≤(255:Int)∧(255:Int)≤(1099511627776:Int))∧s.size≤1099511627776)∧∀ (z1:Int × Int),z1=scanR s.data.toList (255:Int) (0:Int) a→(((0:Int)≤z1.snd+(1:Int)∧z1.snd+(1:Int)≤(2305843009213693952:Int))∧((0:Int)≤(↑s.size:Int)∧(↑s.size:Int)≤(1099511627776:Int))∧s.size≤1099511627776)∧∀ (z2:Int × Int),z2=scanR s.data.toList (↑s.size:Int) (0:Int) (z1.snd+(1:Int))→ifB (false || (decide (z1.snd=a) || (decide (z1.fst > (255:Int)) || !sgnR s.data.toList z1.snd (32:Int))) || (decide (z2.snd=z1.snd+(1:Int)) || (decide (z2.fst > (↑s.size:Int)) || !sgnR s.data.toList z2.snd (58:Int)))) (EndU 1 (Out.need (false=false∧msR s.data.toList a<n+1∧((0:Int)≤a∧a≤(1099511627776:Int))∧s.size≤1073741824) (Out.nm (Tw × Int × Bool) (refO s.data.toList a) fun (z:Tw × Int × Bool)=>Out.ret (tmP z.fst) [PO.cells [sV s,iV z.snd.fst,bV z.snd.snd]])).fin true (PV.agg [PV.f (Lf.v (Value.int IntKind.u8 (IntKind.u8.wrap z1.fst))),sV (ByteArray.mk #[]),bV false,PV.f (Lf.v (Value.slice none 0 0)),PV.f (Lf.v (Value.slice none 0 0))]) [PO.cells [sV s,iV (z2.snd+(1:Int)),bV true],PO.cells [PV.f (Lf.v (Value.int IntKind.u8 (IntKind.u8.wrap z1.fst))),sV (ByteArray.mk #[]),bV false,PV.f (Lf.v (Value.slice none 0 0)),PV.f (Lf.v (Value.slice none 0 0))],PO.cells [PV.f (Lf.v (Value.int IntKind.u8 (IntKind.u8.wrap z1.fst))),sV (ByteArray.mk #[]),bV false,PV.f (Lf.v (Value.slice none 0 0)),PV.f (Lf.v (Value.slice none 0 0))]]) (ifB (decide (z2.fst > IntKind.i64.wrap ((↑s.size:Int) - (z2.snd+(1:Int))))) (EndU 1 (Out.need (false=false∧msR s.data.toList a<n+1∧((0:Int)≤a∧a≤(1099511627776:Int))∧s.size≤1073741824) (Out.nm (Tw × Int × Bool) (refO s.data.toList a) fun (z:Tw × Int × Bool)=>Out.ret (tmP z.fst) [PO.cells [sV s,iV z.snd.fst,bV z.snd.snd]])).fin true (PV.agg [PV.f (Lf.v (Value.int IntKind.u8 (IntKind.u8.wrap z1.fst))),sV (ByteArray.mk #[]),bV false,PV.f (Lf.v (Value.slice none 0 0)),PV.f (Lf.v (Value.slice none 0 0))]) [PO.cells [sV s,iV (z2.snd+(1:Int)),bV true],PO.cells [PV.f (Lf.v (Value.int IntKind.u8 (IntKind.u8.wrap z1.fst))),sV (ByteArray.mk #[]),bV false,PV.f (Lf.v (Value.slice none 0 0)),PV.f (Lf.v (Value.slice none 0 0))],PO.cells [PV.f (Lf.v (Value.int IntKind.u8 (IntKind.u8.wrap z1.fst))),sV (ByteArray.mk #[]),bV false,PV.f (Lf.v (Value.slice none 0 0)),PV.f (Lf.v (Value.slice none 0 0))]]) (((0:Int)≤z2.snd+(1:Int)∧z2.snd+(1:Int)≤IntKind.i64.wrap (z2.snd+(1:Int)+z2.fst)∧IntKind.i64.wrap (z2.snd+(1:Int)+z2.fst)≤(↑s.size:Int))∧((0:Int)≤IntKind.i64.wrap (z2.snd+(1:Int)+z2.fst)∧IntKind.i64.wrap (z2.snd+(1:Int)+z2.fst)≤(4611686018427387904:Int))∧((0:Int)≤IntKind.i64.wrap (z2.snd+(1:Int)+z2.fst)+(1:Int)∧ifB (sgnR s.data.toList (IntKind.i64.wrap (z2.snd+(1:Int)+z2.fst)+(1:Int)) (45:Int)) (∃ (x3:Unit),(((SubB (sV s) (sV s)∧SubB (iV (IntKind.i64.wrap (IntKind.i64.wrap (z2.snd+(1:Int)+z2.fst)+(1:Int)+(1:Int)))) (iV (tE4 s.data.toList a))∧SubB (bV (false || (decide (z1.snd=a) || (decide (z1.fst > (255:Int)) || !sgnR s.data.toList z1.snd (32:Int))) || (decide (z2.snd=z1.snd+(1:Int)) || (decide (z2.fst > (↑s.size:Int)) || !sgnR s.data.toList z2.snd (58:Int))) || !sgnR s.data.toList (IntKind.i64.wrap (z2.snd+(1:Int)+z2.fst)) (32:Int))) (bV (tB3 s.data.toList a))∧True)∧(SubB (PV.f (Lf.v (Value.int IntKind.u8 0))) (PV.f (Lf.v (Value.int IntKind.u8 0)))∧SubB (sV (ByteArray.mk #[])) (sV (ByteArray.mk #[]))∧SubB (bV false) (bV false)∧SubB (PV.f (Lf.v (Value.slice none 0 0))) (PV.f (Lf.v (Value.slice none 0 0)))∧SubB (PV.f (Lf.v (Value.slice none 0 0))) (PV.f (Lf.v (Value.slice none 0 0)))∧True)∧(SubB (PV.f (Lf.v (Value.int IntKind.u8 (IntKind.u8.wrap z1.fst)))) (PV.f (Lf.v (Value.int IntKind.u8 (tKd s.data.toList a))))∧SubB (sV (s.extract (z2.snd+(1:Int)).toNat (IntKind.i64.wrap (z2.snd+(1:Int)+z2.fst)).toNat)) (sV (tNm s.data.toList a))∧SubB (bV true) (bV (tG s.data.toList a))∧SubB (PV.f (Lf.v (Value.slice none 0 0))) (PV.f (Lf.v (Value.slice none 0 0)))∧SubB (PV.f (Lf.v (Value.slice none 0 0))) (PV.f (Lf.v (Value.slice none 0 0)))∧True)∧True)∧SubB (PV.bp 0 0) (PV.bp 0 0)∧SubB (PV.bp 1 0) (PV.bp 1 0)∧SubB (PV.bp 2 0) (PV.bp 2 0)∧True)∧True) (∃ (x3:Unit),(((SubB (sV s) (sV s)∧SubB (iV (IntKind.i64.wrap (z2.snd+(1:Int)+z2.fst)+(1:Int))) (iV (tE4 s.data.toList a))∧SubB (bV (false || (decide (z1.snd=a) || (decide (z1.fst > (255:Int)) || !sgnR s.data.toList z1.snd (32:Int))) || (decide (z2.snd=z1.snd+(1:Int)) || (decide (z2.fst > (↑s.size:Int)) || !sgnR s.data.toList z2.snd (58:Int))) || !sgnR s.data.toList (IntKind.i64.wrap (z2.snd+(1:Int)+z2.fst)) (32:Int))) (bV (tB3 s.data.toList a))∧True)∧(SubB (PV.f (Lf.v (Value.int IntKind.u8 0))) (PV.f (Lf.v (Value.int IntKind.u8 0)))∧SubB (sV (ByteArray.mk #[])) (sV (ByteArray.mk #[]))∧SubB (bV false) (bV false)∧SubB (PV.f (Lf.v (Value.slice none 0 0))) (PV.f (Lf.v (Value.slice none 0 0)))∧SubB (PV.f (Lf.v (Value.slice none 0 0))) (PV.f (Lf.v (Value.slice none 0 0)))∧True)∧(SubB (PV.f (Lf.v (Value.int IntKind.u8 (IntKind.u8.wrap z1.fst)))) (PV.f (Lf.v (Value.int IntKind.u8 (tKd s.data.toList a))))∧SubB (sV (s.extract (z2.snd+(1:Int)).toNat (IntKind.i64.wrap (z2.snd+(1:Int)+z2.fst)).toNat)) (sV (tNm s.data.toList a))∧SubB (bV false) (bV (tG s.data.toList a))∧SubB (PV.f (Lf.v (Value.slice none 0 0))) (PV.f (Lf.v (Value.slice none 0 0)))∧SubB (PV.f (Lf.v (Value.slice none 0 0))) (PV.f (Lf.v (Value.slice none 0 0)))∧True)∧True)∧SubB (PV.bp 0 0) (PV.bp 0 0)∧SubB (PV.bp 1 0) (PV.bp 1 0)∧SubB (PV.bp 2 0) (PV.bp 2 0)∧True)∧True))∧∀ (z3:Unit),True→(∃ (x4:List Nat × Int × Bool),(((SubB (sV s) (sV s)∧SubB (iV (tE4 s.data.toList a)) (iV x4.snd.fst)∧SubB (bV (tB3 s.data.toList a)) (bV x4.snd.snd)∧True)∧(SubB (PV.f (Lf.v (Value.int IntKind.u8 0))) (PV.f (Lf.v (Value.int IntKind.u8 0)))∧SubB (sV (ByteArray.mk #[])) (sV (ByteArray.mk #[]))∧SubB (bV false) (bV false)∧SubB (PV.f (Lf.v (Value.slice none 0 0))) (PV.f (Lf.v (Value.slice none 0 0)))∧SubB (PV.f (Lf.v (Value.slice none 0 0))) (PV.f (Lf.v (Value.slice none 0 0)))∧True)∧(SubB (PV.f (Lf.v (Value.int IntKind.u8 (tKd s.data.toList a)))) (PV.f (Lf.v (Value.int IntKind.u8 (tKd s.data.toList a))))∧SubB (sV (tNm s.data.toList a)) (sV (tNm s.data.toList a))∧SubB (bV (tG s.data.toList a)) (bV (tG s.data.toList a))∧emptyT (PV.tl 3 (Lf.is IntKind.u32 (List.map Int.ofNat x4.fst)))∧SubB (PV.f (Lf.v (Value.slice none 0 0))) (PV.f (Lf.v (Value.slice none 0 0)))∧True)∧True)∧SubB (PV.bp 0 0) (PV.bp 0 0)∧SubB (PV.bp 1 0) (PV.bp 1 0)∧SubB (PV.bp 2 0) (PV.bp 2 0)∧True)∧LimAt s.data.toList a x4∧True∧∀ (z5:List Nat × Int × Bool),LimAt s.data.toList a z5→True→ifB (!z5.snd.snd) ((0:Int)≤z5.snd.fst∧ifB (!sgnR s.data.toList z5.snd.fst (32:Int)) ((((0:Int)≤z5.snd.fst∧z5.snd.fst≤(2305843009213693952:Int))∧((0:Int)≤(4294967295:Int)∧(4294967295:Int)≤(1099511627776:Int))∧s.size≤1099511627776)∧∀ (z6:Int × Int),z6=scanR s.data.toList (4294967295:Int) (0:Int) z5.snd.fst→((List.map Int.ofNat z5.fst).length+1≤9223372036854775807∧((List.map Int.ofNat z5.fst).length+1) * 4≤140737488355328)∧∃ (x7:List Nat × Int × Bool),(((SubB (sV s) (sV s)∧SubB (iV (z6.snd+(1:Int))) (iV x7.snd.fst)∧SubB (bV (z5.snd.snd || (decide (z6.snd=z5.snd.fst) || (decide (z6.fst > (4294967295:Int)) || !sgnR s.data.toList z6.snd (46:Int))))) (bV x7.snd.snd)∧True)∧(SubB (PV.f (Lf.v (Value.int IntKind.u8 0))) (PV.f (Lf.v (Value.int IntKind.u8 0)))∧SubB (sV (ByteArray.mk #[])) (sV (ByteArray.mk #[]))∧SubB (bV false) (bV false)∧SubB (PV.f (Lf.v (Value.slice none 0 0))) (PV.f (Lf.v (Value.slice none 0 0)))∧SubB (PV.f (Lf.v (Value.slice none 0 0))) (PV.f (Lf.v (Value.slice none 0 0)))∧True)∧(SubB (PV.f (Lf.v (Value.int IntKind.u8 (tKd s.data.toList a)))) (PV.f (Lf.v (Value.int IntKind.u8 (tKd s.data.toList a))))∧SubB (sV (tNm s.data.toList a)) (sV (tNm s.data.toList a))∧SubB (bV (tG s.data.toList a)) (bV (tG s.data.toList a))∧SubB (PV.tl 3 (Lf.is IntKind.u32 (List.map Int.ofNat z5.fst++[IntKind.u32.wrap z6.fst]))) (PV.tl 3 (Lf.is IntKind.u32 (List.map Int.ofNat x7.fst)))∧SubB (PV.f (Lf.v (Value.slice none 0 0))) (PV.f (Lf.v (Value.slice none 0 0)))∧True)∧True)∧SubB (PV.bp 0 0) (PV.bp 0 0)∧SubB (PV.bp 1 0) (PV.bp 1 0)∧SubB (PV.bp 2 0) (PV.bp 2 0)∧True)∧LimAt s.data.toList a x7∧True∧(lnR s.data.toList+(3:Int) - x7.snd.fst).toNat.succ.le (lnR s.data.toList+(3:Int) - z5.snd.fst).toNat) (∃ (x6:Unit),(((SubB (sV s) (sV s)∧SubB (iV z5.snd.fst) (iV ((tQ s.data.toList a).snd.fst))∧SubB (bV z5.snd.snd) (bV ((tQ s.data.toList a).snd.snd))∧True)∧(SubB (PV.f (Lf.v (Value.int IntKind.u8 0))) (PV.f (Lf.v (Value.int IntKind.u8 0)))∧SubB (sV (ByteArray.mk #[])) (sV (ByteArray.mk #[]))∧SubB (bV false) (bV false)∧SubB (PV.f (Lf.v (Value.slice none 0 0))) (PV.f (Lf.v (Value.slice none 0 0)))∧SubB (PV.f (Lf.v (Value.slice none 0 0))) (PV.f (Lf.v (Value.slice none 0 0)))∧True)∧(SubB (PV.f (Lf.v (Value.int IntKind.u8 (tKd s.data.toList a)))) (PV.f (Lf.v (Value.int IntKind.u8 (tKd s.data.toList a))))∧SubB (sV (tNm s.data.toList a)) (sV (tNm s.data.toList a))∧SubB (bV (tG s.data.toList a)) (bV (tG s.data.toList a))∧SubB (PV.tl 3 (Lf.is IntKind.u32 (List.map Int.ofNat z5.fst))) (PV.tl 3 (Lf.is IntKind.u32 (List.map Int.ofNat (tQ s.data.toList a).fst)))∧SubB (PV.f (Lf.v (Value.slice none 0 0))) (PV.f (Lf.v (Value.slice none 0 0)))∧True)∧True)∧SubB (PV.bp 0 0) (PV.bp 0 0)∧SubB (PV.bp 1 0) (PV.bp 1 0)∧SubB (PV.bp 2 0) (PV.bp 2 0)∧True)∧True)) (∃ (x6:Unit),(((SubB (sV s) (sV s)∧SubB (iV z5.snd.fst) (iV ((tQ s.data.toList a).snd.fst))∧SubB (bV z5.snd.snd) (bV ((tQ s.data.toList a).snd.snd))∧True)∧(SubB (PV.f (Lf.v (Value.int IntKind.u8 0))) (PV.f (Lf.v (Value.int IntKind.u8 0)))∧SubB (sV (ByteArray.mk #[])) (sV (ByteArray.mk #[]))∧SubB (bV false) (bV false)∧SubB (PV.f (Lf.v (Value.slice none 0 0))) (PV.f (Lf.v (Value.slice none 0 0)))∧SubB (PV.f (Lf.v (Value.slice none 0 0))) (PV.f (Lf.v (Value.slice none 0 0)))∧True)∧(SubB (PV.f (Lf.v (Value.int IntKind.u8 (tKd s.data.toList a)))) (PV.f (Lf.v (Value.int IntKind.u8 (tKd s.data.toList a))))∧SubB (sV (tNm s.data.toList a)) (sV (tNm s.data.toList a))∧SubB (bV (tG s.data.toList a)) (bV (tG s.data.toList a))∧SubB (PV.tl 3 (Lf.is IntKind.u32 (List.map Int.ofNat z5.fst))) (PV.tl 3 (Lf.is IntKind.u32 (List.map Int.ofNat (tQ s.data.toList a).fst)))∧SubB (PV.f (Lf.v (Value.slice none 0 0))) (PV.f (Lf.v (Value.slice none 0 0)))∧True)∧True)∧SubB (PV.bp 0 0) (PV.bp 0 0)∧SubB (PV.bp 1 0) (PV.bp 1 0)∧SubB (PV.bp 2 0) (PV.bp 2 0)∧True)∧True))∧∀ (z4:Unit),True→((0:Int)≤(tQ s.data.toList a).snd.fst∧(tQ s.data.toList a).snd.fst≤(4611686018427387904:Int))∧(((0:Int)≤(tQ s.data.toList a).snd.fst+(1:Int)∧(tQ s.data.toList a).snd.fst+(1:Int)≤(2305843009213693952:Int))∧((0:Int)≤(↑s.size:Int)∧(↑s.size:Int)≤(1099511627776:Int))∧s.size≤1099511627776)∧∀ (z5:Int × Int),z5=scanR s.data.toList (↑s.size:Int) (0:Int) ((tQ s.data.toList a).snd.fst+(1:Int))→∃ (x6:List Tw × Int × Bool),(((SubB (sV s) (sV s)∧SubB (iV (z5.snd+(1:Int))) (iV x6.snd.fst)∧SubB (bV ((tQ s.data.toList a).snd.snd || !sgnR s.data.toList (tQ s.data.toList a).snd.fst (32:Int) || (decide (z5.snd=(tQ s.data.toList a).snd.fst+(1:Int)) || (decide (z5.fst > (↑s.size:Int)) || !sgnR s.data.toList z5.snd (59:Int))))) (bV x6.snd.snd)∧True)∧(SubB (PV.f (Lf.v (Value.int IntKind.u8 0))) (PV.f (Lf.v (Value.int IntKind.u8 0)))∧SubB (sV (ByteArray.mk #[])) (sV (ByteArray.mk #[]))∧SubB (bV false) (bV false)∧SubB (PV.f (Lf.v (Value.slice none 0 0))) (PV.f (Lf.v (Value.slice none 0 0)))∧SubB (PV.f (Lf.v (Value.slice none 0 0))) (PV.f (Lf.v (Value.slice none 0 0)))∧True)∧(SubB (PV.f (Lf.v (Value.int IntKind.u8 (tKd s.data.toList a)))) (PV.f (Lf.v (Value.int IntKind.u8 (tKd s.data.toList a))))∧SubB (sV (tNm s.data.toList a)) (sV (tNm s.data.toList a))∧SubB (bV (tG s.data.toList a)) (bV (tG s.data.toList a))∧SubB (PV.tl 3 (Lf.is IntKind.u32 (List.map Int.ofNat (tQ s.data.toList a).fst))) (PV.tl 3 (Lf.is IntKind.u32 (List.map Int.ofNat (tQ s.data.toList a).fst)))∧emptyT (PV.tl 4 (Lf.dt Sh.tm x6.fst))∧True)∧True)∧SubB (PV.bp 0 0) (PV.bp 0 0)∧SubB (PV.bp 1 0) (PV.bp 1 0)∧SubB (PV.bp 2 0) (PV.bp 2 0)∧SubB (iV z5.fst) (iV (tM s.data.toList a))∧SubB (iV 0) (iV (↑x6.fst.length:Int))∧True)∧KidR s.data.toList a x6∧True∧∀ (z7:List Tw × Int × Bool),KidR s.data.toList a z7→True→ifB (decide ((↑z7.fst.length:Int)<tM s.data.toList a)) (ifB (!z7.snd.snd) ((z7.snd.snd=false∧msR s.data.toList z7.snd.fst<n∧((0:Int)≤z7.snd.fst∧z7.snd.fst≤(1099511627776:Int))∧s.size≤1073741824)∧∀ (z8:Tw × Int × Bool),z8=refO s.data.toList z7.snd.fst→(z7.fst.length+1≤9223372036854775807∧(z7.fst.length+1) * 80≤140737488355328)∧∃ (x9:List Tw × Int × Bool),(((SubB (sV s) (sV s)∧SubB (iV z8.snd.fst) (iV x9.snd.fst)∧SubB (bV z8.snd.snd) (bV x9.snd.snd)∧True)∧(SubB (PV.f (Lf.v (Value.int IntKind.u8 0))) (PV.f (Lf.v (Value.int IntKind.u8 0)))∧SubB (sV (ByteArray.mk #[])) (sV (ByteArray.mk #[]))∧SubB (bV false) (bV false)∧SubB (PV.f (Lf.v (Value.slice none 0 0))) (PV.f (Lf.v (Value.slice none 0 0)))∧SubB (PV.f (Lf.v (Value.slice none 0 0))) (PV.f (Lf.v (Value.slice none 0 0)))∧True)∧(SubB (PV.f (Lf.v (Value.int IntKind.u8 (tKd s.data.toList a)))) (PV.f (Lf.v (Value.int IntKind.u8 (tKd s.data.toList a))))∧SubB (sV (tNm s.data.toList a)) (sV (tNm s.data.toList a))∧SubB (bV (tG s.data.toList a)) (bV (tG s.data.toList a))∧SubB (PV.tl 3 (Lf.is IntKind.u32 (List.map Int.ofNat (tQ s.data.toList a).fst))) (PV.tl 3 (Lf.is IntKind.u32 (List.map Int.ofNat (tQ s.data.toList a).fst)))∧SubB (PV.tl 4 (Lf.dt Sh.tm (z7.fst++[Tw.mk z8.fst.kind z8.fst.name z8.fst.neg z8.fst.digits z8.fst.kids]))) (PV.tl 4 (Lf.dt Sh.tm x9.fst))∧True)∧True)∧SubB (PV.bp 0 0) (PV.bp 0 0)∧SubB (PV.bp 1 0) (PV.bp 1 0)∧SubB (PV.bp 2 0) (PV.bp 2 0)∧SubB (iV (tM s.data.toList a)) (iV (tM s.data.toList a))∧SubB (iV (IntKind.i64.wrap ((↑z7.fst.length:Int)+(1:Int)))) (iV (↑x9.fst.length:Int))∧True)∧KidR s.data.toList a x9∧True∧(tM s.data.toList a - (↑x9.fst.length:Int)).toNat.succ.le (tM s.data.toList a - (↑z7.fst.length:Int)).toNat) (EndU 1 (Out.need (false=false∧msR s.data.toList a<n+1∧((0:Int)≤a∧a≤(1099511627776:Int))∧s.size≤1073741824) (Out.nm (Tw × Int × Bool) (refO s.data.toList a) fun (z:Tw × Int × Bool)=>Out.ret (tmP z.fst) [PO.cells [sV s,iV z.snd.fst,bV z.snd.snd]])).fin true (PV.agg [PV.f (Lf.v (Value.int IntKind.u8 (tKd s.data.toList a))),sV (tNm s.data.toList a),bV (tG s.data.toList a),PV.f (Lf.is IntKind.u32 (List.map Int.ofNat (tQ s.data.toList a).fst)),PV.f (Lf.dt Sh.tm z7.fst)]) [PO.cells [sV s,iV z7.snd.fst,bV z7.snd.snd],PO.cells [PV.f (Lf.v (Value.int IntKind.u8 (tKd s.data.toList a))),sV (tNm s.data.toList a),bV (tG s.data.toList a),PV.tl 3 (Lf.is IntKind.u32 (List.map Int.ofNat (tQ s.data.toList a).fst)),PV.tl 4 (Lf.dt Sh.tm z7.fst)],PO.cells [PV.f (Lf.v (Value.int IntKind.u8 (tKd s.data.toList a))),sV (tNm s.data.toList a),bV (tG s.data.toList a),PV.tl 3 (Lf.is IntKind.u32 (List.map Int.ofNat (tQ s.data.toList a).fst)),PV.tl 4 (Lf.dt Sh.tm z7.fst)],PO.tail 84 1,PO.tail 28 5])) (EndU 1 (Out.need (false=false∧msR s.data.toList a<n+1∧((0:Int)≤a∧a≤(1099511627776:Int))∧s.size≤1073741824) (Out.nm (Tw × Int × Bool) (refO s.data.toList a) fun (z:Tw × Int × Bool)=>Out.ret (tmP z.fst) [PO.cells [sV s,iV z.snd.fst,bV z.snd.snd]])).fin true (PV.agg [PV.f (Lf.v (Value.int IntKind.u8 (tKd s.data.toList a))),sV (tNm s.data.toList a),bV (tG s.data.toList a),PV.f (Lf.is IntKind.u32 (List.map Int.ofNat (tQ s.data.toList a).fst)),PV.f (Lf.dt Sh.tm z7.fst)]) [PO.cells [sV s,iV z7.snd.fst,bV z7.snd.snd],PO.cells [PV.f (Lf.v (Value.int IntKind.u8 (tKd s.data.toList a))),sV (tNm s.data.toList a),bV (tG s.data.toList a),PV.tl 3 (Lf.is IntKind.u32 (List.map Int.ofNat (tQ s.data.toList a).fst)),PV.tl 4 (Lf.dt Sh.tm z7.fst)],PO.cells [PV.f (Lf.v (Value.int IntKind.u8 (tKd s.data.toList a))),sV (tNm s.data.toList a),bV (tG s.data.toList a),PV.tl 3 (Lf.is IntKind.u32 (List.map Int.ofNat (tQ s.data.toList a).fst)),PV.tl 4 (Lf.dt Sh.tm z7.fst)],PO.tail 84 1,PO.tail 28 5])))) ?kr ?_
      case kr=>kernel_rfl
      refine ⟨?s0,fun z1=>fun hz1=>⟨?s1,fun z2=>fun hz2=>ifB_iff.2 ⟨fun hb0=>?m0,fun hb0=>ifB_iff.2 ⟨fun hb1=>?m1,fun hb1=>⟨?s2,⟨?s3,⟨⟨?s4,ifB_iff.2 ⟨fun hb2=>⟨?x0,⟨⟨⟨⟨.refl _,⟨?m2,⟨?m3,trivial⟩⟩⟩,⟨⟨.refl _,⟨.refl _,⟨.refl _,⟨.refl _,⟨.refl _,trivial⟩⟩⟩⟩⟩,⟨⟨?m4,⟨?m5,⟨?m6,⟨.refl _,⟨.refl _,trivial⟩⟩⟩⟩⟩,trivial⟩⟩⟩,⟨.refl _,⟨.refl _,⟨.refl _,trivial⟩⟩⟩⟩,trivial⟩⟩,fun hb2=>⟨?x1,⟨⟨⟨⟨.refl _,⟨?m7,⟨?m8,trivial⟩⟩⟩,⟨⟨.refl _,⟨.refl _,⟨.refl _,⟨.refl _,⟨.refl _,trivial⟩⟩⟩⟩⟩,⟨⟨?m9,⟨?m10,⟨?m11,⟨.refl _,⟨.refl _,trivial⟩⟩⟩⟩⟩,trivial⟩⟩⟩,⟨.refl _,⟨.refl _,⟨.refl _,trivial⟩⟩⟩⟩,trivial⟩⟩⟩⟩,fun z3=>fun _=>⟨⟨?x2,⟨?s5,⟨?s6,⟨trivial,fun z5=>fun hq3=>fun _=>ifB_iff.2 ⟨fun hb4=>⟨?s7,ifB_iff.2 ⟨fun hb5=>⟨?s8,fun z6=>fun hz6=>⟨?s9,⟨?x3,⟨⟨⟨⟨.refl _,⟨?m12,⟨?m13,trivial⟩⟩⟩,⟨⟨.refl _,⟨.refl _,⟨.refl _,⟨.refl _,⟨.refl _,trivial⟩⟩⟩⟩⟩,⟨⟨.refl _,⟨.refl _,⟨.refl _,⟨?m14,⟨.refl _,trivial⟩⟩⟩⟩⟩,trivial⟩⟩⟩,⟨.refl _,⟨.refl _,⟨.refl _,trivial⟩⟩⟩⟩,⟨?s10,⟨trivial,?m15⟩⟩⟩⟩⟩⟩,fun hb5=>⟨?x4,⟨⟨⟨⟨.refl _,⟨?m16,⟨?m17,trivial⟩⟩⟩,⟨⟨.refl _,⟨.refl _,⟨.refl _,⟨.refl _,⟨.refl _,trivial⟩⟩⟩⟩⟩,⟨⟨.refl _,⟨.refl _,⟨.refl _,⟨?m18,⟨.refl _,trivial⟩⟩⟩⟩⟩,trivial⟩⟩⟩,⟨.refl _,⟨.refl _,⟨.refl _,trivial⟩⟩⟩⟩,trivial⟩⟩⟩⟩,fun hb4=>⟨?x5,⟨⟨⟨⟨.refl _,⟨?m19,⟨?m20,trivial⟩⟩⟩,⟨⟨.refl _,⟨.refl _,⟨.refl _,⟨.refl _,⟨.refl _,trivial⟩⟩⟩⟩⟩,⟨⟨.refl _,⟨.refl _,⟨.refl _,⟨?m21,⟨.refl _,trivial⟩⟩⟩⟩⟩,trivial⟩⟩⟩,⟨.refl _,⟨.refl _,⟨.refl _,trivial⟩⟩⟩⟩,trivial⟩⟩⟩⟩⟩⟩⟩,fun z4=>fun _=>⟨?s11,⟨?s12,fun z5=>fun hz5=>⟨?x6,⟨?s13,⟨?s14,⟨trivial,fun z7=>fun hq6=>fun _=>ifB_iff.2 ⟨fun hb7=>ifB_iff.2 ⟨fun hb8=>⟨?s15,fun z8=>fun hz8=>⟨?s16,⟨?x7,⟨⟨⟨⟨.refl _,⟨?m22,⟨?m23,trivial⟩⟩⟩,⟨⟨.refl _,⟨.refl _,⟨.refl _,⟨.refl _,⟨.refl _,trivial⟩⟩⟩⟩⟩,⟨⟨.refl _,⟨.refl _,⟨.refl _,⟨.refl _,⟨?m24,trivial⟩⟩⟩⟩⟩,trivial⟩⟩⟩,⟨.refl _,⟨.refl _,⟨.refl _,⟨.refl _,⟨?m25,trivial⟩⟩⟩⟩⟩⟩,⟨?s17,⟨trivial,?m26⟩⟩⟩⟩⟩⟩,fun hb8=>?m27⟩,fun hb7=>?m28⟩⟩⟩⟩⟩⟩⟩⟩⟩⟩⟩⟩⟩⟩⟩
      case x0=>exact ()
      case x1=>exact ()
      case x4=>exact ()
      case x5=>exact ()
      case x2=>exact ([],tE4 s.data.toList a,tB3 s.data.toList a)
      case x3=>exact (z5.1++[(IntKind.u32.wrap z6.1).toNat],z6.2+1,(z5.2.2 || (decide (z6.2=z5.2.1) || (decide (z6.1 > 4294967295) || !sgnR s.data.toList z6.2 46))))
      case x6=>exact ([],z5.2+1,((tQ s.data.toList a).2.2 || !sgnR s.data.toList (tQ s.data.toList a).2.1 32 || (decide (z5.2=(tQ s.data.toList a).2.1+1) || (decide (z5.1 > (s.size:Int)) || !sgnR s.data.toList z5.2 59))))
      case x7=>exact (z7.1++[z8.1],z8.2)
      all_goals have hz:=sz_list s
      all_goals have hL:lnR s.data.toList=(s.size:Int):=hz
      case s0=>exact ⟨⟨by omega,by omega⟩,⟨by decide,by decide⟩,by omega⟩
      all_goals have k1:z1.1=rdN s.data.toList 255 a:=by rw [hz1]; rfl
      all_goals have k2:z1.2+1=tE1 s.data.toList a:=by rw [hz1]; rfl
      all_goals have u1:a+1≤tE1 s.data.toList a∧(tE1 s.data.toList a=a+1∨tE1 s.data.toList a≤lnR s.data.toList+1):=rdP_up s.data.toList 255 a
      case s1=>exact ⟨⟨by omega,by omega⟩,⟨by omega,by omega⟩,by omega⟩
      all_goals have k3:z2.2+1=tE2 s.data.toList a:=by rw [hz2,← hz,k2]; rfl
      all_goals have k4:z2.1=tN s.data.toList a:=by rw [hz2,← hz,k2]; rfl
      all_goals have u2:tE1 s.data.toList a+1≤tE2 s.data.toList a∧(tE2 s.data.toList a=tE1 s.data.toList a+1∨tE2 s.data.toList a≤lnR s.data.toList+1):=rdP_up s.data.toList (lnR s.data.toList) (tE1 s.data.toList a)
      all_goals have u3:0≤tN s.data.toList a:=rdN_0 s.data.toList (lnR s.data.toList) (tE1 s.data.toList a)
      all_goals have u4:tN s.data.toList a≤10 * lnR s.data.toList+9:=rdN_1 s.data.toList (tE1 s.data.toList a) (by omega)
      all_goals have k5:(false || (decide (z1.2=a) || (decide (z1.1 > 255) || !sgnR s.data.toList z1.2 32)) || (decide (z2.2=z1.2+1) || (decide (z2.1 > (s.size:Int)) || !sgnR s.data.toList z2.2 58)))=tB2 s.data.toList a:=by rw [hz2,← hz,k2,hz1]; rfl
      all_goals rw [k5] at hb0
      case m0 =>
       rw [refO_out (.inl hb0),k1,k3]
       exact endU_need (endU rfl (tm_sub (t:=.mk (tKd s.data.toList a) ⟨#[]⟩ false [] []) rfl) rfl rfl (r:=[_,_]) rfl)
      all_goals have w1:IntKind.i64.wrap ((s.size:Int) - (z2.2+1))=(s.size:Int) - (z2.2+1):=wJ _ (by omega) (by omega)
      all_goals rw [w1] at hb1
      all_goals try simp only [decide_eq_true_eq,decide_eq_false_iff_not] at hb1
      case m1 =>
       rw [refO_out (.inr (by omega)),k1,k3]
       exact endU_need (endU rfl (tm_sub (t:=.mk (tKd s.data.toList a) ⟨#[]⟩ false [] []) rfl) rfl rfl (r:=[_,_]) rfl)
      all_goals have ho:¬ tOut s.data.toList a:=fun h=>h.elim (fun h=>by rw [hb0] at h; cases h) (fun h=>by omega)
      all_goals have w2:IntKind.i64.wrap (z2.2+1+z2.1)=z2.2+1+z2.1:=wJ _ (by omega) (by omega)
      all_goals try rw [w2]
      case s2=>exact ⟨by omega,by omega,by omega⟩
      case s3=>exact ⟨by omega,by omega⟩
      case s4=>omega
      all_goals have e3:tE3 s.data.toList a=z2.2+1+z2.1+1:=by rw [k3,k4]; rfl
      all_goals have gG:tG s.data.toList a=sgnR s.data.toList (z2.2+1+z2.1+1) 45:=by rw [← e3]; rfl
      all_goals have gB:tB3 s.data.toList a=!sgnR s.data.toList (z2.2+1+z2.1) 32:=by rw [k3,k4]; rfl
      case m2 =>
       rw [w2] at hb2
       rw [wJ _ (by omega) (by omega),show tE4 s.data.toList a=tE3 s.data.toList a+1 from if_pos (gG.trans hb2),e3]; exact .refl _
      case m3=>rw [k5,hb0,gB]; exact .refl _
      case m4=>rw [k1]; exact .refl _
      case m5=>rw [ex_sub,k3,k4]; exact .refl _
      case m6 =>
       rw [w2] at hb2
       rw [gG,hb2]; exact .refl _
      case m7 =>
       rw [w2] at hb2
       rw [show tE4 s.data.toList a=tE3 s.data.toList a from if_neg (by rw [gG,hb2]; decide),e3]; exact .refl _
      case m8=>rw [k5,hb0,gB]; exact .refl _
      case m9=>rw [k1]; exact .refl _
      case m10=>rw [ex_sub,k3,k4]; exact .refl _
      case m11 =>
       rw [w2] at hb2
       rw [gG,hb2]; exact .refl _
      case s5=>repeat' first | exact SubB.refl _ | exact trivial | exact rfl | refine And.intro ?_ ?_
      case s6=>exact limAt_zero ha ho
      case s7=>exact hq3.n0
      case s8 =>
       have q1:=hq3.n0
       have q2:=hq3.hi
       exact ⟨⟨by omega,by omega⟩,⟨by decide,by decide⟩,by omega⟩
      case s9 =>
       have q1:=hq3.len
       have q2:=hq3.hi
       exact ⟨by rw [List.length_map]; omega,by rw [List.length_map]; omega⟩
      case m12=>exact .refl _
      case m13=>exact .refl _
      case m14=>exact tl_add _ _
      case s10=>exact lim_go hq3 hb4 hb5 hz6
      case m15=>exact lim_less hq3 hb4 hb5 hz6
      case m16=>rw [← limAt_stop hq3 (fun h=>by have:=h.2; rw [Bool.not_eq_false'] at hb5; rw [hb5] at this; cases this)]; exact .refl _
      case m17=>rw [← limAt_stop hq3 (fun h=>by have:=h.2; rw [Bool.not_eq_false'] at hb5; rw [hb5] at this; cases this)]; exact .refl _
      case m18=>rw [← limAt_stop hq3 (fun h=>by have:=h.2; rw [Bool.not_eq_false'] at hb5; rw [hb5] at this; cases this)]; exact .refl _
      case m19=>rw [← limAt_stop hq3 (fun h=>by have:=h.1; rw [Bool.not_eq_false'] at hb4; rw [hb4] at this; cases this)]; exact .refl _
      case m20=>rw [← limAt_stop hq3 (fun h=>by have:=h.1; rw [Bool.not_eq_false'] at hb4; rw [hb4] at this; cases this)]; exact .refl _
      case m21=>rw [← limAt_stop hq3 (fun h=>by have:=h.1; rw [Bool.not_eq_false'] at hb4; rw [hb4] at this; cases this)]; exact .refl _
      all_goals have u5:=tQ_in ha ho
      case s11=>exact ⟨by omega,by omega⟩
      case s12=>exact ⟨⟨by omega,by omega⟩,⟨by omega,by omega⟩,by omega⟩
      all_goals have k6:z5.2+1=tE7 s.data.toList a:=by rw [hz5,← hz]; rfl
      all_goals have k7:z5.1=tM s.data.toList a:=by rw [hz5,← hz]; rfl
      all_goals have k8:((tQ s.data.toList a).2.2 || !sgnR s.data.toList (tQ s.data.toList a).2.1 32 || (decide (z5.2=(tQ s.data.toList a).2.1+1) || (decide (z5.1 > (s.size:Int)) || !sgnR s.data.toList z5.2 59)))=tB7 s.data.toList a:=by rw [hz5,← hz]; rfl
      case s13 =>
       rw [k7]
       repeat' first | exact SubB.refl _ | exact trivial | exact rfl | refine And.intro ?_ ?_
      case s14 =>
       rw [k8,k6]
       exact ⟨rfl,Int.le_refl _,by
        dsimp only
        cases hc:tB7 s.data.toList a with
        | true=>exact .inl rfl
        | false=>exact .inr (tB7_in hc),by have:=tE_up s.data.toList a; simp only [List.length_nil]; omega⟩
      all_goals have v1:=hq6.up
      all_goals have v2:=hq6.len
      all_goals have v3:=tE_up s.data.toList a
      all_goals have v4:=tOut_lt ho
      case s15 =>
       rw [Bool.not_eq_true'] at hb8
       have v5:z7.2.1≤lnR s.data.toList:=hq6.ok.elim (fun e=>by rw [hb8] at e; cases e) id
       refine ⟨hb8,?_,⟨by omega,by omega⟩,by omega⟩
       unfold msR at hn ⊢; omega
      case s16 =>
       rw [Bool.not_eq_true'] at hb8
       have v5:z7.2.1≤lnR s.data.toList:=hq6.ok.elim (fun e=>by rw [hb8] at e; cases e) id
       exact ⟨by omega,by omega⟩
      case m22=>exact .refl _
      case m23=>exact .refl _
      case m24 =>
       show SubB _ (.tl 4 (.dt .tm (z7.1++[z8.1])))
       rw [Tw.eta]; exact .refl _
      case m25 =>
       have h6:z7.2.1≤lnR s.data.toList:=hq6.ok.elim (fun e=>by rw [e] at hb8; cases hb8) id
       have h7:=hq6.len
       exact subB_i (by rw [List.length_append,wJ _ (by omega) (by omega)]; rfl)
      case s17=>exact kid_goR hq6 hb7 hb8 hz8
      case m26 =>
       have h6:=of_decide_eq_true hb7
       exact (by rw [List.length_append,List.length_singleton]; omega:(tM s.data.toList a - ((z7.1++[z8.1]).length:Nat)).toNat<(tM s.data.toList a - (z7.1.length:Nat)).toNat)
      case m27=>exact ref_end ho hq6 (fun h=>by rw [h.2] at hb8; cases hb8)
      case m28=>exact ref_end ho hq6 (fun h=>by rw [decide_eq_true h.1] at hb7; cases hb7)
  · cases hs
end Go.Proofs.YtdeacbdpmdfgdaaDoor
namespace Go.Proofs.YtdeacbdpmdfgdaaDoor
open Go.RowKit
set_option linter.unusedVariables false
set_option maxRecDepth 100000
structure AtR (s:List UInt8) (a:Int) (l:List UInt8):Prop where
 n0:0≤a
 le:a≤(s.length:Int)
 eq:s.drop a.toNat=l
theorem AtR.len {s l:List UInt8} {a:Int} (h:AtR s a l):a+l.length=s.length:=by
 have h1:=congrArg List.length h.eq
 rw [List.length_drop] at h1
 have h2:=h.n0
 have h3:=h.le
 omega
theorem AtR.skip {s k l:List UInt8} {a:Int} (h:AtR s a (k++l)):AtR s (a+k.length) l:=by
 have h1:=h.len
 have h2:=h.n0
 rw [List.length_append] at h1
 refine ⟨by omega,by omega,?_⟩
 rw [show (a+k.length).toNat=a.toNat+k.length by omega,← List.drop_drop,h.eq,List.drop_left]
theorem AtR.head {s l:List UInt8} {c:UInt8} {a:Int} (h:AtR s a (c::l)):a<(s.length:Int)∧byR s a=(c.toNat:Int)∧AtR s (a+1) l:=by
 have h1:=h.len
 rw [List.length_cons] at h1
 refine ⟨by omega,?_,AtR.skip (k:=[c]) h⟩
 have h2:s[a.toNat]?=some c:=by
  have h3:(s.drop a.toNat)[0]?=some c:=by rw [h.eq]; rfl
  rw [List.getElem?_drop] at h3
  exact h3
 unfold byR
 rw [List.getD_eq_getElem?_getD,h2]
 rfl
theorem AtR.sgn {s l:List UInt8} {c:UInt8} {a:Int} (h:AtR s a (c::l)) (x:Int):sgnR s a x=decide ((c.toNat:Int)=x):=by
 obtain ⟨h1,h2,-⟩:=h.head
 unfold sgnR
 rw [decide_eq_true h1,h2]
 rfl
theorem fold_le:∀ (k:List UInt8) (n:Nat),n≤k.foldl (fun n c=>n * 10+(c.toNat - 48)) n
 | [],n=>Nat.le_refl n
 | c::k,n=>by
  have h:=fold_le k (n * 10+(c.toNat - 48))
  rw [List.foldl_cons]
  omega
theorem digC_in {c:UInt8} (h:digC c=true):48≤c.toNat∧c.toNat≤57:=by
 unfold digC at h
 rw [Bool.and_eq_true,decide_eq_true_eq,decide_eq_true_eq] at h
 exact h
theorem digC_out {c:UInt8} (h:digC c=false):¬ (48≤c.toNat∧c.toNat≤57):=fun h'=>by
 unfold digC at h
 rw [decide_eq_true h'.1,decide_eq_true h'.2] at h
 cases h
theorem scan_digs {s:List UInt8} {m:Int}:∀ (k:List UInt8) (n:Nat) (a:Int) (r:List UInt8),AtR s a (k++r)→(∀ c∈k,digC c=true)→((k.foldl (fun n c=>n * 10+(c.toNat - 48)) n:Nat):Int)≤m→scanR s m n a=scanR s m ((k.foldl (fun n c=>n * 10+(c.toNat - 48)) n:Nat):Int) (a+k.length)
 | [],n,a,r,_,_,_=>by rw [List.length_nil,Int.natCast_zero,Int.add_zero]; rfl
 | c::k,n,a,r,h,hd,hm=>by
  obtain ⟨h1,h2,h3⟩:=AtR.head (l:=k++r) h
  have h4:=digC_in (hd c (List.mem_cons_self ..))
  have h5:=fold_le k (n * 10+(c.toNat - 48))
  rw [List.foldl_cons] at hm ⊢
  have h6:=scan_digs k (n * 10+(c.toNat - 48)) (a+1) r h3 (fun x hx=>hd x (List.mem_cons_of_mem _ hx)) hm
  rw [scan_go ⟨h1,by omega,by omega,by omega⟩,h2,show (10 * (n:Int)+((c.toNat:Int) - 48))=((n * 10+(c.toNat - 48):Nat):Int) by omega,h6,List.length_cons,show a+1+(k.length:Int)=a+((k.length+1:Nat):Int) by omega]
theorem rd_dec {s r:List UInt8} {m a:Int} {n:Nat} {c:UInt8} (h:AtR s a (Lib.decDigits n++c::r)) (hc:digC c=false) (hm:(n:Int)≤m):rdN s m a=n∧AtR s (rdP s m a) r∧(∀ x:Int,(c.toNat:Int)=x→rdB s m a x=false)∧a+2≤rdP s m a:=by
 have h1:=h.skip
 obtain ⟨h2,h3,h4⟩:=h1.head
 have h5:scanR s m 0 a=((n:Int),a+(Lib.decDigits n).length):=by
  have h6:(Lib.decDigits n).foldl (fun n c=>n * 10+(c.toNat - 48)) 0=n:=valC_dec n
  have h7:=scan_digs (m:=m) (Lib.decDigits n) 0 a (c::r) h (decC_all n) (by rw [h6]; exact hm)
  rw [h6] at h7
  rw [show (0:Int)=((0:Nat):Int) from rfl,h7]
  refine scan_end fun h8=>?_
  have h9:=digC_out hc
  have h10:=h8.2.1
  have h11:=h8.2.2.1
  rw [h3] at h10 h11
  omega
 have h6:0<(Lib.decDigits n).length:=List.length_pos_iff.2 (decC_ne n)
 refine ⟨by rw [rdN,h5],by rw [rdP,h5]; exact h4,fun x hx=>?_,by rw [rdP,h5]; dsimp only; omega⟩
 rw [rdB,h5]
 dsimp only
 rw [decide_eq_false (by omega),decide_eq_false (by omega),h1.sgn,decide_eq_true hx]
 rfl
theorem limR_at {s:List UInt8}:∀ (ds acc:List Nat) (a:Int) (r:List UInt8),AtR s a (digsC ds++32::r)→(∀ x∈ds,x<4294967296)→∃ b,limR s acc a false=(acc++ds,b,false)∧AtR s b (32::r)
 | [],acc,a,r,h,hd=>⟨a,by rw [limR_stop (fun hc=>by rw [AtR.sgn (c:=32) (l:=r) h] at hc; cases hc.2),List.append_nil],h⟩
 | d::ds,acc,a,r,h,hd=>by
  have h0:AtR s a (Lib.decDigits d++46::(digsC ds++32::r)):=by
   rw [digsC,List.append_assoc] at h; exact h
  have h1:=hd d (List.mem_cons_self ..)
  obtain ⟨e1,e2,e3,-⟩:=rd_dec h0 (by decide) (m:=4294967295) (by omega)
  have hs:sgnR s a 32=false:=by
   cases hk:Lib.decDigits d with
   | nil=>exact absurd hk (decC_ne d)
   | cons c k =>
    have h2:=digC_in (decC_all d c (by rw [hk]; exact List.mem_cons_self ..))
    rw [hk] at h0
    rw [AtR.sgn (c:=c) (l:=k++46::(digsC ds++32::r)) h0,decide_eq_false (by omega)]
  have h3:=h.le
  obtain ⟨b,e4,e5⟩:=limR_at ds (acc++[d]) _ r e2 fun x hx=>hd x (List.mem_cons_of_mem _ hx)
  refine ⟨b,?_,e5⟩
  rw [limR_go (by unfold lnR; omega) hs,e1,e3 46 rfl,u32_id h1,Int.toNat_natCast,e4,List.append_assoc]
  rfl
theorem keyB_pos (t:Tw):0<(keyB t).length:=by
 rw [keyB_eq,List.length_append,List.length_cons]; omega
theorem keyBL_ge:∀ l:List Tw,l.length≤(keyBL l).length
 | []=>Nat.le_refl _
 | t::l=>by
  have h1:=keyBL_ge l
  have h2:=keyB_pos t
  rw [keyBL,List.length_append,List.length_cons]
  omega
theorem nm_at {s r:List UInt8} {n:ByteArray} {a:Int} (h:AtR s a (n.data.toList++r)):bA ((s.take (a+n.size).toNat).drop a.toNat)=n:=by
 have h0:=h.n0
 have hz:=sz_list n
 rw [List.drop_take,h.eq,show (a+n.size).toNat - a.toNat=n.data.toList.length by omega,List.take_left]
 rfl
mutual
theorem refO_at:∀ (t:Tw) {s r:List UInt8} {a:Int},AtR s a (keyB t++r)→kindR t→∃ b,refO s a=(t,b,false)∧AtR s b r
 | .mk k n b d l,s,r,a,h,hk=>by
  obtain ⟨⟨⟨hk0,hk1⟩,hd⟩,hl⟩:=hk
  rw [keyB] at h
  simp only [List.append_assoc,List.cons_append] at h
  have hz:=sz_list n
  obtain ⟨k1,k2,k3,-⟩:=rd_dec h (by decide) (m:=255) (by omega)
  have l2:=k2.len
  simp only [List.length_append,List.length_cons] at l2
  have a0:=h.n0
  have a2:=k2.n0
  have hge:=keyBL_ge l
  obtain ⟨n1,n2,n3,-⟩:=rd_dec k2 (by decide) (m:=lnR s) (by unfold lnR; omega)
  change AtR s (tE2 s a) _ at n2
  change tN s a=_ at n1
  have l3:=n2.len
  simp only [List.length_append,List.length_cons] at l3
  have ho:¬ tOut s a:=by
   rintro (h1 | h1)
   · have h2:tB2 s a=false:=by
      show (rdB s 255 a 32 || rdB s (lnR s) (tE1 s a) 58)=false
      rw [k3 32 rfl,show rdB s (lnR s) (tE1 s a) 58=false from n3 58 rfl]; rfl
     rw [h2] at h1; cases h1
   · unfold lnR at h1
     omega
  have e1:tKd s a=k:=by
   show IntKind.u8.wrap (rdN s 255 a)=k
   rw [k1,Int.toNat_of_nonneg hk0]
   have:=u8_id (k:=k) hk0 hk1
   rwa [Int.toNat_of_nonneg hk0] at this
  have e2:tNm s a=n:=by
   show bA ((s.take (tE2 s a+tN s a).toNat).drop (tE2 s a).toNat)=n
   rw [n1]
   exact nm_at n2
  have p3:=n2.skip
  rw [hz,← n1] at p3
  have e3:tB3 s a=false:=by
   show (!sgnR s (tE2 s a+tN s a) 32)=false
   rw [p3.sgn]; rfl
  have p4:=p3.head.2.2
  change AtR s (tE3 s a) _ at p4
  have hg:tG s a=b∧AtR s (tE4 s a) (digsC d++32::(Lib.decDigits l.length++59::(keyBL l++r))):=by
   have hc:∀ x,x=tG s a→AtR s (if x=true then tE3 s a+1 else tE3 s a) (digsC d++32::(Lib.decDigits l.length++59::(keyBL l++r)))→AtR s (tE4 s a) (digsC d++32::(Lib.decDigits l.length++59::(keyBL l++r))):=fun x hx hp=>by
    subst hx; exact hp
   cases b with
   | true =>
    have h1:tG s a=true:=by
     show sgnR s (tE3 s a) 45=true
     rw [AtR.sgn (c:=45) p4]; rfl
    exact ⟨h1,hc true h1.symm (AtR.head (c:=45) p4).2.2⟩
   | false =>
    have h1:tG s a=false:=by
     show sgnR s (tE3 s a) 45=false
     cases d with
     | nil=>rw [AtR.sgn (c:=32) p4]; rfl
     | cons x d =>
      cases hx:Lib.decDigits x with
      | nil=>exact absurd hx (decC_ne x)
      | cons c q =>
       have h2:=digC_in (decC_all x c (by rw [hx]; exact List.mem_cons_self ..))
       have p5:AtR s (tE3 s a) (c::(q++(46::digsC d++32::(Lib.decDigits l.length++59::(keyBL l++r))))):=by
        have:digsC (x::d)=c::(q++46::digsC d):=by rw [digsC,hx]; rfl
        rw [this] at p4
        simpa using p4
       rw [p5.sgn,decide_eq_false (by omega)]
    exact ⟨h1,hc false h1.symm p4⟩
  obtain ⟨b',q1,q2⟩:=limR_at d [] _ _ hg.2 hd
  have eQ:tQ s a=(d,b',false):=by
   show limR s [] (tE4 s a) (tB3 s a)=_
   rw [e3,q1]; rfl
  have q3:=q2.head.2.2
  have e6:tE6 s a=b'+1:=by show (tQ s a).2.1+1=_; rw [eQ]
  have e7:tB6 s a=false:=by
   show ((tQ s a).2.2 || !sgnR s (tQ s a).2.1 32)=false
   rw [eQ]
   dsimp only
   rw [q2.sgn]; rfl
  rw [← e6] at q3
  have q0:=q3.n0
  have l4:=q3.len
  simp only [List.length_append,List.length_cons] at l4
  obtain ⟨m1,m2,m3,-⟩:=rd_dec q3 (by decide) (m:=lnR s) (by unfold lnR; omega)
  change tM s a=_ at m1
  change AtR s (tE7 s a) _ at m2
  have e8:tB7 s a=false:=by
   show (tB6 s a || rdB s (lnR s) (tE6 s a) 59)=false
   rw [e7,m3 59 rfl]; rfl
  obtain ⟨c',r1,r2⟩:=refKO_at l 0 [] m2 hl
  refine ⟨c',?_,r2⟩
  rw [refO_in ho,e1,e2,hg.1,eQ,m1,e8]
  rw [show (0:Int)+(l.length:Int)=l.length by omega] at r1
  rw [r1]
  rfl
theorem refKO_at:∀ (l:List Tw) {s r:List UInt8} {a:Int} (i:Int) (acc:List Tw),AtR s a (keyBL l++r)→kindRL l→∃ b,refKO s (i+l.length) a false i acc=(acc++l,b,false)∧AtR s b r
 | [],s,r,a,i,acc,h,hk=>⟨a,by rw [refKO_stop (by rw [List.length_nil]; omega),List.append_nil],h⟩
 | t::l,s,r,a,i,acc,h,hk=>by
  rw [keyBL,List.append_assoc] at h
  obtain ⟨b,e1,e2⟩:=refO_at t h hk.1
  obtain ⟨c,e3,e4⟩:=refKO_at l (i+1) (acc++[t]) e2 hk.2
  refine ⟨c,?_,e4⟩
  rw [refKO_go (by rw [List.length_cons]; omega),e1]
  dsimp only
  rw [show i+((t::l).length:Int)=i+1+l.length by rw [List.length_cons]; omega,e3,List.append_assoc]
  rfl
end
theorem key_ref {t:Tw} (hk:kindR t):∃ b,refO (keyB t) 0=(t,b,false):=by
 obtain ⟨b,h,-⟩:=refO_at t (s:=keyB t) (r:=[]) (a:=0) ⟨Int.le_refl 0,by omega,by rw [List.append_nil]; rfl⟩ hk
 exact ⟨b,h⟩
theorem dec_le:∀ n:Nat,(Lib.decDigits n).length≤n+1:=by
 intro n
 induction n using Nat.strongRecOn with
 | ind n ih =>
  rw [Lib.decDigits]
  split
  · simp
  · have:=ih (n / 10) (by omega)
    simp only [List.length_append,List.length_singleton]
    omega
theorem limF_len (s:List UInt8):∀ (f:Nat) (ds:List Nat) (a:Int) (b:Bool),((limF s f ds a b).1.length:Int)+a≤ds.length+(limF s f ds a b).2.1
 | 0,ds,a,b=>by rw [limF]; exact Int.le_refl _
 | f+1,ds,a,b=>by
  rw [limF]
  split
  · have h1:=limF_len s f (ds++[(IntKind.u32.wrap (rdN s 4294967295 a)).toNat]) (rdP s 4294967295 a) (rdB s 4294967295 a 46)
    have h2:=rdP_up s 4294967295 a
    rw [List.length_append,List.length_singleton] at h1
    omega
  · exact Int.le_refl _
theorem u8_in (z:Int):0≤IntKind.u8.wrap z∧IntKind.u8.wrap z≤255:=by
 have h1:=Int.emod_nonneg z (show (256:Int)≠0 by decide)
 have h2:=Int.emod_lt_of_pos z (show (0:Int)<256 by decide)
 exact ⟨h1,Int.le_of_lt_add_one h2⟩
structure Wgt (t:Tw) (n:Int):Prop where
 kind:kindR t
 len:((keyB t).length:Int)+1≤64 * n
structure WgtL (l:List Tw) (n:Int):Prop where
 kind:kindRL l
 len:((keyBL l).length:Int)+l.length≤64 * n+9
theorem wgt_node {k:Int} {n:ByteArray} {b:Bool} {d:List Nat} {l:List Tw} {x y:Int} (hk:0≤k∧k≤255) (hd:∀ x∈d,x<4294967296) (hl:WgtL l x) (h0:0≤x) (hy:(n.size:Int)+d.length+x+5≤y):Wgt (.mk k n b d l) y:=by
 have h1:=dec_len 2 k.toNat (by omega)
 have h2:=dec_le n.size
 have h3:=dec_le l.length
 have h4:=digsC_len hd
 have h5:=hl.len
 have h6:(if b=true then [(45:UInt8)] else []).length≤1:=by split <;> simp
 have h7:=sz_list n
 refine ⟨⟨⟨hk,hd⟩,hl.kind⟩,?_⟩
 rw [keyB]
 simp only [List.length_append,List.length_cons]
 omega
theorem tNm_size {s:List UInt8} {a:Int} (h:0≤tN s a) (h0:0≤tE2 s a):((tNm s a).size:Int)≤tN s a:=by
 have h1:(tNm s a).size=((s.take (tE2 s a+tN s a).toNat).drop (tE2 s a).toNat).length:=rfl
 rw [h1,List.length_drop,List.length_take]
 omega
theorem key_none (k:Int) (hk:0≤k∧k≤255):(keyB (.mk k ⟨#[]⟩ false [] [])).length≤10:=by
 have h1:=dec_len 2 k.toNat (by omega)
 have h2:=dec_len 0 0 (by decide)
 rw [keyB]
 simp only [List.length_append,List.length_cons,digsC,keyBL,List.length_nil]
 have h3:(ByteArray.mk #[]).size=0:=rfl
 have h4:(if false=true then [(45:UInt8)] else []).length=0:=rfl
 rw [h3,h4]
 omega
theorem key_nil:(keyB Sh.tm.nil).length≤8:=by
 show (keyB (.mk 0 ⟨#[]⟩ false [] [])).length≤8
 have h2:=dec_len 0 0 (by decide)
 rw [keyB]
 simp only [List.length_append,List.length_cons,digsC,keyBL,List.length_nil]
 have h3:(ByteArray.mk #[]).size=0:=rfl
 have h4:(if false=true then [(45:UInt8)] else []).length=0:=rfl
 have h5:(0:Int).toNat=0:=rfl
 rw [h3,h4,h5]
 omega
theorem kindRL_snoc {l:List Tw} {x:Tw} (h:kindRL l) (hx:kindR x):kindRL (l++[x]):=kindRL_of fun y hy=>by
 rcases List.mem_append.1 hy with hy | hy
 · exact kindRL_mem h hy
 · cases List.mem_singleton.1 hy; exact hx
theorem keyBL_snoc (l:List Tw) (x:Tw):((keyBL (l++[x])).length:Int)+(l++[x]).length=(keyBL l).length+l.length+((keyB x).length+1):=by
 rw [keyBL_app,List.length_append,keyBL,keyBL,List.append_nil,List.length_append,List.length_singleton]
 omega
structure WgtN (l:List Tw) (n:Int):Prop where
 kind:kindRL l
 len:((keyBL l).length:Int)+l.length≤64 * n
theorem WgtN.go {l:List Tw} {x:Tw} {n d:Int} (h:WgtN l n) (hx:Wgt x d):WgtN (l++[x]) (n+d):=⟨kindRL_snoc h.kind hx.kind,by
 have h1:=h.len
 have h2:=hx.len
 rw [keyBL_snoc]
 omega⟩
theorem WgtN.nil {l:List Tw} {n:Int} (h:WgtN l n):WgtL (l++[Sh.tm.nil]) n:=⟨kindRL_snoc h.kind ⟨⟨⟨by decide,by decide⟩,fun x hx=>by cases hx⟩,trivial⟩,by
 have h1:=h.len
 have h2:=key_nil
 rw [keyBL_snoc]
 omega⟩
theorem WgtN.out {l:List Tw} {n:Int} (h:WgtN l n):WgtL l n:=⟨h.kind,by have:=h.len; omega⟩
theorem ref_ups (s:List UInt8) (a:Int):tE2 s a+tN s a+3+(tQ s a).1.length≤tE7 s a:=by
 have h9:=limF_len s (lnR s+2 - tE4 s a).toNat [] (tE4 s a) (tB3 s a)
 change ((tQ s a).1.length:Int)+tE4 s a≤([]:List Nat).length+(tQ s a).2.1 at h9
 have h10:=rdP_up s (lnR s) (tE6 s a)
 change tE6 s a+1≤tE7 s a∧_ at h10
 have h11:tE6 s a=(tQ s a).2.1+1:=rfl
 have h12:tE3 s a≤tE4 s a:=by unfold tE4; split <;> omega
 have h13:tE3 s a=tE2 s a+tN s a+1:=rfl
 rw [List.length_nil] at h9
 omega
theorem refT_w1 {s:List UInt8} {a:Int} {l:List Tw} {y:Int} (ha:0≤a) (h2:WgtL l (y - tE7 s a)) (h8:tE7 s a≤y):Wgt (.mk (tKd s a) (tNm s a) (tG s a) (tQ s a).1 l) (y - a):=by
 have h1:=tE_up s a
 have hn:0≤tN s a:=rdN_0 s (lnR s) (tE1 s a)
 have h9:=ref_ups s a
 have h14:=tNm_size hn (by omega:0≤tE2 s a)
 exact wgt_node (u8_in _) (tQ_lt s a) h2 (by omega) (by omega)
mutual
theorem refT_w (s:List UInt8):∀ (f:Nat) (a:Int),0≤a→0<f→Wgt (refT s f a).1 ((refT s f a).2.1 - a)
 | 0,a,ha,h=>absurd h (Nat.lt_irrefl 0)
 | f+1,a,ha,_=>by
  have h1:=tE_up s a
  rw [refT]
  split
  · refine ⟨⟨⟨u8_in _,fun x hx=>by cases hx⟩,trivial⟩,?_⟩
    have h2:=key_none (tKd s a) (u8_in _)
    dsimp only
    omega
  · have hn:0≤tN s a:=rdN_0 s (lnR s) (tE1 s a)
    have h2:=refK_w s f (tM s a) (tE7 s a) (tB7 s a) 0 [] 0 (by omega) ⟨trivial,by simp [keyBL]⟩
    rw [Int.zero_add] at h2
    exact refT_w1 ha h2 (refK_up s f (tM s a) (tE7 s a) (tB7 s a) 0 [])
theorem refK_w (s:List UInt8):∀ (f:Nat) (m a:Int) (b:Bool) (i:Int) (l:List Tw) (n:Int),0≤a→WgtN l n→WgtL (refK s f m a b i l).1 (n+((refK s f m a b i l).2.1 - a))
 | 0,m,a,b,i,l,n,ha,h=>by
  rw [refK]
  dsimp only
  rw [Int.sub_self,Int.add_zero]
  exact h.out
 | 1,m,a,b,i,l,n,ha,h=>by
  rw [refK]
  split
  · rw [refK,refT]
    dsimp only
    rw [Int.sub_self,Int.add_zero]
    exact h.nil
  · dsimp only
    rw [Int.sub_self,Int.add_zero]
    exact h.out
 | f+2,m,a,b,i,l,n,ha,h=>by
  rw [refK]
  split
  · have h1:=refT_w s (f+1) a ha (Nat.succ_pos f)
    have h2:=(refT_up s (f+1) a).1
    have h4:=refK_w s (f+1) m (refT s (f+1) a).2.1 (refT s (f+1) a).2.2 (i+1) (l++[(refT s (f+1) a).1]) (n+((refT s (f+1) a).2.1 - a)) (Int.le_trans ha h2) (h.go h1)
    have e:∀ p q r:Int,n+(p - q)+(r - p)=n+(r - q):=fun p q r=>by omega
    rw [e] at h4
    exact h4
  · dsimp only
    rw [Int.sub_self,Int.add_zero]
    exact h.out
end
theorem refO_w {s:List UInt8} {a:Int} (ha:0≤a):Wgt (refO s a).1 ((refO s a).2.1 - a):=refT_w s _ a ha (Nat.succ_pos _)
mutual
theorem fit_of:∀ (t:Tw),(keyB t).length≤40000000→t.fitT∧shortT t
 | .mk k n b d l,h=>by
  rw [keyB] at h
  simp only [List.length_append,List.length_cons] at h
  have h1:=digs_len d
  have h2:=keyBL_ge l
  have h3:=sz_list n
  have h4:=fitL_of l (by omega)
  exact ⟨⟨by omega,by omega,by omega,h4.1⟩,⟨by omega,by omega⟩,h4.2⟩
theorem fitL_of:∀ (l:List Tw),(keyBL l).length≤40000000→fitTL l∧shortTL l
 | [],_=>⟨trivial,trivial⟩
 | t::l,h=>by
  rw [keyBL,List.length_append] at h
  have h1:=fit_of t (by omega)
  have h2:=fitL_of l (by omega)
  exact ⟨⟨h1.1,h2.1⟩,h1.2,h2.2⟩
end
end Go.Proofs.YtdeacbdpmdfgdaaDoor
