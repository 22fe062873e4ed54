/- The examples of the statements on linears, told. -/
import Derived.Test.YtmbmbcamecfnkaaGreatDoorLq
import Derived.Test.YtmbmbcamecfnkaaGreatDoorLt
import Derived.Test.YtmbmbcamecfnkaaGreatDoorNw
import Derived.Test.YtmbmbcamecfnkaaGreatDoorLs
namespace Go.Proofs.YtmbmbcamecfnkaaGreatDoor
open Go.RowKit
set_option linter.unusedVariables false
set_option maxRecDepth 100000
mutual
theorem QjK:∀ t:Tw,nodW t≤11 * cntT t
 | .mk k n b d l=>by
  have:=QhI l
  rw [nodW,cntT]
  omega
theorem QhI:∀ l:List Tw,Qel l≤11 * QbT l
 | []=>by rw [Qel]; omega
 | t::l=>by
  have h1:=QjK t
  have h2:=QhI l
  rw [Qel,QbT]
  omega
end
theorem Qf0 {t:Tw} (k:QbN t) (h:cntT t≤5000):t.fitT∧(keyB t).length≤4000000000:=by
 have f:=Qm0 t (by omega)
 have h1:=QjK t
 have h2:=Qka t
 refine ⟨f,Nat.le_trans (QmF t k f) (Nat.le_trans (Nat.mul_le_mul (Nat.le_trans h2 h) (Nat.add_le_add_right (Nat.le_trans h1 (Nat.mul_le_mul_left 11 h)) 60)) (by decide))⟩
def IsZ (q:Rat) (b:Nat):Prop:=∃ z:Int,q=(z:Rat)∧z.natAbs≤b
theorem IsZ.add {p q:Rat} {a b:Nat} (h:IsZ p a) (h':IsZ q b):IsZ (p+q) (a+b):=by
 obtain ⟨y,rfl,hy⟩:=h
 obtain ⟨z,rfl,hz⟩:=h'
 exact ⟨y+z,(Rat.intCast_add y z).symm,by omega⟩
theorem IsZ.mul {p q:Rat} {a b:Nat} (h:IsZ p a) (h':IsZ q b):IsZ (p * q) (a * b):=by
 obtain ⟨y,rfl,hy⟩:=h
 obtain ⟨z,rfl,hz⟩:=h'
 exact ⟨y * z,(Rat.intCast_mul y z).symm,by rw [Int.natAbs_mul]; exact Nat.mul_le_mul hy hz⟩
theorem IsZ.mono {p:Rat} {a b:Nat} (h:IsZ p a) (hb:a≤b):IsZ p b:=by
 obtain ⟨y,rfl,hy⟩:=h
 exact ⟨y,rfl,Nat.le_trans hy hb⟩
theorem IsZ.zero (b:Nat):IsZ 0 b:=⟨0,rfl,Nat.zero_le _⟩
theorem IsZ.zb {p:Rat} {k m n:Nat} (h:IsZ p (m * 1000000000 ^ k)) (hk:k+2≤n) (hm:m≤1000000000):ZB p.num n∧ZB p.den n:=by
 obtain ⟨y,rfl,hy⟩:=h
 have h1:m * 1000000000 ^ k<1000000000 ^ n:=by
  refine Nat.lt_of_le_of_lt (Nat.mul_le_mul_right _ hm) ?_
  rw [Nat.mul_comm,← Nat.pow_succ]
  exact Nat.pow_lt_pow_right (by omega) (by omega)
 refine ⟨Nat.lt_of_le_of_lt hy h1,?_⟩
 show ZB ((y:Rat).den:Nat) n
 rw [Rat.den_intCast]
 exact ZB.one.mono (by omega)
theorem IsZ.zq {p:Rat} {k m:Nat} (h:IsZ p (m * 1000000000 ^ k)) (hk:k+2≤5000) (hm:m≤1000000000):ZQ p:=h.zb hk hm
theorem zT_is {t:Tw} (h:∀ x∈t.digits,x<4294967296):IsZ (zT t) (1000000000 ^ (t.digits.length+1)) :=
 ⟨zV t.neg t.digits,rfl,Nat.le_of_lt (Qge _ _ h)⟩
structure Inv6 (W m:Nat) (s:St6):Prop where
 can:canL s.1
 val:∀ k,IsZ (valL s.1 k) (m * 1000000000 ^ W)
 num:IsZ s.2 (m * 1000000000 ^ W)
 len:s.1.length≤m
 key:∀ x∈s.1,x.1.size≤4000000000
theorem Inv6.mono {W m m':Nat} {s:St6} (h:Inv6 W m s) (hm:m≤m'):Inv6 W m' s :=
 ⟨h.can,fun k=>(h.val k).mono (Nat.mul_le_mul_right _ hm),h.num.mono (Nat.mul_le_mul_right _ hm),Nat.le_trans h.len hm,h.key⟩
theorem QsB {t:Tw} (h:t.kids.length=1):t.kids=[t.kids.getD 0 Sh.tm.nil]:=by
 generalize t.kids=l at h
 match l,h with
 | [a],_=>rfl
theorem Qk9 {t:Tw} (h:QbN t):((0≤t.kind∧t.kind≤255)∧∀ x∈t.digits,x<4294967296)∧QeJ t.kids:=by
 cases t; exact h
theorem QiT {W:Nat} (hW:W≤4990):∀ (n:Nat) (t:Tw) (c:Rat) (s:St6) (a m:Nat),t.size≤n→QbN t→cntT t≤5000→IsZ c (1000000000 ^ a)→a+cntT t≤W→m+cntT t≤1000000→Inv6 W m s→FitT n t c s∧Inv6 W (m+cntT t) (sumT n t c s).2
 | 0,t,c,s,a,m,h1,_,_,_,_,_,_=>absurd t.size_pos (by omega)
 | n+1,t,c,s,a,m,h1,hk,h5,hc,ha,hm,hs=>by
  have hsz:=t.size_eq
  have hcn:=Qg8 t
  obtain ⟨⟨hk1,hk2⟩,hk3⟩:=Qk9 hk
  have hcW:IsZ c (1 * 1000000000 ^ W):=by rw [Nat.one_mul]; exact hc.mono (Nat.pow_le_pow_right (by omega) (by omega))
  have kids:∀ (l:List Tw) (s:St6) (m:Nat),szL l≤n→QeJ l→QbT l≤5000→a+QbT l≤W→m+QbT l≤1000000→Inv6 W m s→FitK (fun k s=>FitT n k c s) (fun k s=>sumT n k c s) l s∧Inv6 W (m+QbT l) (sumK (fun k s=>sumT n k c s) l s).2:=by
   intro l
   induction l with
   | nil=>exact fun s m _ _ _ _ _ h=>⟨trivial,h.mono (Nat.le_add_right _ _)⟩
   | cons u l ih =>
    intro s m g1 g2 g3 g4 g5 g6
    simp only [szL,QbT] at g1 g3 g4 g5 ⊢
    obtain ⟨f1,f2⟩:=QiT hW n u c s a m (by omega) g2.1 (by omega) hc (by omega) (by omega) g6
    have:=ih (sumT n u c s).2 (m+cntT u) (by omega) g2.2 (by omega) (by omega) (by omega) f2
    rw [FitK,sumK]
    refine ⟨⟨f1,fun _=>this.1⟩,?_⟩
    split
    · exact this.2.mono (by omega)
    · exact f2.mono (by omega)
  have hz:IsZ (c * zT t) (1000000000 ^ (a+(t.digits.length+1))):=by
   rw [Nat.pow_add]; exact hc.mul (zT_is hk2)
  have hzW:IsZ (c * zT t) (1 * 1000000000 ^ W):=by rw [Nat.one_mul]; exact hz.mono (Nat.pow_le_pow_right (by omega) (by omega))
  have hatom:Inv6 W (m+1) (addL s.1 (keyS t) c,s.2):=by
   refine ⟨Qb2 hs.can,fun k=>?_,hs.num.mono (Nat.mul_le_mul_right _ (by omega)),?_,fun x hx=>?_⟩
   · show IsZ (valL (addL s.1 (keyS t) c) k) _
     rw [Qd5 k hs.can,Nat.add_mul]
     refine (hs.val k).add ?_
     split
     · exact hcW
     · exact .zero _
   · exact Nat.le_trans Qi9 (Nat.add_le_add_right hs.len 1)
   · rcases Qgd hx with e | hx
     · rw [e]; exact (Qf0 hk h5).2
     · exact hs.key x hx
  have hfit:∀ {m:Nat} {s:St6},m≤1000000→Inv6 W m s→fitL 5000 s.1:=fun hm h=>Qf4 h.can fun k=>(h.val k).zq (by omega) (by omega)
  have kid:t.kind=6→t.kids.length=1→FitT n (t.kids.getD 0 Sh.tm.nil) (c * zT t) s∧Inv6 W (m+cntT (t.kids.getD 0 Sh.tm.nil)) (sumT n (t.kids.getD 0 Sh.tm.nil) (c * zT t) s).2:=fun _ h7=>by
   have e:=QsB h7
   rw [e] at hk3 hsz hcn
   simp only [szL,QbT,Nat.add_zero] at hsz hcn
   exact QiT hW n _ _ s _ m (by omega) hk3.1 (by omega) hz (by omega) (by omega) hs
  have hnum:Inv6 W (m+1) (s.1,c * zT t+s.2):=by
   refine ⟨hs.can,fun k=>(hs.val k).mono (Nat.mul_le_mul_right _ (by omega)),?_,Nat.le_succ_of_le hs.len,hs.key⟩
   show IsZ (c * zT t+s.2) _
   rw [Nat.add_comm m 1,Nat.add_mul]
   exact hzW.add hs.num
  refine ⟨?_,?_⟩
  · rw [FitT]
    refine ⟨fun _=>⟨hfit (by omega) hatom,hk,(Qf0 hk h5).1,Nat.le_trans (Qf0 hk h5).2 (by decide)⟩,fun _=>(kids t.kids s m (by omega) hk3 (by omega) (by omega) (by omega) hs).1,fun _=>⟨by omega,hzW.zq (by omega) (by omega),fun h6 h7=>(kid h6 h7).1,fun _=>hnum.num.zq (by omega) (by omega)⟩⟩
  · rw [sumT]
    have hm0:=hs.mono (Nat.le_add_right m (cntT t))
    split
    · exact hatom.mono (by omega)
    · split
      · exact (kids t.kids s m (by omega) hk3 (by omega) (by omega) (by omega) hs).2.mono (by omega)
      · split
        · split
          · split
            · rename_i h6
              split
              · rename_i h7
                refine (kid h6 h7).2.mono ?_
                have e:=QsB h7
                rw [e] at hcn
                simp only [QbT,Nat.add_zero] at hcn
                omega
              · exact hm0
            · exact hnum.mono (by omega)
          · exact hm0
        · exact hm0
theorem QcJ {n:Nat} {t:Tw} (h1:t.size≤n) (hk:QbN t) (h:cntT t≤4900):FitO n t∧Inv6 (cntT t) (cntT t) (sumT n t 1 ([],0)).2:=by
 have:=QiT (W:=cntT t) (by omega) n t 1 ([],0) 0 0 h1 hk (by omega) ⟨1,rfl,Nat.le_refl _⟩ (by omega) (by omega) ⟨trivial,fun k=>.zero _,.zero _,Nat.le_refl _,fun x hx=>nomatch hx⟩
 rw [Nat.zero_add] at this
 refine ⟨⟨this.1,Nat.le_trans this.2.len (by omega),fun x hx=>Nat.le_trans (this.2.key x hx) (by decide)⟩,this.2⟩
end Go.Proofs.YtmbmbcamecfnkaaGreatDoor
namespace Go.Proofs.YtmbmbcamecfnkaaGreatDoor
open Go.RowKit
set_option linter.unusedVariables false
set_option linter.unusedSimpArgs false
set_option maxRecDepth 100000
theorem zs_own (L:List Ze):SubB (.f (.zs L)) (.f (.zs (L.map fun e=>(e.1,e.2.1,e.2.1.length)))):=⟨fun H B v hv=>by
 have hr:=hv.rd
 have hgd:=Qdr hr
 cases hr with
 | @sl _ a m g ao cap hview hg hc hm h0 b o val hb hcell hk hrec =>
  simp only [Lf.view,Option.some.injEq,Prod.mk.injEq] at hview
  obtain ⟨rfl,rfl,rfl⟩:=hview
  have hat:∀ i,(L.map fun e=>(e.1,e.2.1,e.2.1.length)).getD i (false,[],0)=((L.getD i (false,[],0)).1,(L.getD i (false,[],0)).2.1,(L.getD i (false,[],0)).2.1.length):=by
   intro i
   rw [List.getD_eq_getElem?_getD,List.getElem?_map,List.getD_eq_getElem?_getD]
   cases L[i]? <;> rfl
  refine .f (.slf (fun _=>rfl) (f:=.zs (L.map fun e=>(e.1,e.2.1,e.2.1.length))) (k:=2) (n:=L.length) (get:=fun i=>[.v (.bool ((L.map fun e=>(e.1,e.2.1,e.2.1.length)).getD i (false,[],0)).1),.lr ((L.map fun e=>(e.1,e.2.1,e.2.1.length)).getD i (false,[],0)).2.1 ((L.map fun e=>(e.1,e.2.1,e.2.1.length)).getD i (false,[],0)).2.2]) (by simp [Lf.view]) trivial hc hm h0 b o val hb hcell (fun i hi=>rfl) (fun i hi j x hx=>?_))
  rw [hat] at hx
  match j,hx with
  | 0,hx=>exact hrec i hi 0 x hx
  | 1,hx =>
   cases hx
   have h1:=hrec i hi 1 _ rfl
   have h2:(L.getD i (false,[],0)).2.1.length≤(L.getD i (false,[],0)).2.2∧∀ x∈(L.getD i (false,[],0)).2.1,x<4294967296:=Qdr h1 (by simp [Lf.view])
   exact Qis (f:=.lr (L.getD i (false,[],0)).2.1 (L.getD i (false,[],0)).2.2) (f':=.lr (L.getD i (false,[],0)).2.1 (L.getD i (false,[],0)).2.1.length) rfl rfl ⟨Nat.le_refl _,h2.2⟩ (Nat.le_refl _) (fun i hi=>rfl) h1
  | j+2,hx=>cases hx⟩
def zeO (q:Rat):Ze:=(zNeg q.num,digs 1000000000 q.num.natAbs,(digs 1000000000 q.num.natAbs).length)
def lnO:Option St6→Ln × Bool
 | some p=>(⟨p.1.map (·.1),p.1.map fun x=>zeO x.2,zNeg p.2.num,digs 1000000000 p.2.num.natAbs,(digs 1000000000 p.2.num.natAbs).length⟩,true)
 | none=>(⟨[],[],false,[],0⟩,false)
def sOfL (n:Nat):Spec
 | [x]=>match tmOf x with
  | some t=>some (some (FitO n t),.nm (Ln × Bool) (lnO (ofO n t)) fun z=>.tup [.agg [.f (.dt .str z.1.K),.f (.zs z.1.C),.f (.v (.bool z.1.n)),.f (.lr z.1.l z.1.k)],bV z.2])
  | none=>none
 | _=>none
theorem cOfL {E:Env} (hU:Up E) (hT:∀ K w H,E K w H→Tab w) (n:Nat):Contract Tryz.prog E 27 (sOfL n):=by
 refine (cOf6 hU hT n).weaken fun xs p r hs hp=>?_
 unfold sOfL at hs
 split at hs
 · rename_i x
   split at hs
   · rename_i t ht
     cases hs
     have h0:=hp _ rfl
     refine ⟨[x],_,_,.cons (.refl _) .nil,by simp only [sOf6,ht]; rfl,fun q hq=>by cases hq; exact h0,?_⟩
     show Sub (.tup [.agg [.f (.dt .str (keys6 (ofO n t))),.f (.zs (coef6 (ofO n t))),.f (.zn (con6 (ofO n t))),.f (.zd (con6 (ofO n t)) 5000)],bV (ofO n t).isSome]) (.tup [.agg [.f (.dt .str (lnO (ofO n t)).1.K),.f (.zs (lnO (ofO n t)).1.C),.f (.v (.bool (lnO (ofO n t)).1.n)),.f (.lr (lnO (ofO n t)).1.l (lnO (ofO n t)).1.k)],bV (lnO (ofO n t)).2])
     cases ofO n t with
     | none =>
      refine (Qnq (.cons (Qht (.cons (.refl _) (.cons (.refl _) (.cons (zn_b 0) (.cons ?_ .nil))))) (.cons (.refl _) .nil))).sub
      have:=QqV 0 5000
      rwa [show digs 1000000000 (Int.natAbs 0)=[] from Qav _] at this
     | some p =>
      refine (Qnq (.cons (Qht (.cons (.refl _) (.cons ?_ (.cons (zn_b _) (.cons (QqV _ _) .nil))))) (.cons (.refl _) .nil))).sub
      have:=zs_own (coef6 (some p))
      rwa [show (coef6 (some p)).map (fun e=>(e.1,e.2.1,e.2.1.length))=p.1.map (fun x=>zeO x.2) from by rw [coef6,List.map_map]; rfl] at this
   · cases hs
 · cases hs
def Qik:Spec
 | [.f a,.f b]=>match dtOf .str a,dtOf .str b with
  | some l,some m=>some (none,.nm Bool (Qfe l m) bV)
  | _,_=>none
 | _=>none
theorem QqF {E:Env} (hU:Up E):Contract Tryz.prog E 17 Qik:=by
 refine (QqG hU).weaken fun xs p r hs hp=>?_
 unfold Qik at hs
 split at hs
 · rename_i a b
   split at hs
   · rename_i l m h1 h2
     cases hs
     exact ⟨[.f (.dt .str l),.f (.dt .str m)],_,_,.cons (QmS h1).sub (.cons (QmS h2).sub .nil),rfl,fun q hq=>(by cases hq),.refl _⟩
   · cases hs
 · cases hs
end Go.Proofs.YtmbmbcamecfnkaaGreatDoor
namespace Go.Proofs.YtmbmbcamecfnkaaGreatDoor
open Go.RowKit
set_option linter.unusedVariables false
set_option maxRecDepth 100000
theorem zT_num (z:Int):zT (n6 z)=(z:Rat):=by
 show ((zV (zNeg z) (digs 1000000000 z.natAbs):Int):Rat)=_
 rw [QaI]
theorem QqX (z:Int) (l:List Tw):zT (times6 z l)=(z:Rat):=by
 show ((zV (zNeg z) (digs 1000000000 z.natAbs):Int):Rat)=_
 rw [QaI]
theorem QlT (n:Nat) (c:Rat) (s:St6):sumT (n+1) x6 c s=(true,(addL s.1 (keyS x6) c,s.2)):=by
 rw [sumT,if_pos (.inl rfl)]
theorem Qso (n:Nat) (z:Int) (c:Rat) (s:St6):sumT (n+1) (n6 z) c s=(true,(s.1,c * (z:Rat)+s.2)):=by
 rw [sumT,if_neg (by rintro (h | h) <;> cases h),if_neg (by intro h; cases h),if_pos (.inl rfl),if_pos (show Qak (n6 z).neg (n6 z).digits=true from Qa6 z),if_neg (by intro h; cases h),zT_num]
 rfl
theorem Qhw (n:Nat) (z:Int) (c:Rat) (s:St6):sumT (n+2) (times6 z [x6]) c s=(true,(addL s.1 (keyS x6) (c * (z:Rat)),s.2)):=by
 rw [sumT,if_neg (by rintro (h | h) <;> cases h),if_neg (by intro h; cases h),if_pos (.inr rfl),if_pos (show Qak (times6 z [x6]).neg (times6 z [x6]).digits=true from Qa6 z),if_pos (show (times6 z [x6]).kind=6 from rfl),if_pos (show (times6 z [x6]).kids.length=1 from rfl),QqX]
 exact QlT n _ s
theorem Qjo (n:Nat) (l:List Tw) (c:Rat) (s:St6):sumT (n+1) (plus6 l) c s=sumK (fun k s=>sumT n k c s) l s:=by
 rw [sumT,if_neg (by rintro (h | h) <;> cases h),if_pos (show (plus6 l).kind=5 from rfl)]; rfl
theorem Qgc (k:ByteArray) (q:Rat) (h:q≠0):addL [] k q=[(k,q)]:=by rw [addL,if_neg h]
theorem Qnk (k:ByteArray) (v q:Rat) (h:v+q≠0):addL [(k,v)] k q=[(k,v+q)]:=by rw [addL,if_pos rfl,if_neg h]
theorem q3:(1:Rat)+1 * ((2:Int):Rat)=3:=by kernel_rfl
theorem q0:(1:Rat) * ((-3:Int):Rat)+(1 * ((3:Int):Rat)+0)=0:=by kernel_rfl
theorem q1:(1:Rat) * ((1:Int):Rat)+0=1:=by kernel_rfl
theorem q00:(1:Rat) * ((0:Int):Rat)=0:=by kernel_rfl
theorem Qmt {n:Nat} {t:Tw} {s:St6} (h:sumT n t 1 ([],0)=(true,s)):ofO n t=some s:=by
 unfold ofO
 rw [h]; rfl
theorem ofO_a:ofO 40 (plus6 [x6,times6 2 [x6],n6 3,n6 (-3)])=some ([(keyS x6,3)],0):=by
 refine Qmt ?_
 rw [Qjo,sumK]
 simp only [QlT,if_true,sumK,Qhw,Qso]
 rw [Qgc _ _ (by decide),Qnk _ _ _ (by rw [q3]; decide),q3,q0]
theorem ofO_b:ofO 40 (times6 0 [x6])=some ([],0):=by
 refine Qmt ?_
 rw [Qhw,q00,addL,if_pos rfl]
theorem ofO_g:ofO 40 (.mk 8 ⟨#[]⟩ false [] [x6,x6])=none:=by
 unfold ofO
 rw [sumT]
 rfl
theorem ofO_c:ofO 40 (plus6 [x6,n6 1])=some ([(keyS x6,1)],1):=by
 refine Qmt ?_
 rw [Qjo,sumK]
 simp only [QlT,if_true,sumK,Qso]
 rw [Qgc _ _ (by decide),q1]
theorem ofO_d:ofO 40 x6=some ([(keyS x6,1)],0):=by
 refine Qmt ?_
 rw [QlT,Qgc _ _ (by decide)]
theorem QsL {z:Int} (h:ZB z 3):(digs 1000000000 z.natAbs).length≤3:=h.len
theorem zb_c (z:Int) (h:z.natAbs<1000):ZB z 3:=by unfold ZB; exact Nat.lt_trans h (by decide)
theorem Quh:cntT x6=1:=by decide
theorem Qui (z:Int) (h:z.natAbs<1000):cntT (n6 z)≤4:=by
 have:=QsL (zb_c z h)
 rw [Qg8]
 show 1+0 / 8+(digs 1000000000 z.natAbs).length+0≤4
 omega
theorem Qj9 (z:Int) (l:List Tw) (h:z.natAbs<1000):cntT (times6 z l)≤4+QbT l:=by
 have:=QsL (zb_c z h)
 rw [Qg8]
 show 1+0 / 8+(digs 1000000000 z.natAbs).length+QbT l≤_
 omega
theorem QeI:QbN x6:=⟨⟨⟨by decide,by decide⟩,by simp⟩,trivial⟩
theorem Qp3 (z:Int):QbN (n6 z):=⟨⟨⟨by decide,by decide⟩,QaQ z⟩,trivial⟩
theorem QhM (z:Int) {l:List Tw} (h:QeJ l):QbN (times6 z l):=⟨⟨⟨by decide,by decide⟩,QaQ z⟩,h⟩
theorem QjO {l:List Tw} (h:QeJ l):QbN (plus6 l):=⟨⟨⟨by decide,by decide⟩,by simp⟩,h⟩
theorem QmZ (l:List Tw):cntT (plus6 l)=1+QbT l:=by
 rw [Qg8]
 show 1+0 / 8+0+QbT l=_
 omega
theorem fit_a:FitO 40 (plus6 [x6,times6 2 [x6],n6 3,n6 (-3)]):=by
 refine (QcJ (t:=plus6 [x6,times6 2 [x6],n6 3,n6 (-3)]) (by decide) (QjO ⟨QeI,QhM 2 ⟨QeI,trivial⟩,Qp3 3,Qp3 (-3),trivial⟩) ?_).1
 have h1:=Quh
 have h2:=Qj9 2 [x6] (by decide)
 have h3:=Qui 3 (by decide)
 have h4:=Qui (-3) (by decide)
 rw [QmZ]
 simp only [QbT] at h2 ⊢
 omega
theorem fit_b:FitO 40 (times6 0 [x6]):=by
 refine (QcJ (t:=times6 0 [x6]) (by decide) (QhM 0 ⟨QeI,trivial⟩) ?_).1
 have h1:=Quh
 have h2:=Qj9 0 [x6] (by decide)
 simp only [QbT] at h2
 omega
theorem fit_g:FitO 40 (.mk 8 ⟨#[]⟩ false [] [x6,x6]):=(QcJ (t:=.mk 8 ⟨#[]⟩ false [] [x6,x6]) (by decide) ⟨⟨⟨by decide,by decide⟩,by simp⟩,QeI,QeI,trivial⟩ (by decide)).1
theorem fit_c:FitO 40 (plus6 [x6,n6 1]):=by
 refine (QcJ (t:=plus6 [x6,n6 1]) (by decide) (QjO ⟨QeI,Qp3 1,trivial⟩) ?_).1
 have h1:=Quh
 have h3:=Qui 1 (by decide)
 rw [QmZ]
 simp only [QbT]
 omega
theorem fit_d:FitO 40 x6:=(QcJ (by decide) QeI (by decide)).1
theorem half6:Qd8 (zNeg 1) (digs 1000000000 (Int.natAbs 1)) (zNeg 2) (digs 1000000000 (Int.natAbs 2))=Rat.divInt 1 2:=by
 unfold Qd8
 rw [Qa6,Qa6,QaI,QaI]; rfl
def hE6:QE:=((zNeg (Rat.divInt 1 2).num,digs 1000000000 (Rat.divInt 1 2).num.natAbs,3+6),(zNeg ((Rat.divInt 1 2).den:Int),digs 1000000000 ((Rat.divInt 1 2).den:Int).natAbs,3+6))
def lnK (k:ByteArray) (z:Rat):Ln:=⟨[k],[zeO 1],zNeg z.num,digs 1000000000 z.num.natAbs,(digs 1000000000 z.num.natAbs).length⟩
theorem QpF:ofE hE6=Rat.divInt 1 2:=Qaz (Rat.divInt 1 2)
theorem QjA:QeA hE6=true:=Qco (Rat.divInt 1 2)
theorem QmK:(Rat.divInt 1 2).num=1:=by kernel_rfl
theorem Qqb:(Rat.divInt 1 2).den=2:=by kernel_rfl
theorem QlY:SmE hE6 3 3:=⟨by rw [QpF,QmK,Qqb]; exact ⟨zb_c _ (by decide),zb_c _ (by decide)⟩,by decide,by decide⟩
theorem Qf8 {z:Int} (h:z.natAbs<1000):(digs 1000000000 z.natAbs).length≤3:=(zb_c z h).len
theorem Qjq (k:ByteArray) (hk:k.size≤100000) (z:Rat) (hz:z.num.natAbs<1000):SmX (lnK k z) 3:=by
 have h1:(digs 1000000000 (1:Rat).num.natAbs).length≤3:=Qf8 (by decide)
 have h2:=Qf8 hz
 refine ⟨fun c hc=>?_,⟨h2,QaQ _⟩,⟨by simp [lnK],fun s hs=>?_⟩,by show (digs 1000000000 z.num.natAbs).length≤2100; omega,fun c hc=>?_,by simp [lnK]⟩
 · rw [List.mem_singleton.1 hc]; exact ⟨h1,QaQ _⟩
 · rw [List.mem_singleton.1 hs]; exact hk
 · rw [List.mem_singleton.1 hc]; show (digs 1000000000 (1:Rat).num.natAbs).length≤2100; omega
theorem fit_h6 (k:ByteArray) (hk:k.size≤100000):FitS [hE6,hE6] [lnK k 1,lnK k 0] :=
 fits2 QlY QlY (Qjq k hk 1 (by decide)) (Qjq k hk 0 (by decide)) (by decide)
theorem Qjz (k:ByteArray) (z:Rat) (hz:Qak (zNeg z.num) (digs 1000000000 z.num.natAbs)=true):Qcn (lnK k z)=true:=by
 unfold Qcn QaX lnK
 dsimp only
 rw [hz]
 show (true && (true && (true && !([zeO 1].any oddZ))))=true
 kernel_rfl
theorem h6_one:Rat.divInt 1 2 * ((zV (zeO 1).1 (zeO 1).2.1:Int):Rat)=Rat.divInt 1 2:=by kernel_rfl
theorem QsF:Rat.divInt 1 2+Rat.divInt 1 2=1:=by kernel_rfl
theorem h6_sum:Rat.divInt 1 2 * ((zV (zNeg (0:Rat).num) (digs 1000000000 (0:Rat).num.natAbs):Int):Rat)+(Rat.divInt 1 2 * ((zV (zNeg (1:Rat).num) (digs 1000000000 (1:Rat).num.natAbs):Int):Rat)+0)=Rat.divInt 1 2:=by kernel_rfl
theorem Qth (k:ByteArray):sumF [hE6,hE6] [lnK k 1,lnK k 0]=some ([(k,1)],Rat.divInt 1 2):=by
 rw [Qck ⟨rfl,fun j hj=>match j,hj with
  | 0,_=>⟨QjA,Qjz k 1 (Qa6 1)⟩
  | 1,_=>⟨QjA,Qjz k 0 (Qa6 0)⟩
  | j+2,hj=>by simp at hj; omega⟩]
 have e1:Qa2 [hE6,hE6] [lnK k 1,lnK k 0] 2=[(k,1)]:=by
  show addL (addL [] k (ofE hE6 * ((zV (zeO 1).1 (zeO 1).2.1:Int):Rat))) k (ofE hE6 * ((zV (zeO 1).1 (zeO 1).2.1:Int):Rat))=_
  rw [QpF,h6_one,Qgc _ _ (fun h=>by have:=congrArg Rat.num h; rw [QmK] at this; cases this),Qnk _ _ _ (by rw [QsF]; decide),QsF]
 have e2:QaD [hE6,hE6] [lnK k 1,lnK k 0] 2=Rat.divInt 1 2:=by
  show ofE hE6 * ((zV (zNeg (0:Rat).num) (digs 1000000000 (0:Rat).num.natAbs):Int):Rat)+(ofE hE6 * ((zV (zNeg (1:Rat).num) (digs 1000000000 (1:Rat).num.natAbs):Int):Rat)+0)=_
  rw [QpF,h6_sum]
 show some (Qa2 [hE6,hE6] [lnK k 1,lnK k 0] 2,QaD [hE6,hE6] [lnK k 1,lnK k 0] 2)=_
 rw [e1,e2]
theorem QqZ:Qhh 1=[49]:=by
 show QbQ 1=[49]
 rw [QbK rfl]
 exact Lib.decDigits_one (by decide)
theorem Qtf:Qhh (Rat.divInt 1 2)=[49,47,50]:=by
 unfold Qhh
 rw [Qqb,QmK,if_neg (by decide),QbK rfl,QbK rfl,show Int.natAbs 1=1 from rfl,show Int.natAbs ((2:Nat):Int)=2 from rfl,Lib.decDigits_one (by decide),Lib.decDigits_one (by decide)]
 rfl
def zsM (L:List Ze):List Ze:=zsOf (L.map fun e=>((e.1,e.2.1),e.2.2,e.2.2+1))
theorem few_a:Qer (zsM [zeO 3]):=by
 unfold zsM
 rw [Qh3]
 refine ⟨by decide,fun e he=>?_⟩
 rw [List.mem_singleton.1 he]
 have:(digs 1000000000 (3:Rat).num.natAbs).length≤3:=Qf8 (by decide)
 show (digs 1000000000 (3:Rat).num.natAbs).length≤_
 omega
theorem few_b:Qer (zsM []):=⟨by decide,fun e he=>nomatch he⟩
theorem few_c:Qer (zsOf [((zNeg 3,digs 1000000000 (Int.natAbs 3)),3,3)]):=⟨by decide,fun e he=>by rw [List.mem_singleton.1 he]; decide⟩
theorem few_k (z:Int) (h:z.natAbs<1000):(digs 1000000000 z.natAbs).length≤100000:=by have:=Qf8 h; omega
theorem same_a (k:ByteArray):Qcm [k] (zsM [zeO 3]) (zNeg (0:Rat).num) (digs 1000000000 (0:Rat).num.natAbs) [k] (zsOf [((zNeg 3,digs 1000000000 (Int.natAbs 3)),3,3)]) false []=true:=by
 unfold Qcm
 rw [show Qfe [k] [k]=true from decide_eq_true rfl]
 kernel_rfl
theorem same_b:Qcm [] (zsM []) (zNeg (0:Rat).num) (digs 1000000000 (0:Rat).num.natAbs) [] (zsOf []) false []=true:=by kernel_rfl
theorem Qtl:(keyS x6).size≤100000:=by
 have:(keyS x6).size=9:=by kernel_rfl
 omega
end Go.Proofs.YtmbmbcamecfnkaaGreatDoor
