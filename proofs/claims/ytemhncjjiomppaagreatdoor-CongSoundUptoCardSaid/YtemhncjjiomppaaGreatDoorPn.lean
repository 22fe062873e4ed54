/- The contracts of the layer num. -/
import Derived.Test.YtemhncjjiomppaaGreatDoorPl
namespace Go.Proofs.YtemhncjjiomppaaGreatDoor
open Go.RowKit
set_option linter.unusedVariables false
set_option maxRecDepth 100000
def Qul:Spec
 | [.f x,.f y]=>match limL x,limL y with
  | some (l,k),some (m,j)=>some (some (k≤100000000∧j≤100000000),.one (.f (.v (.int .i64 (cmpI (vB l:Nat) (vB m:Nat))))))
  | _,_=>none
 | _=>none
theorem QfH:∀ l:List (List Nat × Nat),l.length≤Qbz l
 | []=>Nat.le_refl _
 | x::l=>by have:=QfH l; simp only [List.length_cons,Qbz]; omega
section
variable {E : Env}
theorem cTrimN:Contract Tryz.prog E 217 Qpo:=by
 intro xs p r hs hp w H vs hf hE hvs
 unfold Qpo at hs
 split at hs
 · rename_i x
   split at hs
   · rename_i l k hx
     cases hs
     have hk:=hp _ rfl
     obtain ⟨v,rfl,hv⟩:=Qin hvs
     obtain ⟨h1,h2,h3⟩:=QdQ hx hv.rd hf
     refine (Qlm v l w h1 (by omega) h3).mono ?_
     rintro e w' ⟨u,rfl,ho,hbl⟩
     exact ⟨_,u,rfl,Qgl hf hbl,Qmz ho (QrB h3 h2)⟩
   · cases hs
 · cases hs
theorem cAddN:Contract Tryz.prog E 203 QrT:=by
 intro xs p r hs hp w H vs hf hE hvs
 unfold QrT at hs
 split at hs
 · rename_i R
   split at hs
   · rename_i l hl
     cases hs
     have hk:=hp _ rfl
     obtain ⟨v,rfl,hv⟩:=Qin hvs
     obtain ⟨h1,h2,h3⟩:=Qmk hl hv.rd hf
     have hw2:=QfG h2
     have hll:=QfH l
     refine (Qoc v _ w h1 (by omega) (fun a ha x hx=>?_) (by rw [List.length_map]; omega)).mono ?_
     · obtain ⟨y,hy,rfl⟩:=List.mem_map.1 ha
       exact h3 y hy x hx
     · rintro e w' ⟨u,rfl,ho,hbl⟩
       refine ⟨_,u,rfl,Qgl hf hbl,?_⟩
       unfold sumV at ho
       rw [Qo8] at ho
       have:=Qo7 l 0 0 (by unfold ZB; decide) fun x hx=>QrB (h3 x hx) (h2 x hx)
       rw [Nat.zero_add] at this
       exact Qmz ho this
   · cases hs
 · cases hs
theorem cMulN:Contract Tryz.prog E 206 Quf:=by
 intro xs p r hs hp w H vs hf hE hvs
 unfold Quf at hs
 split at hs
 · rename_i R
   split at hs
   · rename_i l hl
     cases hs
     have hk:=hp _ rfl
     obtain ⟨v,rfl,hv⟩:=Qin hvs
     obtain ⟨h1,h2,h3⟩:=Qmk hl hv.rd hf
     have hw2:=QfG h2
     have hll:=QfH l
     refine (Qoa v _ w h1 (by omega) (fun a ha x hx=>?_) (by rw [List.length_map]; omega)).mono ?_
     · obtain ⟨y,hy,rfl⟩:=List.mem_map.1 ha
       exact h3 y hy x hx
     · rintro e w' ⟨u,rfl,ho,hbl⟩
       refine ⟨_,u,rfl,Qgl hf hbl,?_⟩
       unfold prodV at ho
       rw [Qmw] at ho
       have:=Qmv l 1 1 (by unfold ZB; decide) fun x hx=>QrB (h3 x hx) (h2 x hx)
       rw [Nat.add_comm] at this
       exact Qmz ho this
   · cases hs
 · cases hs
theorem cCmpN:Contract Tryz.prog E 208 Qul:=by
 intro xs p r hs hp w H vs hf hE hvs
 unfold Qul at hs
 split at hs
 · rename_i x y
   split at hs
   · rename_i l k m j hx hy
     cases hs
     obtain ⟨hk,hj⟩:=hp _ rfl
     obtain ⟨u,v,rfl,hu,hv⟩:=QhY hvs
     obtain ⟨h1,h2,h3⟩:=QdQ hx hu.rd hf
     obtain ⟨h4,h5,h6⟩:=QdQ hy hv.rd hf
     refine (Qob u v l m w h1 h4 (by omega) h3 (by omega) h6).mono ?_
     rintro e w' ⟨rfl,hbl⟩
     exact ⟨_,_,rfl,Qgl hf hbl,.f (.v _ rfl)⟩
   · cases hs
 · cases hs
theorem cSubN:Contract Tryz.prog E 204 QrN:=by
 intro xs p r hs hp w H vs hf hE hvs
 unfold QrN at hs
 split at hs
 · rename_i x y
   split at hs
   · rename_i l k m j hx hy
     cases hs
     obtain ⟨hk,hj⟩:=hp _ rfl
     obtain ⟨u,v,rfl,hu,hv⟩:=QhY hvs
     obtain ⟨h1,h2,h3⟩:=QdQ hx hu.rd hf
     obtain ⟨h4,h5,h6⟩:=QdQ hy hv.rd hf
     refine (Qn9 u v l m w h1 h4 (by omega) h3 (by omega) h6).mono ?_
     rintro e w' ⟨u',rfl,ho,hbl⟩
     refine ⟨_,_,rfl,Qgl hf hbl,.tup rfl fun i v x hv hx=>?_⟩
     match i with
     | 0=>simp at hv hx; subst hv hx; exact Qmz ho ((QrB h3 h2).leN (Nat.sub_le _ _))
     | 1=>simp at hv hx; subst hv hx; exact .f (.v _ rfl)
     | i+2=>simp at hv
   · cases hs
 · cases hs
end
end Go.Proofs.YtemhncjjiomppaaGreatDoor
namespace Go.Proofs.YtemhncjjiomppaaGreatDoor
open Go.RowKit
set_option linter.unusedVariables false
set_option maxRecDepth 100000
def nP (z:Int) (k:Nat):PV:=.agg [.f (.zd z k),.f (.zn z)]
def Qpm:Spec
 | [.agg [.f x]]=>match limL x with
  | some (l,k)=>some (none,.one (.f (.v (.bool (((l.length:Nat):Int)==0)))))
  | none=>none
 | _=>none
def Qk3:Spec
 | [.f x,.f (.v (.bool n))]=>match limL x with
  | some (l,k)=>some (some (k≤100000000),.nm Int (zV n l) fun z=>nP z (k+1))
  | none=>none
 | _=>none
def Qpv:Spec
 | [x]=>match pvR x with
  | some ((n,l),k,j)=>some (some (k≤100000000),.nm Int (zV n l) fun z=>nP z (k+1))
  | none=>none
 | _=>none
theorem QtS {a b:Int} {k:Nat} (h:a.natAbs=b.natAbs):Sub (.f (.zd a k)) (.f (.zd b k)):=⟨fun H v hv=>by
 have hr:=hv.rd
 have hg:ZB a k:=hr.good'
 refine .f ?_
 cases hr with
 | sl hv2 hgd hc hm h0 bb o val hb hcell hkk hrec=>exact .sl (f:=.zd b k) (by rw [← hv2]; simp only [Lf.view,h]) (show ZB b k by unfold ZB at hg ⊢; rw [← h]; exact hg) hc hm h0 bb o val hb hcell hkk hrec⟩
theorem Qta {a z:Int} {b:Bool} {k:Nat} (hz:a.natAbs=z.natAbs) (hb:b=zNeg z):Sub (.agg [.f (.zd a k),.f (.v (.bool b))]) (.agg [.f (.zd z k),.f (.zn z)]):=by
 subst hb
 refine ⟨fun H v hv=>?_⟩
 obtain ⟨vs,rfl,h1⟩:=PRs.of_agg hv
 match vs,h1.1 with
 | [p,q],_ =>
  have a1:=(h1.2 1 _ _ rfl rfl).val
  subst a1
  exact (PRs.cons ((QtS hz).out _ _ (h1.2 0 _ _ rfl rfl)) (.cons (.f (.zn _)) .nil)).agg
theorem Qsh (n:Nat):(((digs 1000000000 n).length:Int)==0)=decide (n=0):=by
 rw [Bool.eq_iff_iff,beq_iff_eq,decide_eq_true_eq]
 constructor
 · intro h
   have h1:=QaG 1000000000 (by omega) n
   rw [List.length_eq_zero_iff.1 (show (digs 1000000000 n).length=0 by omega)] at h1
   exact h1.symm
 · intro h; subst h; rw [QaL]; rfl
def Qpu:Spec
 | [.agg [.f (.zd z k),.f (.zn z')]]=>some (some (z=z'),.one (zP z k))
 | _=>none
def QpL:Spec
 | [.agg [.f (.zd z k)],.agg [.f (.zd z' k')]]=>some (some (k≤10000000∧k'≤10000000),.one (.f (.v (.int .i64 (cmpI (z.natAbs:Nat) (z'.natAbs:Nat))))))
 | _=>none
def Qd9 (Q:Int→Int→Prop):Spec
 | [.agg [.f (.zd a k),.f (.zn z)],.agg [.f (.zd a' k'),.f (.zn z')]]=>some (some (a=z∧a'=z'∧k+k'≤4500000∧Q z z'),.nm Int (z+z') fun y=>nP y (k+k'+1))
 | _=>none
theorem Qvr {E:Env}:Contract Tryz.prog E 174 (Qd9 (fun _ _=>False)):=by
 intro xs p r hs hp
 unfold Qd9 at hs
 split at hs
 · cases hs
   exact (hp _ rfl).2.2.2.elim
 · cases hs
theorem Qjh (n:Nat):vB (digs 1000000000 n)=n:=QaG 1000000000 (by omega) n
theorem Qi9 (neg:Bool) (n:Nat):zV neg (digs 1000000000 n)=zOf neg n:=by unfold zV; rw [QaG _ (by omega)]
theorem Qc6 {z:Int} {k k':Nat} (h:ZB z k'):Sub (nP z k) (nP z k'):=by
 refine ⟨fun H v hv=>?_⟩
 obtain ⟨vs,rfl,h1⟩:=PRs.of_agg hv
 match vs,h1.1 with
 | [p,q],_=>exact (PRs.cons ((Qo9 h).out _ _ (h1.2 0 _ _ rfl rfl)) (.cons (h1.2 1 _ _ rfl rfl) .nil)).agg
section
variable {E : Env} (hU : Up E)
include hU
theorem cZeroN:Contract Tryz.prog E 218 Qpm:=by
 refine Qak [] Tryz.ntmps218 Tryz.func218 (by kernel_rfl) (by kernel_rfl) hU trivial ?_
 intro xs p r hs hp
 unfold Qpm at hs
 split at hs
 · rename_i x
   split at hs
   · rename_i l k hx
     cases hs
     refine ⟨[.agg [.f (.lr l k)]],[],.cons ⟨fun H v hv=>by
      obtain ⟨vs,rfl,h1⟩:=PRs.of_agg hv
      match vs,h1.1 with
      | [p],_=>exact (PRs.cons ((QmV hx).out _ _ (h1.2 0 _ _ rfl rfl)) .nil).agg⟩ .nil,rfl,fun hgx hg=>?_⟩
     refine Qab (p:=true=true∧rfS (PV.f (Lf.v (Value.bool ((↑l.length:Int)==(0:Int)))))) (by kernel_rfl) ?_
     refine ⟨rfl,?m0⟩
     case m0=>exact .refl _
   · cases hs
 · cases hs
theorem Qra:Contract Tryz.prog E 202 Qk3:=by
 refine Qak [(217,Qpo),(218,Qpm)] Tryz.ntmps202 Tryz.func202 (by kernel_rfl) (by kernel_rfl) hU ⟨cTrimN,cZeroN hU,trivial⟩ ?_
 intro xs p r hs hp
 unfold Qk3 at hs
 split at hs
 · rename_i x n
   split at hs
   · rename_i l k hx
     cases hs
     have hk:=hp _ rfl
     refine ⟨[.f (.lr l k),.f (.v (.bool n))],[],.cons (QmV hx) (.cons (.refl _) .nil),rfl,fun hgx hg=>?_⟩
     refine Qab (p:=k≤100000000∧∀ (z1:Nat),z1=vB l→ifB n (true=true∧Sub (PV.agg [PV.f (Lf.zd (↑z1:Int) (k+1)),PV.f (Lf.v (Value.bool !(↑(digs 1000000000 (↑z1:Int).natAbs).length:Int)==(0:Int)))]) (PV.agg [PV.f (Lf.zd (zV n l) (k+1)),PV.f (Lf.zn (zV n l))])) (true=true∧Sub (PV.agg [PV.f (Lf.zd (↑z1:Int) (k+1)),PV.f (Lf.v (Value.bool false))]) (PV.agg [PV.f (Lf.zd (zV n l) (k+1)),PV.f (Lf.zn (zV n l))]))) (by kernel_rfl) ?_
     refine ⟨?s0,fun z1=>fun hz1=>Qaa.2 ⟨fun hb0=>⟨rfl,?m0⟩,fun hb0=>⟨rfl,?m1⟩⟩⟩
     case s0=>exact hk
     case m0 =>
      subst hb0
      rw [show zV true l=zOf true (vB l) from rfl,← hz1,QhP]
      refine Qta (by rw [Int.natAbs_neg]) ?_
      rw [Int.natAbs_natCast,Qsh]
      unfold zNeg
      rw [Bool.eq_iff_iff,Bool.not_eq_true',decide_eq_false_iff_not,decide_eq_true_eq]
      omega
     case m1 =>
      subst hb0
      rw [show zV false l=zOf false (vB l) from rfl,← hz1,Qfz]
      exact Qta rfl (by unfold zNeg; rw [decide_eq_false (by omega)])
   · cases hs
 · cases hs
theorem Qvu:Contract Tryz.prog E 183 Qpv:=by
 refine Qak [(202,Qk3)] Tryz.ntmps183 Tryz.func183 (by kernel_rfl) (by kernel_rfl) hU ⟨Qra hU,trivial⟩ ?_
 intro xs p r hs hp
 unfold Qpv at hs
 split at hs
 · rename_i x
   split at hs
   · rename_i n l k j hx
     cases hs
     have hk:=hp _ rfl
     refine ⟨[rawP n l k],[],.cons (Qh2 hx) .nil,rfl,fun hgx hg=>?_⟩
     refine Qab (p:=k≤100000000∧∀ (z1:Int),z1=zV n l→true=true∧Sub (PV.agg [PV.f (Lf.zd z1 (k+1)),PV.f (Lf.zn z1)]) (PV.agg [PV.f (Lf.zd (zV n l) (k+1)),PV.f (Lf.zn (zV n l))])) (by kernel_rfl) ?_
     refine ⟨?s0,fun z1=>fun hz1=>⟨rfl,?m0⟩⟩
     case s0=>exact hk
     case m0=>subst hz1; exact .refl _
   · cases hs
 · cases hs
theorem Qvt:Contract Tryz.prog E 179 Qpu:=by
 refine Qak [] Tryz.ntmps179 Tryz.func179 (by kernel_rfl) (by kernel_rfl) hU trivial ?_
 intro xs p r hs hp
 unfold Qpu at hs
 split at hs
 · rename_i z k z'
   cases hs
   obtain rfl:=hp _ rfl
   refine ⟨[nP z k],[],.cons (.refl _) .nil,rfl,fun hgx hg=>?_⟩
   refine Qab (p:=true=true∧Sub (PV.agg [PV.f (Lf.v (Value.bool (zNeg z))),PV.f (Lf.zd z k)]) (PV.agg [PV.f (Lf.zn z),PV.f (Lf.zd z k)])) (by kernel_rfl) ?_
   refine ⟨rfl,?m0⟩
   case m0 =>
    refine ⟨fun H v hv=>?_⟩
    obtain ⟨vs,rfl,h1⟩:=PRs.of_agg hv
    match vs,h1.1 with
    | [p,q],_ =>
     have a0:=(h1.2 0 _ _ rfl rfl).val
     subst a0
     exact (PRs.cons (.f (.zn _)) (.cons (h1.2 1 _ _ rfl rfl) .nil)).agg
 · cases hs
theorem QvM:Contract Tryz.prog E 184 QpL:=by
 refine Qak [(208,Qul)] Tryz.ntmps184 Tryz.func184 (by kernel_rfl) (by kernel_rfl) hU ⟨cCmpN,trivial⟩ ?_
 intro xs p r hs hp
 unfold QpL at hs
 split at hs
 · rename_i z k z' k'
   cases hs
   obtain ⟨h1,h2⟩:=hp _ rfl
   refine ⟨[.agg [.f (.zd z k)],.agg [.f (.zd z' k')]],[],.cons (.refl _) (.cons (.refl _) .nil),rfl,fun hgx hg=>?_⟩
   refine Qab (p:=(k≤100000000∧k'≤100000000)∧true=true∧Sub (PV.f (Lf.v (Value.int IntKind.i64 (cmpI (↑(vB (digs 1000000000 z.natAbs)):Int) (↑(vB (digs 1000000000 z'.natAbs)):Int))))) (PV.f (Lf.v (Value.int IntKind.i64 (cmpI (↑z.natAbs:Int) (↑z'.natAbs:Int)))))) (by kernel_rfl) ?_
   refine ⟨?s0,⟨rfl,?m0⟩⟩
   case s0=>exact ⟨by omega,by omega⟩
   case m0=>rw [Qjh,Qjh]; exact .refl _
 · cases hs
theorem Qvs:Contract Tryz.prog E 174 (Qd9 (fun z z'=>zNeg z=zNeg z'∨z'.natAbs≤z.natAbs)):=by
 refine Qak [(203,QrT),(202,Qk3),(184,QpL),(204,QrN),(174,Qd9 (fun _ _=>False))] Tryz.ntmps174 Tryz.func174 (by kernel_rfl) (by kernel_rfl) hU ⟨cAddN,Qra hU,QvM hU,cSubN,Qvr,trivial⟩ ?_
 intro xs p r hs hp
 unfold Qd9 at hs
 split at hs
 · rename_i a k z a' k' z'
   cases hs
   obtain ⟨rfl,rfl,hk,hq⟩:=hp _ rfl
   refine ⟨[nP a k,nP a' k'],[],.cons (.refl _) (.cons (.refl _) .nil),rfl,fun hgx hg=>?_⟩
   refine Qab (p:=ifB (zNeg a==zNeg a') (Qbz [(digs 1000000000 a.natAbs,k),(digs 1000000000 a'.natAbs,k')]≤10000000∧∀ (z1:Nat),z1=Qjm [(digs 1000000000 a.natAbs,k),(digs 1000000000 a'.natAbs,k')] 0→Qbz [(digs 1000000000 a.natAbs,k),(digs 1000000000 a'.natAbs,k')]≤100000000∧∀ (z2:Int),z2=zV (zNeg a) (digs 1000000000 (↑z1:Int).natAbs)→true=true∧Sub (PV.agg [PV.f (Lf.zd z2 (Qbz [(digs 1000000000 a.natAbs,k),(digs 1000000000 a'.natAbs,k')]+1)),PV.f (Lf.zn z2)]) (PV.agg [PV.f (Lf.zd (a+a') (k+k'+1)),PV.f (Lf.zn (a+a'))])) ((k≤10000000∧k'≤10000000)∧ifB (decide (cmpI (↑a.natAbs:Int) (↑a'.natAbs:Int)<(0:Int))) ((a'=a'∧a=a∧k'+k≤4500000∧False)∧∀ (z1:Int),z1=a'+a→true=true∧Sub (PV.agg [PV.f (Lf.zd z1 (k'+k+1)),PV.f (Lf.zn z1)]) (PV.agg [PV.f (Lf.zd (a+a') (k+k'+1)),PV.f (Lf.zn (a+a'))])) ((k≤10000000∧k'≤10000000)∧∀ (z1:Nat),z1=vB (digs 1000000000 a.natAbs) - vB (digs 1000000000 a'.natAbs)→k+1≤100000000∧∀ (z2:Int),z2=zV (zNeg a) (digs 1000000000 (↑z1:Int).natAbs)→true=true∧Sub (PV.agg [PV.f (Lf.zd z2 (k+1+1)),PV.f (Lf.zn z2)]) (PV.agg [PV.f (Lf.zd (a+a') (k+k'+1)),PV.f (Lf.zn (a+a'))])))) (by kernel_rfl) ?_
   refine Qaa.2 ⟨fun hb0=>⟨?s0,fun z1=>fun hz1=>⟨?s1,fun z2=>fun hz2=>⟨rfl,?m0⟩⟩⟩,fun hb0=>⟨?s2,Qaa.2 ⟨fun hb1=>⟨?s3,fun z1=>fun hz1=>⟨rfl,?m1⟩⟩,fun hb1=>⟨?s4,fun z1=>fun hz1=>⟨?s5,fun z2=>fun hz2=>⟨rfl,?m2⟩⟩⟩⟩⟩⟩
   all_goals have hA:ZB a k:=hgx.1.1.1
   all_goals have hB:ZB a' k':=hgx.2.1.1.1
   all_goals (try simp only [Qbz,Qjm,Qjh,Nat.zero_add] at *)
   all_goals first | omega | exact ⟨by omega,by omega⟩ | skip
   case m0 =>
    have h1:zNeg a=zNeg a':=by simpa using hb0
    have:z2=a+a':=by
     rw [hz2,Int.natAbs_natCast,Qi9,hz1,QoT,Qdj,h1,Qdj]
    subst this
    exact Qc6 (hA.add hB)
   case s3 =>
    rcases hq with h | h
    · rw [h] at hb0; simp at hb0
    · exact absurd (of_decide_eq_true hb1) (fun hc=>by
       rcases Int.lt_trichotomy (a.natAbs:Int) (a'.natAbs:Int) with h2 | h2 | h2
       · omega
       · rw [QlJ h2] at hc; exact absurd hc (by decide)
       · rw [Qdg h2] at hc; exact absurd hc (by decide))
   case m1 =>
    have:z1=a+a':=by omega
    subst this
    exact Qc6 (hA.add hB)
   case m2 =>
    have h1:zNeg a≠zNeg a':=by simpa using hb0
    have hl:a'.natAbs≤a.natAbs:=by
     rcases hq with h | h
     · exact absurd h h1
     · exact h
    have:z2=a+a':=by
     rw [hz2,Int.natAbs_natCast,Qi9,hz1,Qhf h1 hl]
    subst this
    exact Qc6 (hA.add hB)
 · cases hs
theorem cPlusN:Contract Tryz.prog E 174 (Qd9 (fun _ _=>True)):=by
 refine Qak [(203,QrT),(202,Qk3),(184,QpL),(204,QrN),(174,Qd9 (fun z z'=>zNeg z=zNeg z'∨z'.natAbs≤z.natAbs))] Tryz.ntmps174 Tryz.func174 (by kernel_rfl) (by kernel_rfl) hU ⟨cAddN,Qra hU,QvM hU,cSubN,Qvs hU,trivial⟩ ?_
 intro xs p r hs hp
 unfold Qd9 at hs
 split at hs
 · rename_i a k z a' k' z'
   cases hs
   obtain ⟨rfl,rfl,hk,hq⟩:=hp _ rfl
   refine ⟨[nP a k,nP a' k'],[],.cons (.refl _) (.cons (.refl _) .nil),rfl,fun hgx hg=>?_⟩
   refine Qab (p:=ifB (zNeg a==zNeg a') (Qbz [(digs 1000000000 a.natAbs,k),(digs 1000000000 a'.natAbs,k')]≤10000000∧∀ (z1:Nat),z1=Qjm [(digs 1000000000 a.natAbs,k),(digs 1000000000 a'.natAbs,k')] 0→Qbz [(digs 1000000000 a.natAbs,k),(digs 1000000000 a'.natAbs,k')]≤100000000∧∀ (z2:Int),z2=zV (zNeg a) (digs 1000000000 (↑z1:Int).natAbs)→true=true∧Sub (PV.agg [PV.f (Lf.zd z2 (Qbz [(digs 1000000000 a.natAbs,k),(digs 1000000000 a'.natAbs,k')]+1)),PV.f (Lf.zn z2)]) (PV.agg [PV.f (Lf.zd (a+a') (k+k'+1)),PV.f (Lf.zn (a+a'))])) ((k≤10000000∧k'≤10000000)∧ifB (decide (cmpI (↑a.natAbs:Int) (↑a'.natAbs:Int)<(0:Int))) ((a'=a'∧a=a∧k'+k≤4500000∧(zNeg a'=zNeg a∨a.natAbs≤a'.natAbs))∧∀ (z1:Int),z1=a'+a→true=true∧Sub (PV.agg [PV.f (Lf.zd z1 (k'+k+1)),PV.f (Lf.zn z1)]) (PV.agg [PV.f (Lf.zd (a+a') (k+k'+1)),PV.f (Lf.zn (a+a'))])) ((k≤10000000∧k'≤10000000)∧∀ (z1:Nat),z1=vB (digs 1000000000 a.natAbs) - vB (digs 1000000000 a'.natAbs)→k+1≤100000000∧∀ (z2:Int),z2=zV (zNeg a) (digs 1000000000 (↑z1:Int).natAbs)→true=true∧Sub (PV.agg [PV.f (Lf.zd z2 (k+1+1)),PV.f (Lf.zn z2)]) (PV.agg [PV.f (Lf.zd (a+a') (k+k'+1)),PV.f (Lf.zn (a+a'))])))) (by kernel_rfl) ?_
   refine Qaa.2 ⟨fun hb0=>⟨?s0,fun z1=>fun hz1=>⟨?s1,fun z2=>fun hz2=>⟨rfl,?m0⟩⟩⟩,fun hb0=>⟨?s2,Qaa.2 ⟨fun hb1=>⟨?s3,fun z1=>fun hz1=>⟨rfl,?m1⟩⟩,fun hb1=>⟨?s4,fun z1=>fun hz1=>⟨?s5,fun z2=>fun hz2=>⟨rfl,?m2⟩⟩⟩⟩⟩⟩
   all_goals have hA:ZB a k:=hgx.1.1.1
   all_goals have hB:ZB a' k':=hgx.2.1.1.1
   all_goals (try simp only [Qbz,Qjm,Qjh,Nat.zero_add] at *)
   all_goals first | omega | exact ⟨by omega,by omega⟩ | skip
   case m0 =>
    have h1:zNeg a=zNeg a':=by simpa using hb0
    have:z2=a+a':=by
     rw [hz2,Int.natAbs_natCast,Qi9,hz1,QoT,Qdj,h1,Qdj]
    subst this
    exact Qc6 (hA.add hB)
   case s3 =>
    refine ⟨trivial,trivial,by omega,.inr ?_⟩
    rcases Int.lt_trichotomy (a.natAbs:Int) (a'.natAbs:Int) with h2 | h2 | h2
    · omega
    · omega
    · have hc:=of_decide_eq_true hb1
      rw [Qdg h2] at hc; exact absurd hc (by decide)
   case m1 =>
    have:z1=a+a':=by omega
    subst this
    exact Qc6 (hA.add hB)
   case m2 =>
    have h1:zNeg a≠zNeg a':=by simpa using hb0
    have hl:a'.natAbs≤a.natAbs:=by
     rcases Int.lt_trichotomy (a.natAbs:Int) (a'.natAbs:Int) with h2 | h2 | h2
     · have hc:=of_decide_eq_false hb1
       rw [Qdf h2] at hc; exact absurd (by decide) hc
     · omega
     · omega
    have:z2=a+a':=by
     rw [hz2,Int.natAbs_natCast,Qi9,hz1,Qhf h1 hl]
    subst this
    exact Qc6 (hA.add hB)
 · cases hs
end
end Go.Proofs.YtemhncjjiomppaaGreatDoor
namespace Go.Proofs.YtemhncjjiomppaaGreatDoor
open Go.RowKit
set_option linter.unusedVariables false
set_option maxRecDepth 100000
def Qme:Spec
 | [.f (.v (.int .u64 N)),.f (.v (.bool b))]=>some (some (0≤N∧N<18446744073709551616),.nm Int (zOf b N.toNat) fun z=>nP z 3)
 | _=>none
theorem wU64 (n:Int) (h0:0≤n) (h1:n<18446744073709551616):IntKind.u64.wrap n=n:=by simp [IntKind.wrap,IntKind.bits,IntKind.signed]; omega
section
variable {E : Env} (hU : Up E)
include hU
theorem Qto:Contract Tryz.prog E 177 Qme:=by
 refine Qak [(202,QuN Qk3)] Tryz.ntmps177 Tryz.func177 (by kernel_rfl) (by kernel_rfl) hU ⟨(Qra hU).lent,trivial⟩ ?_
 intro xs p r hs hp
 unfold Qme at hs
 split at hs
 · rename_i N b
   cases hs
   obtain ⟨h0,h1⟩:=hp _ rfl
   refine ⟨[.f (.v (.int .u64 N)),.f (.v (.bool b))],[(2,.s ⟨List Nat × Nat,fun x=>⟨[(0,.f (.v (.int .u64 (x.2:Nat)))),(1,.f (.v (.bool b))),(4,.bp 0 0),(5,.tl 1 (.is .u32 (iN x.1)))],[.cells [.f (.v (.slice none 0 0)),.f (.v (.bool false))],.tail 57 1]⟩,
    fun x=>N.toNat=val 1000000000 x.1+1000000000 ^ x.1.length * x.2∧(∀ y∈x.1,y<1000000000)∧x.1.length≤64∧x.2<18446744073709551616∧(0<x.2→1000000000 ^ x.1.length≤N.toNat),fun x=>x.2⟩)],.cons (.refl _) (.cons (.refl _) .nil),rfl,fun hgx hg=>?_⟩
   refine Qab (p:=∃ (x1:List Nat × Nat),(((rfB (nlP)∧rfB (PV.f (Lf.v (Value.bool false)))∧True)∧True)∧SubB (PV.f (Lf.v (Value.int IntKind.u64 N))) (PV.f (Lf.v (Value.int IntKind.u64 (↑x1.snd:Int))))∧rfB (PV.f (Lf.v (Value.bool b)))∧rfB (PV.bp 0 0)∧QcK (PV.tl 1 (Lf.is IntKind.u32 (iN x1.fst)))∧True)∧(N.toNat=val 1000000000 x1.fst+1000000000 ^ x1.fst.length * x1.snd∧(∀ (y:Nat),y∈x1.fst→y<1000000000)∧x1.fst.length≤64∧x1.snd<18446744073709551616∧(0<x1.snd→1000000000 ^ x1.fst.length≤N.toNat))∧True∧∀ (z2:List Nat × Nat),N.toNat=val 1000000000 z2.fst+1000000000 ^ z2.fst.length * z2.snd∧(∀ (y:Nat),y∈z2.fst→y<1000000000)∧z2.fst.length≤64∧z2.snd<18446744073709551616∧(0<z2.snd→1000000000 ^ z2.fst.length≤N.toNat)→True→ifB (decide ((↑z2.snd:Int) > (0:Int))) (((iN z2.fst).length+1≤9223372036854775807∧((iN z2.fst).length+1) * 4≤140737488355328)∧∃ (x3:List Nat × Nat),(((rfB (nlP)∧rfB (PV.f (Lf.v (Value.bool false)))∧True)∧True)∧SubB (PV.f (Lf.v (Value.int IntKind.u64 (IntKind.u64.wrap ((↑z2.snd:Int).tdiv (1000000000:Int)))))) (PV.f (Lf.v (Value.int IntKind.u64 (↑x3.snd:Int))))∧rfB (PV.f (Lf.v (Value.bool b)))∧rfB (PV.bp 0 0)∧SubB (PV.tl 1 (Lf.is IntKind.u32 (iN z2.fst++[IntKind.u32.wrap ((↑z2.snd:Int).tmod (1000000000:Int))]))) (PV.tl 1 (Lf.is IntKind.u32 (iN x3.fst)))∧True)∧(N.toNat=val 1000000000 x3.fst+1000000000 ^ x3.fst.length * x3.snd∧(∀ (y:Nat),y∈x3.fst→y<1000000000)∧x3.fst.length≤64∧x3.snd<18446744073709551616∧(0<x3.snd→1000000000 ^ x3.fst.length≤N.toNat))∧True∧x3.snd.succ.le z2.snd) ((((∀ (x:Int),x∈iN z2.fst→(0:Int)≤x∧x<(4294967296:Int))∧True∧True)∧(iN z2.fst).length≤100000000)∧∀ (z3:Int),z3=zV b (List.map Int.toNat (iN z2.fst))→true=true∧Sub (PV.agg [PV.f (Lf.zd z3 ((iN z2.fst).length+1)),PV.f (Lf.zn z3)]) (PV.agg [PV.f (Lf.zd (zOf b N.toNat) 3),PV.f (Lf.zn (zOf b N.toNat))]))) (by kernel_rfl) ?_
   refine ⟨?x0,⟨?s0,⟨?s1,⟨trivial,fun z2=>fun hq0=>fun _=>Qaa.2 ⟨fun hb1=>⟨?s2,⟨?x1,⟨⟨⟨⟨.refl _,⟨.refl _,trivial⟩⟩,trivial⟩,⟨?m0,⟨.refl _,⟨.refl _,⟨?m1,trivial⟩⟩⟩⟩⟩,⟨?s3,⟨trivial,?m2⟩⟩⟩⟩⟩,fun hb1=>⟨?s4,fun z3=>fun hz3=>⟨rfl,?m3⟩⟩⟩⟩⟩⟩⟩
   case x0=>exact ([],N.toNat)
   case x1=>exact (z2.1++[z2.2 % 1000000000],z2.2 / 1000000000)
   case s0=>exact ⟨⟨⟨.refl _,.refl _,trivial⟩,trivial⟩,Qh4 (by show N=(N.toNat:Int); omega),.refl _,.refl _,rfl,trivial⟩
   case s1=>exact ⟨by simp [val],by simp,by simp,by omega,fun h=>by simp at h ⊢; omega⟩
   all_goals obtain ⟨q1,q2,q3,q4,q5⟩:=hq0
   case s2=>rw [Qte]; exact ⟨by omega,by omega⟩
   case m0 =>
    refine Qh4 ?_
    rw [show ((z2.2:Nat):Int).tdiv 1000000000=((z2.2 / 1000000000:Nat):Int) from rfl]
    exact wU64 _ (by omega) (by omega)
   case m1 =>
    refine QtU ?_
    rw [show ((z2.2:Nat):Int).tmod 1000000000=((z2.2 % 1000000000:Nat):Int) from rfl,wU _ (by omega) (by omega)]
    simp [iN]
   case s3 =>
    have h1:=of_decide_eq_true hb1
    have h2:=q5 (by omega)
    have h3:z2.1.length≤2:=by
     refine Decidable.byContradiction fun hc=>?_
     have:=Nat.pow_le_pow_right (n:=1000000000) (by omega) (show 3≤z2.1.length by omega)
     omega
    have h4:z2.2=z2.2 % 1000000000+1000000000 * (z2.2 / 1000000000):=by omega
    have h5:N.toNat=val 1000000000 (z2.1++[z2.2 % 1000000000])+1000000000 ^ (z2.1++[z2.2 % 1000000000]).length * (z2.2 / 1000000000):=by
     rw [Qdl,List.length_append,List.length_singleton,Nat.pow_succ,q1]
     conv=>lhs; rw [h4]
     simp only [val,Nat.mul_zero,Nat.add_zero]
     rw [Nat.mul_add,Nat.mul_assoc]
     omega
    refine ⟨h5,fun y hy=>?_,by simp; omega,by show z2.2 / 1000000000<_; omega,fun h6=>?_⟩
    · rcases List.mem_append.1 hy with hy | hy
      · exact q2 y hy
      · simp at hy; omega
    · have h7:1000000000 ^ (z2.1++[z2.2 % 1000000000]).length * 1≤1000000000 ^ (z2.1++[z2.2 % 1000000000]).length * (z2.2 / 1000000000):=Nat.mul_le_mul_left _ h6
      show 1000000000 ^ (z2.1++[z2.2 % 1000000000]).length≤_
      omega
   case m2=>have h1:=of_decide_eq_true hb1; show z2.2 / 1000000000+1≤z2.2; omega
   case s4 =>
    refine ⟨⟨fun x hx=>?_,trivial,trivial⟩,by rw [Qte]; omega⟩
    obtain ⟨y,hy,rfl⟩:=List.mem_map.1 hx
    have:=q2 y hy
    have e:Int.ofNat y=(y:Int):=rfl
    exact ⟨by omega,by omega⟩
   case m3 =>
    have h1:=of_decide_eq_false hb1
    have h2:z2.2=0:=by omega
    rw [h2,Nat.mul_zero,Nat.add_zero] at q1
    have h3:z3=zOf b N.toNat:=by rw [hz3,show List.map Int.toNat (iN z2.1)=z2.1 from Qsc z2.1,q1]; rfl
    subst h3
    exact Qc6 (by unfold ZB; rw [QeA]; omega)
 · cases hs
end
end Go.Proofs.YtemhncjjiomppaaGreatDoor
namespace Go.Proofs.YtemhncjjiomppaaGreatDoor
open Go.RowKit
set_option linter.unusedVariables false
set_option maxRecDepth 100000
def Qk0:Spec
 | [.agg [.f (.zd a k),.f (.zn z)],.agg [.f (.zd a' k'),.f (.zn z')]]=>some (some (a=z∧a'=z'∧k+k'≤4500000),.nm Int (z * z') fun y=>nP y (k+k'+1))
 | _=>none
def QfJ:Spec
 | [.f x]=>match limL x with
  | some (l,k)=>some (some (k≤100000000),.one (.f (.v (.bool (rgtB l)))))
  | none=>none
 | _=>none
theorem Qq8 {E:Env}:Contract Tryz.prog E 131 QfJ:=by
 intro xs p r hs hp w H vs hf hE hvs
 unfold QfJ at hs
 split at hs
 · rename_i x
   split at hs
   · rename_i l k hx
     cases hs
     have hk:=hp _ rfl
     obtain ⟨v,rfl,hv⟩:=Qin hvs
     obtain ⟨h1,h2,h3⟩:=QdQ hx hv.rd hf
     refine (QjP v l w h1 (by omega)).mono ?_
     rintro e w' ⟨rfl,rfl⟩
     exact ⟨_,_,rfl,Ext.refl hf,.f (.v _ rfl)⟩
   · cases hs
 · cases hs
section
variable {E : Env} (hU : Up E)
include hU
theorem cOfNN:Contract Tryz.prog E 145 sOf:=by
 refine Qak [(177,Qme),(179,Qpu)] Tryz.ntmps145 Tryz.func145 (by kernel_rfl) (by kernel_rfl) hU ⟨Qto hU,Qvt hU,trivial⟩ ?_
 intro xs p r hs hp
 unfold sOf at hs
 split at hs
 · rename_i n
   cases hs
   have hk:=hp _ rfl
   refine ⟨[.f (.v (.int .i64 n))],[],.cons (.refl _) .nil,rfl,fun hgx hg=>?_⟩
   refine Qab (p:=ifB (decide (n<(0:Int))) (((0:Int)≤IntKind.u64.wrap ((0:Int) - IntKind.u64.wrap n)∧IntKind.u64.wrap ((0:Int) - IntKind.u64.wrap n)<(18446744073709551616:Int))∧∀ (z1:Int),z1=zOf true (IntKind.u64.wrap ((0:Int) - IntKind.u64.wrap n)).toNat→z1=z1∧true=true∧Sub (PV.agg [PV.f (Lf.zn z1),PV.f (Lf.zd z1 3)]) (PV.agg [PV.f (Lf.zn n),PV.f (Lf.zd n 3)])) (((0:Int)≤IntKind.u64.wrap n∧IntKind.u64.wrap n<(18446744073709551616:Int))∧∀ (z1:Int),z1=zOf false (IntKind.u64.wrap n).toNat→z1=z1∧true=true∧Sub (PV.agg [PV.f (Lf.zn z1),PV.f (Lf.zd z1 3)]) (PV.agg [PV.f (Lf.zn n),PV.f (Lf.zd n 3)]))) (by kernel_rfl) ?_
   refine Qaa.2 ⟨fun hb0=>⟨?s0,fun z1=>fun hz1=>⟨rfl,⟨rfl,?m0⟩⟩⟩,fun hb0=>⟨?s1,fun z1=>fun hz1=>⟨rfl,⟨rfl,?m1⟩⟩⟩⟩
   case s0=>simp [IntKind.wrap,IntKind.bits,IntKind.signed]; omega
   case s1=>simp [IntKind.wrap,IntKind.bits,IntKind.signed]; omega
   case m0 =>
    have h1:=of_decide_eq_true hb0
    have e:z1=n:=by
     rw [hz1,QhP]
     simp [IntKind.wrap,IntKind.bits,IntKind.signed]
     omega
    subst e
    exact .refl _
   case m1 =>
    have h1:=of_decide_eq_false hb0
    have e:z1=n:=by
     rw [hz1,Qfz]
     simp [IntKind.wrap,IntKind.bits,IntKind.signed]
     omega
    subst e
    exact .refl _
 · cases hs
theorem cCmpNN:Contract Tryz.prog E 150 sCmp:=by
 refine Qak [(183,Qpv),(184,QpL)] Tryz.ntmps150 Tryz.func150 (by kernel_rfl) (by kernel_rfl) hU ⟨Qvu hU,QvM hU,trivial⟩ ?_
 intro xs p r hs hp
 unfold sCmp at hs
 split at hs
 · rename_i x y
   split at hs
   · rename_i n l k j n' l' k' j' hx hy
     cases hs
     have hk:=hp _ rfl
     refine ⟨[rawP n l k,rawP n' l' k'],[],.cons (Qh2 hx) (.cons (Qh2 hy) .nil),rfl,fun hgx hg=>?_⟩
     refine Qab (p:=k≤100000000∧∀ (z1:Int),z1=zV n l→k'≤100000000∧∀ (z2:Int),z2=zV n' l'→ifB (!zNeg z1==zNeg z2) (ifB (zNeg z1) (true=true∧Sub (PV.f (Lf.v (Value.int IntKind.i64 (-1:Int)))) (PV.f (Lf.v (Value.int IntKind.i64 (cmpI (zV n l) (zV n' l')))))) (ifB (!zNeg z1==zNeg z2) (true=true∧Sub (PV.f (Lf.v (Value.int IntKind.i64 (1:Int)))) (PV.f (Lf.v (Value.int IntKind.i64 (cmpI (zV n l) (zV n' l')))))) (ifB (zNeg z1) ((k'+1≤10000000∧k+1≤10000000)∧true=true∧Sub (PV.f (Lf.v (Value.int IntKind.i64 (cmpI (↑z2.natAbs:Int) (↑z1.natAbs:Int))))) (PV.f (Lf.v (Value.int IntKind.i64 (cmpI (zV n l) (zV n' l')))))) ((k+1≤10000000∧k'+1≤10000000)∧true=true∧Sub (PV.f (Lf.v (Value.int IntKind.i64 (cmpI (↑z1.natAbs:Int) (↑z2.natAbs:Int))))) (PV.f (Lf.v (Value.int IntKind.i64 (cmpI (zV n l) (zV n' l'))))))))) (ifB (!zNeg z1==zNeg z2) (true=true∧Sub (PV.f (Lf.v (Value.int IntKind.i64 (1:Int)))) (PV.f (Lf.v (Value.int IntKind.i64 (cmpI (zV n l) (zV n' l')))))) (ifB (zNeg z1) ((k'+1≤10000000∧k+1≤10000000)∧true=true∧Sub (PV.f (Lf.v (Value.int IntKind.i64 (cmpI (↑z2.natAbs:Int) (↑z1.natAbs:Int))))) (PV.f (Lf.v (Value.int IntKind.i64 (cmpI (zV n l) (zV n' l')))))) ((k+1≤10000000∧k'+1≤10000000)∧true=true∧Sub (PV.f (Lf.v (Value.int IntKind.i64 (cmpI (↑z1.natAbs:Int) (↑z2.natAbs:Int))))) (PV.f (Lf.v (Value.int IntKind.i64 (cmpI (zV n l) (zV n' l'))))))))) (by kernel_rfl) ?_
     refine ⟨?s0,fun z1=>fun hz1=>⟨?s1,fun z2=>fun hz2=>Qaa.2 ⟨fun hb0=>Qaa.2 ⟨fun hb1=>⟨rfl,?m0⟩,fun hb1=>Qaa.2 ⟨fun hb2=>⟨rfl,?m1⟩,fun hb2=>Qaa.2 ⟨fun hb3=>⟨?s2,⟨rfl,?m2⟩⟩,fun hb3=>⟨?s3,⟨rfl,?m3⟩⟩⟩⟩⟩,fun hb0=>Qaa.2 ⟨fun hb4=>⟨rfl,?m4⟩,fun hb4=>Qaa.2 ⟨fun hb5=>⟨?s4,⟨rfl,?m5⟩⟩,fun hb5=>⟨?s5,⟨rfl,?m6⟩⟩⟩⟩⟩⟩⟩
     case s0=>omega
     case s1=>omega
     all_goals try rw [← hz1,← hz2]
     all_goals simp only [zNeg,Bool.not_eq_true',decide_eq_true_eq,decide_eq_false_iff_not,Bool.not_eq_false',beq_eq_false_iff_ne,ne_eq,beq_iff_eq,decide_eq_decide] at *
     all_goals first
      | exact ⟨by omega,by omega⟩
      | (refine QtT ?_
         unfold cmpI
         repeat' split
         all_goals omega)
   · cases hs
 · cases hs
theorem Qvn:Contract Tryz.prog E 178 Qk0:=by
 refine Qak [(206,Quf),(202,Qk3)] Tryz.ntmps178 Tryz.func178 (by kernel_rfl) (by kernel_rfl) hU ⟨cMulN,Qra hU,trivial⟩ ?_
 intro xs p r hs hp
 unfold Qk0 at hs
 split at hs
 · rename_i a k z a' k' z'
   cases hs
   obtain ⟨rfl,rfl,hk⟩:=hp _ rfl
   refine ⟨[nP a k,nP a' k'],[],.cons (.refl _) (.cons (.refl _) .nil),rfl,fun hgx hg=>?_⟩
   refine Qab (p:=Qbz [(digs 1000000000 a.natAbs,k),(digs 1000000000 a'.natAbs,k')]≤10000000∧∀ (z1:Nat),z1=Qhe [(digs 1000000000 a.natAbs,k),(digs 1000000000 a'.natAbs,k')] 1→Qbz [(digs 1000000000 a.natAbs,k),(digs 1000000000 a'.natAbs,k')]+1≤100000000∧∀ (z2:Int),z2=zV (!zNeg a==zNeg a') (digs 1000000000 (↑z1:Int).natAbs)→true=true∧Sub (PV.agg [PV.f (Lf.zd z2 (Qbz [(digs 1000000000 a.natAbs,k),(digs 1000000000 a'.natAbs,k')]+1+1)),PV.f (Lf.zn z2)]) (PV.agg [PV.f (Lf.zd (a * a') (k+k'+1)),PV.f (Lf.zn (a * a'))])) (by kernel_rfl) ?_
   refine ⟨?s0,fun z1=>fun hz1=>⟨?s1,fun z2=>fun hz2=>⟨rfl,?m0⟩⟩⟩
   all_goals have hA:ZB a k:=hgx.1.1.1
   all_goals have hB:ZB a' k':=hgx.2.1.1.1
   all_goals (try simp only [Qbz,Qhe,Qjh,Nat.one_mul] at *)
   all_goals first | omega | skip
   case m0 =>
    have:z2=a * a':=by
     rw [hz2,Int.natAbs_natCast,Qi9,hz1,Qt3,QtP]
    subst this
    exact Qc6 ((hA.mul hB).mono (by omega))
 · cases hs
theorem Qvq:Contract Tryz.prog E 83 QfK:=by
 refine Qak [(131,QfJ)] Tryz.ntmps83 Tryz.func83 (by kernel_rfl) (by kernel_rfl) hU ⟨Qq8,trivial⟩ ?_
 intro xs p r hs hp
 unfold QfK at hs
 split at hs
 · rename_i x
   split at hs
   · rename_i n l k j hx
     cases hs
     have hk:=hp _ rfl
     refine ⟨[rawP n l k],[],.cons (Qh2 hx) .nil,rfl,fun hgx hg=>?_⟩
     refine Qab (p:=k≤100000000∧ifB (rgtB l) (ifB (!n) (true=true∧Sub (PV.f (Lf.v (Value.bool true))) (PV.f (Lf.v (Value.bool (Qau n l))))) (true=true∧Sub (PV.f (Lf.v (Value.bool (decide ((↑l.length:Int) > (0:Int)))))) (PV.f (Lf.v (Value.bool (Qau n l)))))) (true=true∧Sub (PV.f (Lf.v (Value.bool false))) (PV.f (Lf.v (Value.bool (Qau n l)))))) (by kernel_rfl) ?_
     refine ⟨?s0,Qaa.2 ⟨fun hb0=>Qaa.2 ⟨fun hb1=>⟨rfl,?m0⟩,fun hb1=>⟨rfl,?m1⟩⟩,fun hb0=>⟨rfl,?m2⟩⟩⟩
     case s0=>exact hk
     case m0 =>
      refine Qh3 ?_
      unfold Qau
      rw [hb0,hb1]; rfl
     case m1 =>
      refine Qh3 ?_
      unfold Qau
      rw [hb0,hb1,Bool.true_and,Bool.false_or,Bool.eq_iff_iff,decide_eq_true_eq,decide_eq_true_eq]
      omega
     case m2 =>
      refine Qh3 ?_
      unfold Qau
      rw [hb0]; rfl
   · cases hs
 · cases hs
end
end Go.Proofs.YtemhncjjiomppaaGreatDoor
namespace Go.Proofs.YtemhncjjiomppaaGreatDoor
open Go.RowKit
set_option linter.unusedVariables false
set_option maxRecDepth 100000
theorem nP_nil:Sub (.agg [.f (.v (.slice none 0 0)),.f (.v (.bool false))]) (nP 0 0):=⟨fun H v hv=>by
 obtain ⟨vs,rfl,h1⟩:=PRs.of_agg hv
 match vs,h1.1 with
 | [p,q],_ =>
  have a1:=(h1.2 1 _ _ rfl rfl).val
  subst a1
  exact (PRs.cons ((QrI 0).out _ _ (h1.2 0 _ _ rfl rfl)) (.cons (.f (.zn 0)) .nil)).agg⟩
def zsB (l:List ((Bool × List Nat) × Nat × Nat)):List ((Bool × List Nat) × Nat × Nat):=(zsOf l).map fun e=>((e.1,e.2.1),e.2.2,e.2.2+1)
theorem QhN (x:(Bool × List Nat) × Nat × Nat) (l:List ((Bool × List Nat) × Nat × Nat)):zsB (x::l)=((x.1.1,x.1.2),x.2.1,x.2.1+1)::zsB l:=rfl
theorem QoQ:∀ (l:List ((Bool × List Nat) × Nat × Nat)) (a:Int),sumR (zsB l) a=sumR l a
 | [],_=>rfl
 | x::l,a=>by rw [QhN,sumR,sumR,QoQ l]
theorem Ql1:∀ (l:List ((Bool × List Nat) × Nat × Nat)) (a:Int),Qbx (zsB l) a=Qbx l a
 | [],_=>rfl
 | x::l,a=>by rw [QhN,Qbx,Qbx,Ql1 l]
theorem Ql0:∀ (l:List ((Bool × List Nat) × Nat × Nat)),QbS (zsB l)=QbS l
 | []=>rfl
 | x::l=>by rw [QhN,QbS,QbS,Ql0 l]
def Qt8:Spec
 | [u,.f (.v (.func (.func g) x y)),.f L]=>match QcT L,Nat.beq g 178,x.size,y.size with
  | some l,true,0,0=>some (some (Sub u (nP 1 3)∧QbS l≤2000000),.nm Int (Qbx l 1) fun r=>zP r (bndP l 1))
  | _,_,_,_=>none
 | _=>none
section
variable {E : Env} (hU : Up E)
include hU
theorem cTogM:Contract Tryz.prog E 173 Qt8:=by
 refine Qak [(183,Qpv),(178,Qk0),(179,Qpu)] Tryz.ntmps173 Tryz.func173 (by kernel_rfl) (by kernel_rfl) hU ⟨Qvu hU,Qvn hU,Qvt hU,trivial⟩ ?_
 intro xs p r hs hp
 unfold Qt8 at hs
 split at hs
 · rename_i u g x y L
   split at hs
   · rename_i l hl hg hx hy
     cases hs
     obtain ⟨hu,hk⟩:=hp _ rfl
     obtain rfl:x=#[]:=Array.eq_empty_of_size_eq_zero hx
     obtain rfl:y=#[]:=Array.eq_empty_of_size_eq_zero hy
     obtain rfl:=Nat.eq_of_beq_eq_true hg
     have hsub:=Qjn hl
     have hL:(zsOf l).length=l.length:=by simp [zsOf]
     refine ⟨[nP 1 3,.f (.v (.func (.func 178) #[] #[])),.f (.zs (zsOf l))],[(2,.s ⟨Nat × Int,fun x=>⟨[(1,.f (.v (.func (.func 178) #[] #[]))),(3,.bp 0 0),(6,.bp 1 0),(9,.f (.zs (zsOf l))),(10,.f (.v (.int .i64 l.length))),(11,.f (.v (.int .i64 (x.1:Nat))))],[.cells [.f (.zd x.2 (bndP l 1)),.f (.zn x.2)],.cells [.f (.v (.bool false)),.f (.v (.slice none 0 0))]]⟩,
      fun x=>x.1≤l.length∧x.2=Qbx (l.take x.1) 1,fun x=>l.length - x.1⟩)],(.cons hu (.cons (.refl _) (.cons hsub .nil))),rfl,fun hgx hg=>?_⟩
     have hgood:=Qcr hl hgx.2.2.1.2
     have hbnd:∀ i,ZB (Qbx (l.take i) 1) (bndP l 1):=fun i=>(Qii _ 1 1 ZB.one fun x hx=>(hgood x (List.mem_of_mem_take hx)).2.2).mono (QkC l 1 i)
     have hbl:=QgM l 1 (Qff hl)
     have hll:=Qjt l
     refine Qab (p:=∃ (x1:Nat × Int),(((SubB (PV.f (Lf.zd (1:Int) 3)) (PV.f (Lf.zd x1.snd (bndP l 1)))∧SubB (PV.f (Lf.zn (1:Int))) (PV.f (Lf.zn x1.snd))∧True)∧(rfB (PV.f (Lf.v (Value.bool false)))∧rfB (nlP)∧True)∧True)∧rfB (PV.f (Lf.v (Value.func (Fn.func 178) #[] #[])))∧rfB (PV.bp 0 0)∧rfB (PV.bp 1 0)∧rfB (PV.f (Lf.zs (zsOf l)))∧SubB (PV.f (Lf.v (Value.int IntKind.i64 (↑(zsOf l).length:Int)))) (PV.f (Lf.v (Value.int IntKind.i64 (↑l.length:Int))))∧SubB (PV.f (Lf.v (Value.int IntKind.i64 (0:Int)))) (PV.f (Lf.v (Value.int IntKind.i64 (↑x1.fst:Int))))∧True)∧(x1.fst≤l.length∧x1.snd=Qbx (List.take x1.fst l) (1:Int))∧True∧∀ (z2:Nat × Int),z2.fst≤l.length∧z2.snd=Qbx (List.take z2.fst l) (1:Int)→True→ifB (decide ((↑z2.fst:Int)<(↑l.length:Int))) (((0:Int)≤(↑z2.fst:Int)∧(↑z2.fst:Int)<(↑(zsOf l).length:Int))∧((zsOf l).getD (↑z2.fst:Int).toNat (false,[],0)).snd.snd≤100000000∧∀ (z3:Int),z3=zV ((zsOf l).getD (↑z2.fst:Int).toNat (false,[],0)).fst ((zsOf l).getD (↑z2.fst:Int).toNat (false,[],0)).snd.fst→(z2.snd=z2.snd∧z3=z3∧bndP l 1+(((zsOf l).getD (↑z2.fst:Int).toNat (false,[],0)).snd.snd+1)≤4500000)∧∀ (z4:Int),z4=z2.snd * z3→∃ (x5:Nat × Int),(((SubB (PV.f (Lf.zd z4 (bndP l 1+(((zsOf l).getD (↑z2.fst:Int).toNat (false,[],0)).snd.snd+1)+1))) (PV.f (Lf.zd x5.snd (bndP l 1)))∧SubB (PV.f (Lf.zn z4)) (PV.f (Lf.zn x5.snd))∧True)∧(rfB (PV.f (Lf.v (Value.bool false)))∧rfB (nlP)∧True)∧True)∧rfB (PV.f (Lf.v (Value.func (Fn.func 178) #[] #[])))∧rfB (PV.bp 0 0)∧rfB (PV.bp 1 0)∧rfB (PV.f (Lf.zs (zsOf l)))∧rfB (PV.f (Lf.v (Value.int IntKind.i64 (↑l.length:Int))))∧SubB (PV.f (Lf.v (Value.int IntKind.i64 (IntKind.i64.wrap ((↑z2.fst:Int)+(1:Int)))))) (PV.f (Lf.v (Value.int IntKind.i64 (↑x5.fst:Int))))∧True)∧(x5.fst≤l.length∧x5.snd=Qbx (List.take x5.fst l) (1:Int))∧True∧(l.length - x5.fst).succ.le (l.length - z2.fst)) (z2.snd=z2.snd∧true=true∧Sub (PV.agg [PV.f (Lf.zn z2.snd),PV.f (Lf.zd z2.snd (bndP l 1))]) (PV.agg [PV.f (Lf.zn (Qbx l (1:Int))),PV.f (Lf.zd (Qbx l (1:Int)) (bndP l 1))]))) (by kernel_rfl) ?_
     refine ⟨?x0,⟨⟨⟨⟨?m0,⟨?m1,trivial⟩⟩,⟨⟨.refl _,⟨.refl _,trivial⟩⟩,trivial⟩⟩,⟨.refl _,⟨.refl _,⟨.refl _,⟨.refl _,⟨?m2,⟨?m3,trivial⟩⟩⟩⟩⟩⟩⟩,⟨?s0,⟨trivial,fun z2=>fun hq0=>fun _=>Qaa.2 ⟨fun hb1=>⟨?s1,⟨?s2,fun z3=>fun hz3=>⟨?s3,fun z4=>fun hz4=>⟨?x1,⟨⟨⟨⟨?m4,⟨?m5,trivial⟩⟩,⟨⟨.refl _,⟨.refl _,trivial⟩⟩,trivial⟩⟩,⟨.refl _,⟨.refl _,⟨.refl _,⟨.refl _,⟨.refl _,⟨?m6,trivial⟩⟩⟩⟩⟩⟩⟩,⟨?s4,⟨trivial,?m7⟩⟩⟩⟩⟩⟩⟩,fun hb1=>⟨rfl,⟨rfl,?m8⟩⟩⟩⟩⟩⟩⟩
     case x0=>exact (0,1)
     case x1=>exact (z2.1+1,z4)
     case m0=>exact Qfd rfl (ZB.one.mono (QlT l 1))
     case m1=>exact .refl _
     case m2=>rw [hL]; exact .refl _
     case m3=>exact .refl _
     case s0=>exact ⟨Nat.zero_le _,rfl⟩
     case m8 =>
      have h1:=of_decide_eq_false hb1
      have h2:z2.1=l.length:=by omega
      have h3:=hq0.2
      rw [h2,List.take_of_length_le (Nat.le_refl _)] at h3
      rw [h3]; exact .refl _
     all_goals have h1:=of_decide_eq_true hb1
     all_goals have hil:z2.1<l.length:=(by omega)
     all_goals have hat:=QkK hil
     all_goals have hmem:=List.getElem_mem hil
     all_goals have hsz:=Qjs _ hmem
     all_goals simp only [Int.toNat_natCast,hat] at *
     case s1=>exact ⟨by omega,by omega⟩
     case s2=>omega
     case s3=>exact ⟨by trivial,by trivial,by omega⟩
     all_goals have hz:z4=Qbx (l.take (z2.1+1)) 1:=(by rw [hz4,hz3,Qn2 l z2.1 hil,← hq0.2])
     case m4=>exact Qfd rfl (by rw [hz]; exact hbnd _)
     case m5=>exact .refl _
     case m6=>exact Qjo (by omega)
     case s4=>exact ⟨hil,hz⟩
     case m7=>show l.length - (z2.1+1)+1≤l.length - z2.1; omega
   · cases hs
 · cases hs
end
end Go.Proofs.YtemhncjjiomppaaGreatDoor
namespace Go.Proofs.YtemhncjjiomppaaGreatDoor
open Go.RowKit
theorem cCmp {E:Env} (hU:Up E):Contract Tryz.prog E 150 sCmp:=cCmpNN hU
theorem cOf {E:Env} (hU:Up E):Contract Tryz.prog E 145 sOf:=cOfNN hU
theorem Qnv {E:Env} (hU:Up E):Contract Tryz.prog E 83 QfK:=Qvq hU
end Go.Proofs.YtemhncjjiomppaaGreatDoor
