/- The contracts of the layer num. -/
import Derived.Test.YtmbmbcamecfnkaaGreatDoorPl
set_option linter.unusedSimpArgs false
namespace Go.Proofs.YtmbmbcamecfnkaaGreatDoor
open Go.RowKit
set_option linter.unusedVariables false
set_option maxRecDepth 100000
def QtD:Spec
 | [.f x,.f y]=>match limL x,limL y with
  | some (l,k),some (m,j)=>some (some (k≤100000000∧j≤100000000),.one (.f (.v (.int .i64 (cmpI (vB l:Nat) (vB m:Nat))))))
  | _,_=>none
 | _=>none
theorem Qgp:∀ l:List (List Nat × Nat),l.length≤Qa3 l
 | []=>Nat.le_refl _
 | x::l=>by have:=Qgp l; simp only [List.length_cons,Qa3]; omega
section
variable {E : Env}
theorem cTrimN:Contract Tryz.prog E 232 Qpa:=by
 intro xs p r hs hp w H vs hf hE hvs
 unfold Qpa at hs
 split at hs
 · rename_i x
   split at hs
   · rename_i l k hx
     cases hs
     have hk:=hp _ rfl
     obtain ⟨v,rfl,hv⟩:=QcT hvs
     obtain ⟨h1,h2,h3⟩:=Qca hx hv.rd hf
     refine (QkX v l w h1 (by omega) h3).mono ?_
     rintro e w' ⟨u,rfl,ho,hbl⟩
     exact ⟨_,u,rfl,QbS hf hbl,QeD ho (QfF h3 h2)⟩
   · cases hs
 · cases hs
theorem cAddN:Contract Tryz.prog E 174 Qre:=by
 intro xs p r hs hp w H vs hf hE hvs
 unfold Qre at hs
 split at hs
 · rename_i R
   split at hs
   · rename_i l hl
     cases hs
     have hk:=hp _ rfl
     obtain ⟨v,rfl,hv⟩:=QcT hvs
     obtain ⟨h1,h2,h3⟩:=QfS hl hv.rd hf
     have hw2:=Qdl h2
     have hll:=Qgp l
     refine (QnV v _ w h1 (by omega) (fun a ha x hx=>?_) (by rw [List.length_map]; omega)).mono ?_
     · obtain ⟨y,hy,rfl⟩:=List.mem_map.1 ha
       exact h3 y hy x hx
     · rintro e w' ⟨u,rfl,ho,hbl⟩
       refine ⟨_,u,rfl,QbS hf hbl,?_⟩
       unfold sumV at ho
       rw [Qky] at ho
       have:=Qkx l 0 0 (by unfold ZB; decide) fun x hx=>QfF (h3 x hx) (h2 x hx)
       rw [Nat.zero_add] at this
       exact QeD ho this
   · cases hs
 · cases hs
theorem cMulN:Contract Tryz.prog E 182 Qtw:=by
 intro xs p r hs hp w H vs hf hE hvs
 unfold Qtw at hs
 split at hs
 · rename_i R
   split at hs
   · rename_i l hl
     cases hs
     have hk:=hp _ rfl
     obtain ⟨v,rfl,hv⟩:=QcT hvs
     obtain ⟨h1,h2,h3⟩:=QfS hl hv.rd hf
     have hw2:=Qdl h2
     have hll:=Qgp l
     refine (QnT v _ w h1 (by omega) (fun a ha x hx=>?_) (by rw [List.length_map]; omega)).mono ?_
     · obtain ⟨y,hy,rfl⟩:=List.mem_map.1 ha
       exact h3 y hy x hx
     · rintro e w' ⟨u,rfl,ho,hbl⟩
       refine ⟨_,u,rfl,QbS hf hbl,?_⟩
       unfold Qpy at ho
       rw [Qix] at ho
       have:=Qiw l 1 1 (by unfold ZB; decide) fun x hx=>QfF (h3 x hx) (h2 x hx)
       rw [Nat.add_comm] at this
       exact QeD ho this
   · cases hs
 · cases hs
theorem cCmpN:Contract Tryz.prog E 183 QtD:=by
 intro xs p r hs hp w H vs hf hE hvs
 unfold QtD at hs
 split at hs
 · rename_i x y
   split at hs
   · rename_i l k m j hx hy
     cases hs
     obtain ⟨hk,hj⟩:=hp _ rfl
     obtain ⟨u,v,rfl,hu,hv⟩:=QfL hvs
     obtain ⟨h1,h2,h3⟩:=Qca hx hu.rd hf
     obtain ⟨h4,h5,h6⟩:=Qca hy hv.rd hf
     refine (QnU u v l m w h1 h4 (by omega) h3 (by omega) h6).mono ?_
     rintro e w' ⟨rfl,hbl⟩
     exact ⟨_,_,rfl,QbS hf hbl,.f (.v _ rfl)⟩
   · cases hs
 · cases hs
theorem cSubN:Contract Tryz.prog E 175 Qrb:=by
 intro xs p r hs hp w H vs hf hE hvs
 unfold Qrb at hs
 split at hs
 · rename_i x y
   split at hs
   · rename_i l k m j hx hy
     cases hs
     obtain ⟨hk,hj⟩:=hp _ rfl
     obtain ⟨u,v,rfl,hu,hv⟩:=QfL hvs
     obtain ⟨h1,h2,h3⟩:=Qca hx hu.rd hf
     obtain ⟨h4,h5,h6⟩:=Qca hy hv.rd hf
     refine (QnS u v l m w h1 h4 (by omega) h3 (by omega) h6).mono ?_
     rintro e w' ⟨u',rfl,ho,hbl⟩
     refine ⟨_,_,rfl,QbS hf hbl,.tup rfl fun i v x hv hx=>?_⟩
     match i with
     | 0=>simp at hv hx; subst hv hx; exact QeD ho ((QfF h3 h2).leN (Nat.sub_le _ _))
     | 1=>simp at hv hx; subst hv hx; exact .f (.v _ rfl)
     | i+2=>simp at hv
   · cases hs
 · cases hs
theorem cDivN:Contract Tryz.prog E 153 Qrd:=by
 intro xs p r hs hp w H vs hf hE hvs
 unfold Qrd at hs
 split at hs
 · rename_i x y
   split at hs
   · rename_i l k m j hx hy
     cases hs
     obtain ⟨hk,hj,h0⟩:=hp _ rfl
     obtain ⟨u,v,rfl,hu,hv⟩:=QfL hvs
     obtain ⟨h1,h2,h3⟩:=Qca hx hu.rd hf
     obtain ⟨h4,h5,h6⟩:=Qca hy hv.rd hf
     refine (QiC u v l m w h1 h4 (by omega) h3 (by omega) h6 (Nat.pos_of_ne_zero h0)).mono ?_
     rintro e w' ⟨q,s,rfl,ho,ho2,hbl⟩
     refine ⟨_,_,rfl,QbS hf hbl,.tup rfl fun i v x hv hx=>?_⟩
     match i with
     | 0=>simp at hv hx; subst hv hx; exact QeD ho ((QfF h3 h2).leN (Nat.div_le_self _ _))
     | 1=>simp at hv hx; subst hv hx; exact QeD ho2 ((QfF h6 h5).leN (Nat.le_of_lt (Nat.mod_lt _ (Nat.pos_of_ne_zero h0))))
     | 2=>simp at hv hx; subst hv hx; exact .f (.v _ rfl)
     | i+3=>simp at hv
   · cases hs
 · cases hs
end
end Go.Proofs.YtmbmbcamecfnkaaGreatDoor
namespace Go.Proofs.YtmbmbcamecfnkaaGreatDoor
open Go.RowKit
set_option linter.unusedVariables false
set_option maxRecDepth 100000
def nP (z:Int) (k:Nat):PV:=.agg [.f (.zd z k),.f (.zn z)]
def QhB:Spec
 | [.agg [.f x]]=>match limL x with
  | some (l,k)=>some (none,.one (.f (.v (.bool (((l.length:Nat):Int)==0)))))
  | none=>none
 | _=>none
def Qip:Spec
 | [.f x,.f (.v (.bool n))]=>match limL x with
  | some (l,k)=>some (some (k≤100000000),.nm Int (zV n l) fun z=>nP z (k+1))
  | none=>none
 | _=>none
def Qio:Spec
 | [x]=>match pvR x with
  | some ((n,l),k,j)=>some (some (k≤100000000),.nm Int (zV n l) fun z=>nP z (k+1))
  | none=>none
 | _=>none
theorem QoT {a b:Int} {k:Nat} (h:a.natAbs=b.natAbs):Sub (.f (.zd a k)) (.f (.zd b k)):=⟨fun H v hv=>by
 have hr:=hv.rd
 have hg:ZB a k:=hr.good'
 refine .f ?_
 cases hr with
 | sl hv2 hgd hc hm h0 bb o val hb hcell hkk hrec=>exact .sl (f:=.zd b k) (by rw [← hv2]; simp only [Lf.view,h]) (show ZB b k by unfold ZB at hg ⊢; rw [← h]; exact hg) hc hm h0 bb o val hb hcell hkk hrec⟩
theorem Qmu {a z:Int} {b:Bool} {k:Nat} (hz:a.natAbs=z.natAbs) (hb:b=zNeg z):Sub (.agg [.f (.zd a k),.f (.v (.bool b))]) (.agg [.f (.zd z k),.f (.zn z)]):=by
 subst hb
 refine ⟨fun H v hv=>?_⟩
 obtain ⟨vs,rfl,h1⟩:=PRs.of_agg hv
 match vs,h1.1 with
 | [p,q],_ =>
  have a1:=(h1.2 1 _ _ rfl rfl).val
  subst a1
  exact (PRs.cons ((QoT hz).out _ _ (h1.2 0 _ _ rfl rfl)) (.cons (.f (.zn _)) .nil)).agg
theorem QdZ (n:Nat):(((digs 1000000000 n).length:Int)==0)=decide (n=0):=by
 rw [Bool.eq_iff_iff,beq_iff_eq,decide_eq_true_eq]
 constructor
 · intro h
   have h1:=Qah 1000000000 (by omega) n
   rw [List.length_eq_zero_iff.1 (show (digs 1000000000 n).length=0 by omega)] at h1
   exact h1.symm
 · intro h; subst h; rw [Qav]; rfl
def Qih:Spec
 | [.agg [.f (.zd z k),.f (.zn z')]]=>some (some (z=z'),.nm Int (-z) fun y=>nP y k)
 | _=>none
def Qjv:Spec
 | [.agg [.f (.zd z k),.f (.zn z')]]=>some (some (z=z'),.one (zP z k))
 | _=>none
def Qpl:Spec
 | [.agg [.f (.zd z k)],.agg [.f (.zd z' k')]]=>some (some (k≤10000000∧k'≤10000000),.one (.f (.v (.int .i64 (cmpI (z.natAbs:Nat) (z'.natAbs:Nat))))))
 | _=>none
def Qec (Q:Int→Int→Prop):Spec
 | [.agg [.f (.zd a k),.f (.zn z)],.agg [.f (.zd a' k'),.f (.zn z')]]=>some (some (a=z∧a'=z'∧k+k'≤4500000∧Q z z'),.nm Int (z+z') fun y=>nP y (k+k'+1))
 | _=>none
theorem Qux {E:Env}:Contract Tryz.prog E 89 (Qec (fun _ _=>False)):=by
 intro xs p r hs hp
 unfold Qec at hs
 split at hs
 · cases hs
   exact (hp _ rfl).2.2.2.elim
 · cases hs
theorem QcB (n:Nat):vB (digs 1000000000 n)=n:=Qah 1000000000 (by omega) n
theorem Qeb (neg:Bool) (n:Nat):zV neg (digs 1000000000 n)=zOf neg n:=by unfold zV; rw [Qah _ (by omega)]
theorem Qdw {z:Int} {k k':Nat} (h:ZB z k'):Sub (nP z k) (nP z k'):=by
 refine ⟨fun H v hv=>?_⟩
 obtain ⟨vs,rfl,h1⟩:=PRs.of_agg hv
 match vs,h1.1 with
 | [p,q],_=>exact (PRs.cons ((Qgl h).out _ _ (h1.2 0 _ _ rfl rfl)) (.cons (h1.2 1 _ _ rfl rfl) .nil)).agg
section
variable {E : Env} (hU : Up E)
include hU
theorem Qm8:Contract Tryz.prog E 152 QhB:=by
 refine Qaf [] Tryz.ntmps152 Tryz.func152 (by kernel_rfl) (by kernel_rfl) hU trivial ?_
 intro xs p r hs hp
 unfold QhB at hs
 split at hs
 · rename_i x
   split at hs
   · rename_i l k hx
     cases hs
     refine ⟨[.agg [.f (.lr l k)]],[],.cons ⟨fun H v hv=>by
      obtain ⟨vs,rfl,h1⟩:=PRs.of_agg hv
      match vs,h1.1 with
      | [p],_=>exact (PRs.cons ((Qbu hx).out _ _ (h1.2 0 _ _ rfl rfl)) .nil).agg⟩ .nil,rfl,fun hgx hg=>?_⟩
     refine Qag (p:=true=true∧rfS (PV.f (Lf.v (Value.bool ((↑l.length:Int)==(0:Int)))))) (by kernel_rfl) ?_
     refine ⟨rfl,?m0⟩
     case m0=>exact .refl _
   · cases hs
 · cases hs
theorem QlA:Contract Tryz.prog E 154 Qip:=by
 refine Qaf [(232,Qpa),(152,QhB)] Tryz.ntmps154 Tryz.func154 (by kernel_rfl) (by kernel_rfl) hU ⟨cTrimN,Qm8 hU,trivial⟩ ?_
 intro xs p r hs hp
 unfold Qip at hs
 split at hs
 · rename_i x n
   split at hs
   · rename_i l k hx
     cases hs
     have hk:=hp _ rfl
     refine ⟨[.f (.lr l k),.f (.v (.bool n))],[],.cons (Qbu hx) (.cons (.refl _) .nil),rfl,fun hgx hg=>?_⟩
     refine Qag (p:=k≤100000000∧∀ (z1:Nat),z1=vB l→ifB n (true=true∧Sub (PV.agg [PV.f (Lf.zd (↑z1:Int) (k+1)),PV.f (Lf.v (Value.bool !(↑(digs 1000000000 (↑z1:Int).natAbs).length:Int)==(0:Int)))]) (PV.agg [PV.f (Lf.zd (zV n l) (k+1)),PV.f (Lf.zn (zV n l))])) (true=true∧Sub (PV.agg [PV.f (Lf.zd (↑z1:Int) (k+1)),PV.f (Lf.v (Value.bool false))]) (PV.agg [PV.f (Lf.zd (zV n l) (k+1)),PV.f (Lf.zn (zV n l))]))) (by kernel_rfl) ?_
     refine ⟨?s0,fun z1=>fun hz1=>Qae.2 ⟨fun hb0=>⟨rfl,?m0⟩,fun hb0=>⟨rfl,?m1⟩⟩⟩
     case s0=>exact hk
     case m0 =>
      subst hb0
      rw [show zV true l=zOf true (vB l) from rfl,← hz1,QdH]
      refine Qmu (by rw [Int.natAbs_neg]) ?_
      rw [Int.natAbs_natCast,QdZ]
      unfold zNeg
      rw [Bool.eq_iff_iff,Bool.not_eq_true',decide_eq_false_iff_not,decide_eq_true_eq]
      omega
     case m1 =>
      subst hb0
      rw [show zV false l=zOf false (vB l) from rfl,← hz1,Qa5]
      exact Qmu rfl (by unfold zNeg; rw [decide_eq_false (by omega)])
   · cases hs
 · cases hs
theorem Qlz:Contract Tryz.prog E 95 Qio:=by
 refine Qaf [(154,Qip)] Tryz.ntmps95 Tryz.func95 (by kernel_rfl) (by kernel_rfl) hU ⟨QlA hU,trivial⟩ ?_
 intro xs p r hs hp
 unfold Qio at hs
 split at hs
 · rename_i x
   split at hs
   · rename_i n l k j hx
     cases hs
     have hk:=hp _ rfl
     refine ⟨[rawP n l k],[],.cons (QaG hx) .nil,rfl,fun hgx hg=>?_⟩
     refine Qag (p:=k≤100000000∧∀ (z1:Int),z1=zV n l→true=true∧Sub (PV.agg [PV.f (Lf.zd z1 (k+1)),PV.f (Lf.zn z1)]) (PV.agg [PV.f (Lf.zd (zV n l) (k+1)),PV.f (Lf.zn (zV n l))])) (by kernel_rfl) ?_
     refine ⟨?s0,fun z1=>fun hz1=>⟨rfl,?m0⟩⟩
     case s0=>exact hk
     case m0=>subst hz1; exact .refl _
   · cases hs
 · cases hs
theorem QqC:Contract Tryz.prog E 156 Qih:=by
 refine Qaf [(152,QhB)] Tryz.ntmps156 Tryz.func156 (by kernel_rfl) (by kernel_rfl) hU ⟨Qm8 hU,trivial⟩ ?_
 intro xs p r hs hp
 unfold Qih at hs
 split at hs
 · rename_i z k z'
   cases hs
   obtain rfl:=hp _ rfl
   refine ⟨[nP z k],[],.cons (.refl _) .nil,rfl,fun hgx hg=>?_⟩
   refine Qag (p:=ifB (!zNeg z) (true=true∧Sub (PV.agg [PV.f (Lf.zd z k),PV.f (Lf.v (Value.bool !(↑(digs 1000000000 z.natAbs).length:Int)==(0:Int)))]) (PV.agg [PV.f (Lf.zd (-z) k),PV.f (Lf.zn (-z))])) (true=true∧Sub (PV.agg [PV.f (Lf.zd z k),PV.f (Lf.v (Value.bool false))]) (PV.agg [PV.f (Lf.zd (-z) k),PV.f (Lf.zn (-z))]))) (by kernel_rfl) ?_
   refine Qae.2 ⟨fun hb0=>⟨rfl,?m0⟩,fun hb0=>⟨rfl,?m1⟩⟩
   case m0 =>
    refine Qmu (by rw [Int.natAbs_neg]) ?_
    have h1:zNeg z=false:=by simpa using hb0
    rw [QdZ]
    unfold zNeg at h1 ⊢
    rw [decide_eq_false_iff_not] at h1
    rw [Bool.eq_iff_iff,Bool.not_eq_true',decide_eq_false_iff_not,decide_eq_true_eq]
    omega
   case m1 =>
    refine Qmu (by rw [Int.natAbs_neg]) ?_
    have h1:zNeg z=true:=by simpa using hb0
    rw [Qch] at h1
    unfold zNeg
    rw [decide_eq_false (by omega)]
 · cases hs
theorem Qol:Contract Tryz.prog E 81 Qjv:=by
 refine Qaf [] Tryz.ntmps81 Tryz.func81 (by kernel_rfl) (by kernel_rfl) hU trivial ?_
 intro xs p r hs hp
 unfold Qjv at hs
 split at hs
 · rename_i z k z'
   cases hs
   obtain rfl:=hp _ rfl
   refine ⟨[nP z k],[],.cons (.refl _) .nil,rfl,fun hgx hg=>?_⟩
   refine Qag (p:=true=true∧Sub (PV.agg [PV.f (Lf.v (Value.bool (zNeg z))),PV.f (Lf.zd z k)]) (PV.agg [PV.f (Lf.zn z),PV.f (Lf.zd z k)])) (by kernel_rfl) ?_
   refine ⟨rfl,?m0⟩
   case m0 =>
    refine ⟨fun H v hv=>?_⟩
    obtain ⟨vs,rfl,h1⟩:=PRs.of_agg hv
    match vs,h1.1 with
    | [p,q],_ =>
     have a0:=(h1.2 0 _ _ rfl rfl).val
     subst a0
     exact (PRs.cons (.f (.zn _)) (.cons (h1.2 1 _ _ rfl rfl) .nil)).agg
 · cases hs
theorem Quz:Contract Tryz.prog E 96 Qpl:=by
 refine Qaf [(183,QtD)] Tryz.ntmps96 Tryz.func96 (by kernel_rfl) (by kernel_rfl) hU ⟨cCmpN,trivial⟩ ?_
 intro xs p r hs hp
 unfold Qpl at hs
 split at hs
 · rename_i z k z' k'
   cases hs
   obtain ⟨h1,h2⟩:=hp _ rfl
   refine ⟨[.agg [.f (.zd z k)],.agg [.f (.zd z' k')]],[],.cons (.refl _) (.cons (.refl _) .nil),rfl,fun hgx hg=>?_⟩
   refine Qag (p:=(k≤100000000∧k'≤100000000)∧true=true∧Sub (PV.f (Lf.v (Value.int IntKind.i64 (cmpI (↑(vB (digs 1000000000 z.natAbs)):Int) (↑(vB (digs 1000000000 z'.natAbs)):Int))))) (PV.f (Lf.v (Value.int IntKind.i64 (cmpI (↑z.natAbs:Int) (↑z'.natAbs:Int)))))) (by kernel_rfl) ?_
   refine ⟨?s0,⟨rfl,?m0⟩⟩
   case s0=>exact ⟨by omega,by omega⟩
   case m0=>rw [QcB,QcB]; exact .refl _
 · cases hs
theorem Quy:Contract Tryz.prog E 89 (Qec (fun z z'=>zNeg z=zNeg z'∨z'.natAbs≤z.natAbs)):=by
 refine Qaf [(174,Qre),(154,Qip),(96,Qpl),(175,Qrb),(89,Qec (fun _ _=>False))] Tryz.ntmps89 Tryz.func89 (by kernel_rfl) (by kernel_rfl) hU ⟨cAddN,QlA hU,Quz hU,cSubN,Qux,trivial⟩ ?_
 intro xs p r hs hp
 unfold Qec at hs
 split at hs
 · rename_i a k z a' k' z'
   cases hs
   obtain ⟨rfl,rfl,hk,hq⟩:=hp _ rfl
   refine ⟨[nP a k,nP a' k'],[],.cons (.refl _) (.cons (.refl _) .nil),rfl,fun hgx hg=>?_⟩
   refine Qag (p:=ifB (zNeg a==zNeg a') (Qa3 [(digs 1000000000 a.natAbs,k),(digs 1000000000 a'.natAbs,k')]≤10000000∧∀ (z1:Nat),z1=Qgk [(digs 1000000000 a.natAbs,k),(digs 1000000000 a'.natAbs,k')] 0→Qa3 [(digs 1000000000 a.natAbs,k),(digs 1000000000 a'.natAbs,k')]≤100000000∧∀ (z2:Int),z2=zV (zNeg a) (digs 1000000000 (↑z1:Int).natAbs)→true=true∧Sub (PV.agg [PV.f (Lf.zd z2 (Qa3 [(digs 1000000000 a.natAbs,k),(digs 1000000000 a'.natAbs,k')]+1)),PV.f (Lf.zn z2)]) (PV.agg [PV.f (Lf.zd (a+a') (k+k'+1)),PV.f (Lf.zn (a+a'))])) ((k≤10000000∧k'≤10000000)∧ifB (decide (cmpI (↑a.natAbs:Int) (↑a'.natAbs:Int)<(0:Int))) ((a'=a'∧a=a∧k'+k≤4500000∧False)∧∀ (z1:Int),z1=a'+a→true=true∧Sub (PV.agg [PV.f (Lf.zd z1 (k'+k+1)),PV.f (Lf.zn z1)]) (PV.agg [PV.f (Lf.zd (a+a') (k+k'+1)),PV.f (Lf.zn (a+a'))])) ((k≤10000000∧k'≤10000000)∧∀ (z1:Nat),z1=vB (digs 1000000000 a.natAbs) - vB (digs 1000000000 a'.natAbs)→k+1≤100000000∧∀ (z2:Int),z2=zV (zNeg a) (digs 1000000000 (↑z1:Int).natAbs)→true=true∧Sub (PV.agg [PV.f (Lf.zd z2 (k+1+1)),PV.f (Lf.zn z2)]) (PV.agg [PV.f (Lf.zd (a+a') (k+k'+1)),PV.f (Lf.zn (a+a'))])))) (by kernel_rfl) ?_
   refine Qae.2 ⟨fun hb0=>⟨?s0,fun z1=>fun hz1=>⟨?s1,fun z2=>fun hz2=>⟨rfl,?m0⟩⟩⟩,fun hb0=>⟨?s2,Qae.2 ⟨fun hb1=>⟨?s3,fun z1=>fun hz1=>⟨rfl,?m1⟩⟩,fun hb1=>⟨?s4,fun z1=>fun hz1=>⟨?s5,fun z2=>fun hz2=>⟨rfl,?m2⟩⟩⟩⟩⟩⟩
   all_goals have hA:ZB a k:=hgx.1.1.1
   all_goals have hB:ZB a' k':=hgx.2.1.1.1
   all_goals (try simp only [Qa3,Qgk,QcB,Nat.zero_add] at *)
   all_goals first | omega | exact ⟨by omega,by omega⟩ | skip
   case m0 =>
    have h1:zNeg a=zNeg a':=by simpa using hb0
    have:z2=a+a':=by
     rw [hz2,Int.natAbs_natCast,Qeb,hz1,Qe5,QaV,h1,QaV]
    subst this
    exact Qdw (hA.add hB)
   case s3 =>
    rcases hq with h | h
    · rw [h] at hb0; simp at hb0
    · exact absurd (of_decide_eq_true hb1) (fun hc=>by
       rcases Int.lt_trichotomy (a.natAbs:Int) (a'.natAbs:Int) with h2 | h2 | h2
       · omega
       · rw [Qg9 h2] at hc; exact absurd hc (by decide)
       · rw [Qce h2] at hc; exact absurd hc (by decide))
   case m1 =>
    have:z1=a+a':=by omega
    subst this
    exact Qdw (hA.add hB)
   case m2 =>
    have h1:zNeg a≠zNeg a':=by simpa using hb0
    have hl:a'.natAbs≤a.natAbs:=by
     rcases hq with h | h
     · exact absurd h h1
     · exact h
    have:z2=a+a':=by
     rw [hz2,Int.natAbs_natCast,Qeb,hz1,QhH h1 hl]
    subst this
    exact Qdw (hA.add hB)
 · cases hs
theorem QsU:Contract Tryz.prog E 89 (Qec (fun _ _=>True)):=by
 refine Qaf [(174,Qre),(154,Qip),(96,Qpl),(175,Qrb),(89,Qec (fun z z'=>zNeg z=zNeg z'∨z'.natAbs≤z.natAbs))] Tryz.ntmps89 Tryz.func89 (by kernel_rfl) (by kernel_rfl) hU ⟨cAddN,QlA hU,Quz hU,cSubN,Quy hU,trivial⟩ ?_
 intro xs p r hs hp
 unfold Qec at hs
 split at hs
 · rename_i a k z a' k' z'
   cases hs
   obtain ⟨rfl,rfl,hk,hq⟩:=hp _ rfl
   refine ⟨[nP a k,nP a' k'],[],.cons (.refl _) (.cons (.refl _) .nil),rfl,fun hgx hg=>?_⟩
   refine Qag (p:=ifB (zNeg a==zNeg a') (Qa3 [(digs 1000000000 a.natAbs,k),(digs 1000000000 a'.natAbs,k')]≤10000000∧∀ (z1:Nat),z1=Qgk [(digs 1000000000 a.natAbs,k),(digs 1000000000 a'.natAbs,k')] 0→Qa3 [(digs 1000000000 a.natAbs,k),(digs 1000000000 a'.natAbs,k')]≤100000000∧∀ (z2:Int),z2=zV (zNeg a) (digs 1000000000 (↑z1:Int).natAbs)→true=true∧Sub (PV.agg [PV.f (Lf.zd z2 (Qa3 [(digs 1000000000 a.natAbs,k),(digs 1000000000 a'.natAbs,k')]+1)),PV.f (Lf.zn z2)]) (PV.agg [PV.f (Lf.zd (a+a') (k+k'+1)),PV.f (Lf.zn (a+a'))])) ((k≤10000000∧k'≤10000000)∧ifB (decide (cmpI (↑a.natAbs:Int) (↑a'.natAbs:Int)<(0:Int))) ((a'=a'∧a=a∧k'+k≤4500000∧(zNeg a'=zNeg a∨a.natAbs≤a'.natAbs))∧∀ (z1:Int),z1=a'+a→true=true∧Sub (PV.agg [PV.f (Lf.zd z1 (k'+k+1)),PV.f (Lf.zn z1)]) (PV.agg [PV.f (Lf.zd (a+a') (k+k'+1)),PV.f (Lf.zn (a+a'))])) ((k≤10000000∧k'≤10000000)∧∀ (z1:Nat),z1=vB (digs 1000000000 a.natAbs) - vB (digs 1000000000 a'.natAbs)→k+1≤100000000∧∀ (z2:Int),z2=zV (zNeg a) (digs 1000000000 (↑z1:Int).natAbs)→true=true∧Sub (PV.agg [PV.f (Lf.zd z2 (k+1+1)),PV.f (Lf.zn z2)]) (PV.agg [PV.f (Lf.zd (a+a') (k+k'+1)),PV.f (Lf.zn (a+a'))])))) (by kernel_rfl) ?_
   refine Qae.2 ⟨fun hb0=>⟨?s0,fun z1=>fun hz1=>⟨?s1,fun z2=>fun hz2=>⟨rfl,?m0⟩⟩⟩,fun hb0=>⟨?s2,Qae.2 ⟨fun hb1=>⟨?s3,fun z1=>fun hz1=>⟨rfl,?m1⟩⟩,fun hb1=>⟨?s4,fun z1=>fun hz1=>⟨?s5,fun z2=>fun hz2=>⟨rfl,?m2⟩⟩⟩⟩⟩⟩
   all_goals have hA:ZB a k:=hgx.1.1.1
   all_goals have hB:ZB a' k':=hgx.2.1.1.1
   all_goals (try simp only [Qa3,Qgk,QcB,Nat.zero_add] at *)
   all_goals first | omega | exact ⟨by omega,by omega⟩ | skip
   case m0 =>
    have h1:zNeg a=zNeg a':=by simpa using hb0
    have:z2=a+a':=by
     rw [hz2,Int.natAbs_natCast,Qeb,hz1,Qe5,QaV,h1,QaV]
    subst this
    exact Qdw (hA.add hB)
   case s3 =>
    refine ⟨trivial,trivial,by omega,.inr ?_⟩
    rcases Int.lt_trichotomy (a.natAbs:Int) (a'.natAbs:Int) with h2 | h2 | h2
    · omega
    · omega
    · have hc:=of_decide_eq_true hb1
      rw [Qce h2] at hc; exact absurd hc (by decide)
   case m1 =>
    have:z1=a+a':=by omega
    subst this
    exact Qdw (hA.add hB)
   case m2 =>
    have h1:zNeg a≠zNeg a':=by simpa using hb0
    have hl:a'.natAbs≤a.natAbs:=by
     rcases Int.lt_trichotomy (a.natAbs:Int) (a'.natAbs:Int) with h2 | h2 | h2
     · have hc:=of_decide_eq_false hb1
       rw [Qcd h2] at hc; exact absurd (by decide) hc
     · omega
     · omega
    have:z2=a+a':=by
     rw [hz2,Int.natAbs_natCast,Qeb,hz1,QhH h1 hl]
    subst this
    exact Qdw (hA.add hB)
 · cases hs
end
end Go.Proofs.YtmbmbcamecfnkaaGreatDoor
namespace Go.Proofs.YtmbmbcamecfnkaaGreatDoor
open Go.RowKit
set_option linter.unusedVariables false
set_option maxRecDepth 100000
def Qju:Spec
 | [.f (.v (.int .u64 N)),.f (.v (.bool b))]=>some (some (0≤N∧N<18446744073709551616),.nm Int (zOf b N.toNat) fun z=>nP z 3)
 | _=>none
theorem wU64 (n:Int) (h0:0≤n) (h1:n<18446744073709551616):IntKind.u64.wrap n=n:=by simp [IntKind.wrap,IntKind.bits,IntKind.signed]; omega
section
variable {E : Env} (hU : Up E)
include hU
theorem QqE:Contract Tryz.prog E 80 Qju:=by
 refine Qaf [(154,Qrz Qip)] Tryz.ntmps80 Tryz.func80 (by kernel_rfl) (by kernel_rfl) hU ⟨(QlA hU).lent,trivial⟩ ?_
 intro xs p r hs hp
 unfold Qju at hs
 split at hs
 · rename_i N b
   cases hs
   obtain ⟨h0,h1⟩:=hp _ rfl
   refine ⟨[.f (.v (.int .u64 N)),.f (.v (.bool b))],[(2,.s ⟨List Nat × Nat,fun x=>⟨[(0,.f (.v (.int .u64 (x.2:Nat)))),(1,.f (.v (.bool b))),(4,.bp 0 0),(5,.tl 1 (.is .u32 (iN x.1)))],[.cells [.f (.v (.slice none 0 0)),.f (.v (.bool false))],.tail 190 1]⟩,
    fun x=>N.toNat=val 1000000000 x.1+1000000000 ^ x.1.length * x.2∧(∀ y∈x.1,y<1000000000)∧x.1.length≤64∧x.2<18446744073709551616∧(0<x.2→1000000000 ^ x.1.length≤N.toNat),fun x=>x.2⟩)],.cons (.refl _) (.cons (.refl _) .nil),rfl,fun hgx hg=>?_⟩
   refine Qag (p:=∃ (x1:List Nat × Nat),(((rfB (nlP)∧rfB (PV.f (Lf.v (Value.bool false)))∧True)∧True)∧SubB (PV.f (Lf.v (Value.int IntKind.u64 N))) (PV.f (Lf.v (Value.int IntKind.u64 (↑x1.snd:Int))))∧rfB (PV.f (Lf.v (Value.bool b)))∧rfB (PV.bp 0 0)∧QdA (PV.tl 1 (Lf.is IntKind.u32 (iN x1.fst)))∧True)∧(N.toNat=val 1000000000 x1.fst+1000000000 ^ x1.fst.length * x1.snd∧(∀ (y:Nat),y∈x1.fst→y<1000000000)∧x1.fst.length≤64∧x1.snd<18446744073709551616∧(0<x1.snd→1000000000 ^ x1.fst.length≤N.toNat))∧True∧∀ (z2:List Nat × Nat),N.toNat=val 1000000000 z2.fst+1000000000 ^ z2.fst.length * z2.snd∧(∀ (y:Nat),y∈z2.fst→y<1000000000)∧z2.fst.length≤64∧z2.snd<18446744073709551616∧(0<z2.snd→1000000000 ^ z2.fst.length≤N.toNat)→True→ifB (decide ((↑z2.snd:Int) > (0:Int))) (((iN z2.fst).length+1≤9223372036854775807∧((iN z2.fst).length+1) * 4≤140737488355328)∧∃ (x3:List Nat × Nat),(((rfB (nlP)∧rfB (PV.f (Lf.v (Value.bool false)))∧True)∧True)∧SubB (PV.f (Lf.v (Value.int IntKind.u64 (IntKind.u64.wrap ((↑z2.snd:Int).tdiv (1000000000:Int)))))) (PV.f (Lf.v (Value.int IntKind.u64 (↑x3.snd:Int))))∧rfB (PV.f (Lf.v (Value.bool b)))∧rfB (PV.bp 0 0)∧SubB (PV.tl 1 (Lf.is IntKind.u32 (iN z2.fst++[IntKind.u32.wrap ((↑z2.snd:Int).tmod (1000000000:Int))]))) (PV.tl 1 (Lf.is IntKind.u32 (iN x3.fst)))∧True)∧(N.toNat=val 1000000000 x3.fst+1000000000 ^ x3.fst.length * x3.snd∧(∀ (y:Nat),y∈x3.fst→y<1000000000)∧x3.fst.length≤64∧x3.snd<18446744073709551616∧(0<x3.snd→1000000000 ^ x3.fst.length≤N.toNat))∧True∧x3.snd.succ.le z2.snd) ((((∀ (x:Int),x∈iN z2.fst→(0:Int)≤x∧x<(4294967296:Int))∧True∧True)∧(iN z2.fst).length≤100000000)∧∀ (z3:Int),z3=zV b (List.map Int.toNat (iN z2.fst))→true=true∧Sub (PV.agg [PV.f (Lf.zd z3 ((iN z2.fst).length+1)),PV.f (Lf.zn z3)]) (PV.agg [PV.f (Lf.zd (zOf b N.toNat) 3),PV.f (Lf.zn (zOf b N.toNat))]))) (by kernel_rfl) ?_
   refine ⟨?x0,⟨?s0,⟨?s1,⟨trivial,fun z2=>fun hq0=>fun _=>Qae.2 ⟨fun hb1=>⟨?s2,⟨?x1,⟨⟨⟨⟨.refl _,⟨.refl _,trivial⟩⟩,trivial⟩,⟨?m0,⟨.refl _,⟨.refl _,⟨?m1,trivial⟩⟩⟩⟩⟩,⟨?s3,⟨trivial,?m2⟩⟩⟩⟩⟩,fun hb1=>⟨?s4,fun z3=>fun hz3=>⟨rfl,?m3⟩⟩⟩⟩⟩⟩⟩
   case x0=>exact ([],N.toNat)
   case x1=>exact (z2.1++[z2.2 % 1000000000],z2.2 / 1000000000)
   case s0=>exact ⟨⟨⟨.refl _,.refl _,trivial⟩,trivial⟩,QaN (by show N=(N.toNat:Int); omega),.refl _,.refl _,rfl,trivial⟩
   case s1=>exact ⟨by simp [val],by simp,by simp,by omega,fun h=>by simp at h ⊢; omega⟩
   all_goals obtain ⟨q1,q2,q3,q4,q5⟩:=hq0
   case s2=>rw [Qa1]; exact ⟨by omega,by omega⟩
   case m0 =>
    refine QaN ?_
    rw [show ((z2.2:Nat):Int).tdiv 1000000000=((z2.2 / 1000000000:Nat):Int) from rfl]
    exact wU64 _ (by omega) (by omega)
   case m1 =>
    refine QoY ?_
    rw [show ((z2.2:Nat):Int).tmod 1000000000=((z2.2 % 1000000000:Nat):Int) from rfl,wU _ (by omega) (by omega)]
    simp [iN]
   case s3 =>
    have h1:=of_decide_eq_true hb1
    have h2:=q5 (by omega)
    have h3:z2.1.length≤2:=by
     refine Decidable.byContradiction fun hc=>?_
     have:=Nat.pow_le_pow_right (n:=1000000000) (by omega) (show 3≤z2.1.length by omega)
     omega
    have h4:z2.2=z2.2 % 1000000000+1000000000 * (z2.2 / 1000000000):=by omega
    have h5:N.toNat=val 1000000000 (z2.1++[z2.2 % 1000000000])+1000000000 ^ (z2.1++[z2.2 % 1000000000]).length * (z2.2 / 1000000000):=by
     rw [Qb3,List.length_append,List.length_singleton,Nat.pow_succ,q1]
     conv=>lhs; rw [h4]
     simp only [val,Nat.mul_zero,Nat.add_zero]
     rw [Nat.mul_add,Nat.mul_assoc]
     omega
    refine ⟨h5,fun y hy=>?_,by simp; omega,by show z2.2 / 1000000000<_; omega,fun h6=>?_⟩
    · rcases List.mem_append.1 hy with hy | hy
      · exact q2 y hy
      · simp at hy; omega
    · have h7:1000000000 ^ (z2.1++[z2.2 % 1000000000]).length * 1≤1000000000 ^ (z2.1++[z2.2 % 1000000000]).length * (z2.2 / 1000000000):=Nat.mul_le_mul_left _ h6
      show 1000000000 ^ (z2.1++[z2.2 % 1000000000]).length≤_
      omega
   case m2=>have h1:=of_decide_eq_true hb1; show z2.2 / 1000000000+1≤z2.2; omega
   case s4 =>
    refine ⟨⟨fun x hx=>?_,trivial,trivial⟩,by rw [Qa1]; omega⟩
    obtain ⟨y,hy,rfl⟩:=List.mem_map.1 hx
    have:=q2 y hy
    have e:Int.ofNat y=(y:Int):=rfl
    exact ⟨by omega,by omega⟩
   case m3 =>
    have h1:=of_decide_eq_false hb1
    have h2:z2.2=0:=by omega
    rw [h2,Nat.mul_zero,Nat.add_zero] at q1
    have h3:z3=zOf b N.toNat:=by rw [hz3,show List.map Int.toNat (iN z2.1)=z2.1 from Qmw z2.1,q1]; rfl
    subst h3
    exact Qdw (by unfold ZB; rw [Qbn]; omega)
 · cases hs
theorem cDivN2:Contract Tryz.prog E 289 sDiv:=by
 refine Qaf [(95,Qio),(153,Qrd),(154,Qip),(152,QhB),(80,Qju),(89,Qec (fun _ _=>True)),(156,Qih),(81,Qjv)] Tryz.ntmps289 Tryz.func289 (by kernel_rfl) (by kernel_rfl) hU ⟨Qlz hU,cDivN,QlA hU,Qm8 hU,QqE hU,QsU hU,QqC hU,Qol hU,trivial⟩ ?_
 intro xs p r hs hp
 unfold sDiv at hs
 split at hs
 · rename_i x y
   split at hs
   · rename_i n l k j n' l' k' j' hx hy
     cases hs
     obtain ⟨hk,h0⟩:=hp _ rfl
     refine ⟨[rawP n l k,rawP n' l' k'],[],.cons (QaG hx) (.cons (QaG hy) .nil),rfl,fun hgx hg=>?_⟩
     obtain ⟨a1,a2,a3⟩:=Qbs hx hgx.1
     obtain ⟨b1,b2,b3⟩:=Qbs hy hgx.2.1
     refine Qag (p:=k≤100000000∧∀ (z1:Int),z1=zV n l→k'≤100000000∧∀ (z2:Int),z2=zV n' l'→(k+1≤10000000∧k'+1≤10000000∧vB (digs 1000000000 z2.natAbs)≠0)∧∀ (z3:Nat),z3=vB (digs 1000000000 z1.natAbs) / vB (digs 1000000000 z2.natAbs)→∀ (z4:Nat),z4=vB (digs 1000000000 z1.natAbs) % vB (digs 1000000000 z2.natAbs)→k+1+1≤100000000∧∀ (z5:Int),z5=zV (!zNeg z1==zNeg z2) (digs 1000000000 (↑z3:Int).natAbs)→k'+1+1≤100000000∧∀ (z6:Int),z6=zV (zNeg z2) (digs 1000000000 (↑z4:Int).natAbs)→ifB (!zNeg z1==zNeg z2) (ifB (!(↑(digs 1000000000 z6.natAbs).length:Int)==(0:Int)) (((0:Int)≤(1:Int)∧(1:Int)<(18446744073709551616:Int))∧∀ (z7:Int),z7=zOf true (Int.toNat (1:Int))→(z5=z5∧z7=z7∧k+1+1+1+3≤4500000∧True)∧∀ (z8:Int),z8=z5+z7→z6=z6∧∀ (z9:Int),z9=-z6→(z2=z2∧z9=z9∧k'+1+(k'+1+1+1)≤4500000∧True)∧∀ (z10:Int),z10=z2+z9→z8=z8∧z10=z10∧true=true∧Sub (PV.tup [PV.agg [PV.f (Lf.zn z8),PV.f (Lf.zd z8 (k+1+1+1+3+1))],PV.agg [PV.f (Lf.zn z10),PV.f (Lf.zd z10 (k'+1+(k'+1+1+1)+1))],PV.f (Lf.v (Value.int IntKind.i64 (0:Int)))]) (PV.tup [PV.agg [PV.f (Lf.zn ((zV n l).fdiv (zV n' l'))),PV.f (Lf.zd ((zV n l).fdiv (zV n' l')) (j+1))],PV.agg [PV.f (Lf.zn ((zV n l).fmod (zV n' l'))),PV.f (Lf.zd ((zV n l).fmod (zV n' l')) j')],PV.f (Lf.v (Value.int IntKind.i64 (0:Int)))])) (z5=z5∧z6=z6∧true=true∧Sub (PV.tup [PV.agg [PV.f (Lf.zn z5),PV.f (Lf.zd z5 (k+1+1+1))],PV.agg [PV.f (Lf.zn z6),PV.f (Lf.zd z6 (k'+1+1+1))],PV.f (Lf.v (Value.int IntKind.i64 (0:Int)))]) (PV.tup [PV.agg [PV.f (Lf.zn ((zV n l).fdiv (zV n' l'))),PV.f (Lf.zd ((zV n l).fdiv (zV n' l')) (j+1))],PV.agg [PV.f (Lf.zn ((zV n l).fmod (zV n' l'))),PV.f (Lf.zd ((zV n l).fmod (zV n' l')) j')],PV.f (Lf.v (Value.int IntKind.i64 (0:Int)))]))) (z5=z5∧z6=z6∧true=true∧Sub (PV.tup [PV.agg [PV.f (Lf.zn z5),PV.f (Lf.zd z5 (k+1+1+1))],PV.agg [PV.f (Lf.zn z6),PV.f (Lf.zd z6 (k'+1+1+1))],PV.f (Lf.v (Value.int IntKind.i64 (0:Int)))]) (PV.tup [PV.agg [PV.f (Lf.zn ((zV n l).fdiv (zV n' l'))),PV.f (Lf.zd ((zV n l).fdiv (zV n' l')) (j+1))],PV.agg [PV.f (Lf.zn ((zV n l).fmod (zV n' l'))),PV.f (Lf.zd ((zV n l).fmod (zV n' l')) j')],PV.f (Lf.v (Value.int IntKind.i64 (0:Int)))]))) (by kernel_rfl) ?_
     refine ⟨?s0,fun z1=>fun hz1=>⟨?s1,fun z2=>fun hz2=>⟨?s2,fun z3=>fun hz3=>fun z4=>fun hz4=>⟨?s3,fun z5=>fun hz5=>⟨?s4,fun z6=>fun hz6=>Qae.2 ⟨fun hb0=>Qae.2 ⟨fun hb1=>⟨?s5,fun z7=>fun hz7=>⟨?s6,fun z8=>fun hz8=>⟨rfl,fun z9=>fun hz9=>⟨?s7,fun z10=>fun hz10=>⟨rfl,⟨rfl,⟨rfl,?m0⟩⟩⟩⟩⟩⟩⟩,fun hb1=>⟨rfl,⟨rfl,⟨rfl,?m1⟩⟩⟩⟩,fun hb0=>⟨rfl,⟨rfl,⟨rfl,?m2⟩⟩⟩⟩⟩⟩⟩⟩⟩
     case s0=>omega
     case s1=>omega
     all_goals have hb:z2≠0:=(by rw [hz2]; exact h0)
     case s2=>rw [QcB]; exact ⟨by omega,by omega,by omega⟩
     case s3=>omega
     case s4=>omega
     case s5=>exact ⟨by omega,by omega⟩
     case s6=>exact ⟨rfl,rfl,by omega,trivial⟩
     case s7=>exact ⟨rfl,rfl,by omega,trivial⟩
     all_goals simp only [QcB] at hz3 hz4
     all_goals have h5:z5=zOf (zNeg z1 != zNeg z2) (z1.natAbs / z2.natAbs):=(by rw [hz5,Int.natAbs_natCast,Qeb,hz3,Qif])
     all_goals have h6:z6=zOf (zNeg z2) (z1.natAbs % z2.natAbs):=(by rw [hz6,Int.natAbs_natCast,Qeb,hz4])
     all_goals have hZ1:ZB (Int.fdiv z1 z2) (j+1):=ZB.fdiv (by rw [hz1]; exact a3) hb
     all_goals have hZ2:ZB (Int.fmod z1 z2) j':=ZB.fmod (by rw [hz2]; exact b3) hb
     all_goals rw [← hz1,← hz2]
     case m0 =>
      have hs:zNeg z1≠zNeg z2:=by simpa using hb0
      rw [QdZ,h6,Qbn] at hb1
      have hp:0<z1.natAbs % z2.natAbs:=by simp at hb1; omega
      obtain ⟨e1,e2⟩:=QjZ hb hs hp
      have e7:z7=-1:=hz7
      exact QcR (by rw [hz8,h5,e7]; exact e1) (by rw [hz10,hz9,h6]; exact e2) hZ1 hZ2
     case m1 =>
      rw [QdZ,h6,Qbn] at hb1
      obtain ⟨e1,e2⟩:=QhQ hb (show z1.natAbs % z2.natAbs=0 by simpa using hb1)
      exact QcR (h5.trans e1) (h6.trans e2) hZ1 hZ2
     case m2 =>
      obtain ⟨e1,e2⟩:=QmO hb (show zNeg z1=zNeg z2 by simpa using hb0)
      exact QcR (h5.trans e1) (h6.trans e2) hZ1 hZ2
   · cases hs
 · cases hs
end
end Go.Proofs.YtmbmbcamecfnkaaGreatDoor
namespace Go.Proofs.YtmbmbcamecfnkaaGreatDoor
open Go.RowKit
set_option linter.unusedVariables false
set_option maxRecDepth 100000
def QkH:Spec
 | [.agg [.f (.zd a k),.f (.zn z)],.agg [.f (.zd a' k'),.f (.zn z')]]=>some (some (a=z∧a'=z'∧k+k'≤4500000),.nm Int (z * z') fun y=>nP y (k+k'+1))
 | _=>none
def Qgv:Spec
 | [.f x]=>match limL x with
  | some (l,k)=>some (some (k≤100000000),.one (.f (.v (.bool (rgtB l)))))
  | none=>none
 | _=>none
theorem QqH {E:Env}:Contract Tryz.prog E 149 Qgv:=by
 intro xs p r hs hp w H vs hf hE hvs
 unfold Qgv at hs
 split at hs
 · rename_i x
   split at hs
   · rename_i l k hx
     cases hs
     have hk:=hp _ rfl
     obtain ⟨v,rfl,hv⟩:=QcT hvs
     obtain ⟨h1,h2,h3⟩:=Qca hx hv.rd hf
     refine (QjM v l w h1 (by omega)).mono ?_
     rintro e w' ⟨rfl,rfl⟩
     exact ⟨_,_,rfl,Ext.refl hf,.f (.v _ rfl)⟩
   · cases hs
 · cases hs
section
variable {E : Env} (hU : Up E)
include hU
theorem cNegN:Contract Tryz.prog E 82 sNeg:=by
 refine Qaf [(95,Qio),(156,Qih),(81,Qjv)] Tryz.ntmps82 Tryz.func82 (by kernel_rfl) (by kernel_rfl) hU ⟨Qlz hU,QqC hU,Qol hU,trivial⟩ ?_
 intro xs p r hs hp
 unfold sNeg at hs
 split at hs
 · rename_i x
   split at hs
   · rename_i n l k j hx
     cases hs
     have hk:=hp _ rfl
     refine ⟨[rawP n l k],[],.cons (QaG hx) .nil,rfl,fun hgx hg=>?_⟩
     obtain ⟨a1,a2,a3⟩:=Qbs hx hgx.1
     refine Qag (p:=k≤100000000∧∀ (z1:Int),z1=zV n l→z1=z1∧∀ (z2:Int),z2=-z1→z2=z2∧true=true∧Sub (PV.agg [PV.f (Lf.zn z2),PV.f (Lf.zd z2 (k+1))]) (PV.agg [PV.f (Lf.zn (-zV n l)),PV.f (Lf.zd (-zV n l) j)])) (by kernel_rfl) ?_
     refine ⟨?s0,fun z1=>fun hz1=>⟨rfl,fun z2=>fun hz2=>⟨rfl,⟨rfl,?m0⟩⟩⟩⟩
     case s0=>omega
     case m0 =>
      subst hz1 hz2
      exact Qcl a3.neg
   · cases hs
 · cases hs
theorem cOfNN:Contract Tryz.prog E 21 sOf:=by
 refine Qaf [(80,Qju),(81,Qjv)] Tryz.ntmps21 Tryz.func21 (by kernel_rfl) (by kernel_rfl) hU ⟨QqE hU,Qol hU,trivial⟩ ?_
 intro xs p r hs hp
 unfold sOf at hs
 split at hs
 · rename_i n
   cases hs
   have hk:=hp _ rfl
   refine ⟨[.f (.v (.int .i64 n))],[],.cons (.refl _) .nil,rfl,fun hgx hg=>?_⟩
   refine Qag (p:=ifB (decide (n<(0:Int))) (((0:Int)≤IntKind.u64.wrap ((0:Int) - IntKind.u64.wrap n)∧IntKind.u64.wrap ((0:Int) - IntKind.u64.wrap n)<(18446744073709551616:Int))∧∀ (z1:Int),z1=zOf true (IntKind.u64.wrap ((0:Int) - IntKind.u64.wrap n)).toNat→z1=z1∧true=true∧Sub (PV.agg [PV.f (Lf.zn z1),PV.f (Lf.zd z1 3)]) (PV.agg [PV.f (Lf.zn n),PV.f (Lf.zd n 3)])) (((0:Int)≤IntKind.u64.wrap n∧IntKind.u64.wrap n<(18446744073709551616:Int))∧∀ (z1:Int),z1=zOf false (IntKind.u64.wrap n).toNat→z1=z1∧true=true∧Sub (PV.agg [PV.f (Lf.zn z1),PV.f (Lf.zd z1 3)]) (PV.agg [PV.f (Lf.zn n),PV.f (Lf.zd n 3)]))) (by kernel_rfl) ?_
   refine Qae.2 ⟨fun hb0=>⟨?s0,fun z1=>fun hz1=>⟨rfl,⟨rfl,?m0⟩⟩⟩,fun hb0=>⟨?s1,fun z1=>fun hz1=>⟨rfl,⟨rfl,?m1⟩⟩⟩⟩
   case s0=>simp [IntKind.wrap,IntKind.bits,IntKind.signed]; omega
   case s1=>simp [IntKind.wrap,IntKind.bits,IntKind.signed]; omega
   case m0 =>
    have h1:=of_decide_eq_true hb0
    have e:z1=n:=by
     rw [hz1,QdH]
     simp [IntKind.wrap,IntKind.bits,IntKind.signed]
     omega
    subst e
    exact .refl _
   case m1 =>
    have h1:=of_decide_eq_false hb0
    have e:z1=n:=by
     rw [hz1,Qa5]
     simp [IntKind.wrap,IntKind.bits,IntKind.signed]
     omega
    subst e
    exact .refl _
 · cases hs
theorem cCmpNN:Contract Tryz.prog E 35 sCmp:=by
 refine Qaf [(95,Qio),(96,Qpl)] Tryz.ntmps35 Tryz.func35 (by kernel_rfl) (by kernel_rfl) hU ⟨Qlz hU,Quz hU,trivial⟩ ?_
 intro xs p r hs hp
 unfold sCmp at hs
 split at hs
 · rename_i x y
   split at hs
   · rename_i n l k j n' l' k' j' hx hy
     cases hs
     have hk:=hp _ rfl
     refine ⟨[rawP n l k,rawP n' l' k'],[],.cons (QaG hx) (.cons (QaG hy) .nil),rfl,fun hgx hg=>?_⟩
     refine Qag (p:=k≤100000000∧∀ (z1:Int),z1=zV n l→k'≤100000000∧∀ (z2:Int),z2=zV n' l'→ifB (!zNeg z1==zNeg z2) (ifB (zNeg z1) (true=true∧Sub (PV.f (Lf.v (Value.int IntKind.i64 (-1:Int)))) (PV.f (Lf.v (Value.int IntKind.i64 (cmpI (zV n l) (zV n' l')))))) (ifB (!zNeg z1==zNeg z2) (true=true∧Sub (PV.f (Lf.v (Value.int IntKind.i64 (1:Int)))) (PV.f (Lf.v (Value.int IntKind.i64 (cmpI (zV n l) (zV n' l')))))) (ifB (zNeg z1) ((k'+1≤10000000∧k+1≤10000000)∧true=true∧Sub (PV.f (Lf.v (Value.int IntKind.i64 (cmpI (↑z2.natAbs:Int) (↑z1.natAbs:Int))))) (PV.f (Lf.v (Value.int IntKind.i64 (cmpI (zV n l) (zV n' l')))))) ((k+1≤10000000∧k'+1≤10000000)∧true=true∧Sub (PV.f (Lf.v (Value.int IntKind.i64 (cmpI (↑z1.natAbs:Int) (↑z2.natAbs:Int))))) (PV.f (Lf.v (Value.int IntKind.i64 (cmpI (zV n l) (zV n' l'))))))))) (ifB (!zNeg z1==zNeg z2) (true=true∧Sub (PV.f (Lf.v (Value.int IntKind.i64 (1:Int)))) (PV.f (Lf.v (Value.int IntKind.i64 (cmpI (zV n l) (zV n' l')))))) (ifB (zNeg z1) ((k'+1≤10000000∧k+1≤10000000)∧true=true∧Sub (PV.f (Lf.v (Value.int IntKind.i64 (cmpI (↑z2.natAbs:Int) (↑z1.natAbs:Int))))) (PV.f (Lf.v (Value.int IntKind.i64 (cmpI (zV n l) (zV n' l')))))) ((k+1≤10000000∧k'+1≤10000000)∧true=true∧Sub (PV.f (Lf.v (Value.int IntKind.i64 (cmpI (↑z1.natAbs:Int) (↑z2.natAbs:Int))))) (PV.f (Lf.v (Value.int IntKind.i64 (cmpI (zV n l) (zV n' l'))))))))) (by kernel_rfl) ?_
     refine ⟨?s0,fun z1=>fun hz1=>⟨?s1,fun z2=>fun hz2=>Qae.2 ⟨fun hb0=>Qae.2 ⟨fun hb1=>⟨rfl,?m0⟩,fun hb1=>Qae.2 ⟨fun hb2=>⟨rfl,?m1⟩,fun hb2=>Qae.2 ⟨fun hb3=>⟨?s2,⟨rfl,?m2⟩⟩,fun hb3=>⟨?s3,⟨rfl,?m3⟩⟩⟩⟩⟩,fun hb0=>Qae.2 ⟨fun hb4=>⟨rfl,?m4⟩,fun hb4=>Qae.2 ⟨fun hb5=>⟨?s4,⟨rfl,?m5⟩⟩,fun hb5=>⟨?s5,⟨rfl,?m6⟩⟩⟩⟩⟩⟩⟩
     case s0=>omega
     case s1=>omega
     all_goals try rw [← hz1,← hz2]
     all_goals simp only [zNeg,Bool.not_eq_true',decide_eq_true_eq,decide_eq_false_iff_not,Bool.not_eq_false',beq_eq_false_iff_ne,ne_eq,beq_iff_eq,decide_eq_decide] at *
     all_goals first
      | exact ⟨by omega,by omega⟩
      | (refine QoV ?_
         unfold cmpI
         repeat' split
         all_goals omega)
   · cases hs
 · cases hs
theorem Qup:Contract Tryz.prog E 94 QkH:=by
 refine Qaf [(182,Qtw),(154,Qip)] Tryz.ntmps94 Tryz.func94 (by kernel_rfl) (by kernel_rfl) hU ⟨cMulN,QlA hU,trivial⟩ ?_
 intro xs p r hs hp
 unfold QkH at hs
 split at hs
 · rename_i a k z a' k' z'
   cases hs
   obtain ⟨rfl,rfl,hk⟩:=hp _ rfl
   refine ⟨[nP a k,nP a' k'],[],.cons (.refl _) (.cons (.refl _) .nil),rfl,fun hgx hg=>?_⟩
   refine Qag (p:=Qa3 [(digs 1000000000 a.natAbs,k),(digs 1000000000 a'.natAbs,k')]≤10000000∧∀ (z1:Nat),z1=QeC [(digs 1000000000 a.natAbs,k),(digs 1000000000 a'.natAbs,k')] 1→Qa3 [(digs 1000000000 a.natAbs,k),(digs 1000000000 a'.natAbs,k')]+1≤100000000∧∀ (z2:Int),z2=zV (!zNeg a==zNeg a') (digs 1000000000 (↑z1:Int).natAbs)→true=true∧Sub (PV.agg [PV.f (Lf.zd z2 (Qa3 [(digs 1000000000 a.natAbs,k),(digs 1000000000 a'.natAbs,k')]+1+1)),PV.f (Lf.zn z2)]) (PV.agg [PV.f (Lf.zd (a * a') (k+k'+1)),PV.f (Lf.zn (a * a'))])) (by kernel_rfl) ?_
   refine ⟨?s0,fun z1=>fun hz1=>⟨?s1,fun z2=>fun hz2=>⟨rfl,?m0⟩⟩⟩
   all_goals have hA:ZB a k:=hgx.1.1.1
   all_goals have hB:ZB a' k':=hgx.2.1.1.1
   all_goals (try simp only [Qa3,QeC,QcB,Nat.one_mul] at *)
   all_goals first | omega | skip
   case m0 =>
    have:z2=a * a':=by
     rw [hz2,Int.natAbs_natCast,Qeb,hz1,Qif,QoH]
    subst this
    exact Qdw ((hA.mul hB).mono (by omega))
 · cases hs
theorem Quw:Contract Tryz.prog E 73 Qgw:=by
 refine Qaf [(149,Qgv)] Tryz.ntmps73 Tryz.func73 (by kernel_rfl) (by kernel_rfl) hU ⟨QqH,trivial⟩ ?_
 intro xs p r hs hp
 unfold Qgw at hs
 split at hs
 · rename_i x
   split at hs
   · rename_i n l k j hx
     cases hs
     have hk:=hp _ rfl
     refine ⟨[rawP n l k],[],.cons (QaG hx) .nil,rfl,fun hgx hg=>?_⟩
     refine Qag (p:=k≤100000000∧ifB (rgtB l) (ifB (!n) (true=true∧Sub (PV.f (Lf.v (Value.bool true))) (PV.f (Lf.v (Value.bool (Qak n l))))) (true=true∧Sub (PV.f (Lf.v (Value.bool (decide ((↑l.length:Int) > (0:Int)))))) (PV.f (Lf.v (Value.bool (Qak n l)))))) (true=true∧Sub (PV.f (Lf.v (Value.bool false))) (PV.f (Lf.v (Value.bool (Qak n l)))))) (by kernel_rfl) ?_
     refine ⟨?s0,Qae.2 ⟨fun hb0=>Qae.2 ⟨fun hb1=>⟨rfl,?m0⟩,fun hb1=>⟨rfl,?m1⟩⟩,fun hb0=>⟨rfl,?m2⟩⟩⟩
     case s0=>exact hk
     case m0 =>
      refine QbZ ?_
      unfold Qak
      rw [hb0,hb1]; rfl
     case m1 =>
      refine QbZ ?_
      unfold Qak
      rw [hb0,hb1,Bool.true_and,Bool.false_or,Bool.eq_iff_iff,decide_eq_true_eq,decide_eq_true_eq]
      omega
     case m2 =>
      refine QbZ ?_
      unfold Qak
      rw [hb0]; rfl
   · cases hs
 · cases hs
end
theorem Qr6:Contract Tryz.prog EZ 223 Qpc:=by
 intro xs p r hs hp w H vs hf hE hvs
 unfold Qpc at hs
 split at hs
 · rename_i x
   split at hs
   · rename_i l k hx
     cases hs
     have hk:=hp _ rfl
     obtain ⟨v,rfl,hv⟩:=QcT hvs
     obtain ⟨h1,h2,h3⟩:=Qca hx hv.rd hf
     refine (QkY v l w h1 (by omega) h3 hE.1).mono ?_
     rintro e w' ⟨rfl,hbl⟩
     exact ⟨_,_,rfl,QbS hf hbl,.f (.v _ rfl)⟩
   · cases hs
 · cases hs
theorem Qur:Contract Tryz.prog EZ 142 Qra:=by
 refine Qaf [(95,Qio),(223,Qpc)] Tryz.ntmps142 Tryz.func142 (by kernel_rfl) (by kernel_rfl) EZ.up ⟨Qlz EZ.up,Qr6,trivial⟩ ?_
 intro xs p r hs hp
 unfold Qra at hs
 split at hs
 · rename_i x
   split at hs
   · rename_i n l k j hx
     cases hs
     have hk:=hp _ rfl
     refine ⟨[rawP n l k],[],.cons (QaG hx) .nil,rfl,fun hgx hg=>?_⟩
     refine Qag (p:=k≤100000000∧∀ (z1:Int),z1=zV n l→ifB (zNeg z1) (k+1≤100000000∧(↑(1+(ByteArray.mk (Lib.decDigits (vB (digs 1000000000 z1.natAbs))).toArray).size):Int)≤IntKind.i64.max∧true=true∧Sub (PV.f (Lf.v (Value.string (ByteArray.mk #[(45:UInt8)]++ByteArray.mk (Lib.decDigits (vB (digs 1000000000 z1.natAbs))).toArray)))) (PV.f (Lf.v (Value.string (ByteArray.mk (QbQ (zV n l)).toArray))))) (k+1≤100000000∧true=true∧Sub (PV.f (Lf.v (Value.string (ByteArray.mk (Lib.decDigits (vB (digs 1000000000 z1.natAbs))).toArray)))) (PV.f (Lf.v (Value.string (ByteArray.mk (QbQ (zV n l)).toArray)))))) (by kernel_rfl) ?_
     refine ⟨?s0,fun z1=>fun hz1=>Qae.2 ⟨fun hb0=>⟨?s1,⟨?s2,⟨rfl,?m0⟩⟩⟩,fun hb0=>⟨?s3,⟨rfl,?m1⟩⟩⟩⟩
     case s0=>omega
     case s1=>omega
     case s3=>omega
     all_goals try rw [← hz1]
     all_goals try rw [QcB]
     case s2 =>
      have h1:(Lib.decDigits z1.natAbs).length≤9 * (k+1)+1:=Que (k:=k+1) (by
       rw [hz1]
       exact (Qbs hx hgx.1).2.2.mono (pvR_j hx))
      have h2:IntKind.i64.max=9223372036854775807:=by decide
      rw [h2]
      simp [ByteArray.size]
      omega
     case m0=>rw [Qow hb0]; exact .refl _
     case m1=>rw [QbK hb0]; exact .refl _
   · cases hs
 · cases hs
end Go.Proofs.YtmbmbcamecfnkaaGreatDoor
namespace Go.Proofs.YtmbmbcamecfnkaaGreatDoor
open Go.RowKit
set_option linter.unusedVariables false
set_option maxRecDepth 100000
def QtA:Spec
 | [.agg [.f (.zd a k),.f (.zn z)],.agg [.f (.zd a' k'),.f (.zn z')]]=>some (some (a=z∧a'=z'∧k+k'≤4500000),.nm Int (gcd2 z z') fun y=>nP y (k+k'+1))
 | _=>none
theorem Qsw:Sub (.agg [.f (.v (.slice none 0 0)),.f (.v (.bool false))]) (nP 0 0):=⟨fun H v hv=>by
 obtain ⟨vs,rfl,h1⟩:=PRs.of_agg hv
 match vs,h1.1 with
 | [p,q],_ =>
  have a1:=(h1.2 1 _ _ rfl rfl).val
  subst a1
  exact (PRs.cons ((QfN 0).out _ _ (h1.2 0 _ _ rfl rfl)) (.cons (.f (.zn 0)) .nil)).agg⟩
def zsB (l:List ((Bool × List Nat) × Nat × Nat)):List ((Bool × List Nat) × Nat × Nat):=(zsOf l).map fun e=>((e.1,e.2.1),e.2.2,e.2.2+1)
theorem QfK (x:(Bool × List Nat) × Nat × Nat) (l:List ((Bool × List Nat) × Nat × Nat)):zsB (x::l)=((x.1.1,x.1.2),x.2.1,x.2.1+1)::zsB l:=rfl
theorem Qoq:∀ (l:List ((Bool × List Nat) × Nat × Nat)) (a:Int),sumR (zsB l) a=sumR l a
 | [],_=>rfl
 | x::l,a=>by rw [QfK,sumR,sumR,Qoq l]
theorem QlJ:∀ (l:List ((Bool × List Nat) × Nat × Nat)) (a:Int),Qbo (zsB l) a=Qbo l a
 | [],_=>rfl
 | x::l,a=>by rw [QfK,Qbo,Qbo,QlJ l]
theorem Qor:∀ (l:List ((Bool × List Nat) × Nat × Nat)) (a:Int),gcdR (zsB l) a=gcdR l a
 | [],_=>rfl
 | x::l,a=>by rw [QfK,gcdR,gcdR,Qor l]
theorem QfJ:∀ (l:List ((Bool × List Nat) × Nat × Nat)),Qb0 (zsB l)=Qb0 l
 | []=>rfl
 | x::l=>by rw [QfK,Qb0,Qb0,QfJ l]
def Qtp:Spec
 | [u,.f (.v (.func (.func g) x y)),.f L]=>match QbC L,Nat.beq g 89,x.size,y.size with
  | some l,true,0,0=>some (some (Sub u (nP 0 0)∧Qb0 l≤2000000),.nm Int (sumR l 0) fun r=>zP r (bndS l 0))
  | _,_,_,_=>none
 | _=>none
def Qtn:Spec
 | [u,.f (.v (.func (.func g) x y)),.f L]=>match QbC L,Nat.beq g 94,x.size,y.size with
  | some l,true,0,0=>some (some (Sub u (nP 1 3)∧Qb0 l≤2000000),.nm Int (Qbo l 1) fun r=>zP r (bndP l 1))
  | _,_,_,_=>none
 | _=>none
def Qto:Spec
 | [u,.f (.v (.func (.func g) x y)),.f L]=>match QbC L,Nat.beq g 151,x.size,y.size with
  | some l,true,0,0=>some (some (Sub u (nP 0 0)∧Qb0 l≤2000000),.nm Int (gcdR l 0) fun r=>zP r (bndS l 0))
  | _,_,_,_=>none
 | _=>none
section
variable {E : Env} (hU : Up E)
include hU
theorem cGcdF:Contract Tryz.prog E 151 QtA:=by
 refine Qaf [(152,QhB),(153,Qrd),(154,Qip)] Tryz.ntmps151 Tryz.func151 (by kernel_rfl) (by kernel_rfl) hU ⟨Qm8 hU,cDivN,QlA hU,trivial⟩ ?_
 intro xs p r hs hp
 unfold QtA at hs
 split at hs
 · rename_i a k z a' k' z'
   cases hs
   obtain ⟨rfl,rfl,hk⟩:=hp _ rfl
   refine ⟨[nP a k,nP a' k'],[(1,.s ⟨Int × Int,fun x=>⟨[(2,.bp 0 0),(3,.bp 1 0),(4,.bp 2 0)],[.cells [.f (.zd x.1 (k+k')),.f (.zn x.1)],.cells [.f (.zd x.2 (k+k')),.f (.zn x.2)],.cells [.f (.v (.slice none 0 0)),.f (.v (.bool false))]]⟩,
     fun x=>ZB x.1 (k+k')∧ZB x.2 (k+k')∧gcd2 x.1 x.2=gcd2 a a',fun x=>x.2.natAbs⟩)],.cons (.refl _) (.cons (.refl _) .nil),rfl,fun hgx hg=>?_⟩
   have hA:ZB a k:=hgx.1.1.1
   have hB:ZB a' k':=hgx.2.1.1.1
   refine Qag (p:=∃ (x1:Int × Int),(((SubB (PV.f (Lf.zd a k)) (PV.f (Lf.zd x1.fst (k+k')))∧SubB (PV.f (Lf.zn a)) (PV.f (Lf.zn x1.fst))∧True)∧(SubB (PV.f (Lf.zd a' k')) (PV.f (Lf.zd x1.snd (k+k')))∧SubB (PV.f (Lf.zn a')) (PV.f (Lf.zn x1.snd))∧True)∧(rfB (nlP)∧rfB (PV.f (Lf.v (Value.bool false)))∧True)∧True)∧rfB (PV.bp 0 0)∧rfB (PV.bp 1 0)∧rfB (PV.bp 2 0)∧True)∧(ZB x1.fst (k+k')∧ZB x1.snd (k+k')∧gcd2 x1.fst x1.snd=gcd2 a a')∧True∧∀ (z2:Int × Int),ZB z2.fst (k+k')∧ZB z2.snd (k+k')∧gcd2 z2.fst z2.snd=gcd2 a a'→True→ifB (!(↑(digs 1000000000 z2.snd.natAbs).length:Int)==(0:Int)) ((k+k'≤10000000∧k+k'≤10000000∧vB (digs 1000000000 z2.snd.natAbs)≠0)∧∀ (z3:Nat),z3=vB (digs 1000000000 z2.fst.natAbs) / vB (digs 1000000000 z2.snd.natAbs)→∀ (z4:Nat),z4=vB (digs 1000000000 z2.fst.natAbs) % vB (digs 1000000000 z2.snd.natAbs)→k+k'+1≤100000000∧∀ (z5:Int),z5=zV false (digs 1000000000 (↑z4:Int).natAbs)→∃ (x6:Int × Int),(((SubB (PV.f (Lf.zd z2.snd (k+k'))) (PV.f (Lf.zd x6.fst (k+k')))∧SubB (PV.f (Lf.zn z2.snd)) (PV.f (Lf.zn x6.fst))∧True)∧(SubB (PV.f (Lf.zd z5 (k+k'+1+1))) (PV.f (Lf.zd x6.snd (k+k')))∧SubB (PV.f (Lf.zn z5)) (PV.f (Lf.zn x6.snd))∧True)∧(rfB (nlP)∧rfB (PV.f (Lf.v (Value.bool false)))∧True)∧True)∧rfB (PV.bp 0 0)∧rfB (PV.bp 1 0)∧rfB (PV.bp 2 0)∧True)∧(ZB x6.fst (k+k')∧ZB x6.snd (k+k')∧gcd2 x6.fst x6.snd=gcd2 a a')∧True∧x6.snd.natAbs.succ.le z2.snd.natAbs) (k+k'≤100000000∧∀ (z3:Int),z3=zV false (digs 1000000000 z2.fst.natAbs)→true=true∧Sub (PV.agg [PV.f (Lf.zd z3 (k+k'+1)),PV.f (Lf.zn z3)]) (PV.agg [PV.f (Lf.zd (gcd2 a a') (k+k'+1)),PV.f (Lf.zn (gcd2 a a'))]))) (by kernel_rfl) ?_
   refine ⟨?x0,⟨⟨⟨⟨?m0,⟨?m1,trivial⟩⟩,⟨⟨?m2,⟨?m3,trivial⟩⟩,⟨⟨.refl _,⟨.refl _,trivial⟩⟩,trivial⟩⟩⟩,⟨.refl _,⟨.refl _,⟨.refl _,trivial⟩⟩⟩⟩,⟨?s0,⟨trivial,fun z2=>fun hq0=>fun _=>Qae.2 ⟨fun hb1=>⟨?s1,fun z3=>fun hz3=>fun z4=>fun hz4=>⟨?s2,fun z5=>fun hz5=>⟨?x1,⟨⟨⟨⟨?m4,⟨?m5,trivial⟩⟩,⟨⟨?m6,⟨?m7,trivial⟩⟩,⟨⟨.refl _,⟨.refl _,trivial⟩⟩,trivial⟩⟩⟩,⟨.refl _,⟨.refl _,⟨.refl _,trivial⟩⟩⟩⟩,⟨?s3,⟨trivial,?m8⟩⟩⟩⟩⟩⟩,fun hb1=>⟨?s4,fun z3=>fun hz3=>⟨rfl,?m9⟩⟩⟩⟩⟩⟩⟩
   case x0=>exact (a,a')
   case x1=>exact (z2.2,z5)
   case m0=>exact Qai rfl (hA.mono (by omega))
   case m1=>exact .refl _
   case m2=>exact Qai rfl (hB.mono (by omega))
   case m3=>exact .refl _
   case s0=>exact ⟨hA.mono (by omega),hB.mono (by omega),rfl⟩
   case m4=>exact Qai rfl hq0.2.1
   case m5=>exact .refl _
   case m7=>exact .refl _
   case s2=>omega
   case s4=>omega
   all_goals obtain ⟨q1,q2,q3⟩:=hq0
   all_goals rw [QdZ] at hb1
   case s1=>rw [QcB]; exact ⟨by omega,by omega,by simpa using hb1⟩
   case m9 =>
    have h0:z2.2.natAbs=0:=by simpa using hb1
    have:z3=gcd2 a a':=by
     rw [hz3,Qeb,Qa5,← q3]
     unfold gcd2
     rw [h0,Nat.gcd_zero_right]
    subst this
    exact .refl _
   all_goals have hne:z2.2.natAbs≠0:=(by simpa using hb1)
   all_goals have hlt:z5.natAbs<z2.2.natAbs:=(by
    rw [hz5,Int.natAbs_natCast,Qeb,Qa5,Int.natAbs_natCast,hz4,QcB,QcB]
    exact Nat.mod_lt _ (Nat.pos_of_ne_zero hne))
   all_goals have hZ:ZB z5 (k+k'):=(by unfold ZB at q2 ⊢; omega)
   case m6=>exact Qai rfl hZ
   case s3 =>
    refine ⟨q2,hZ,?_⟩
    have e:z5.natAbs=z2.1.natAbs % z2.2.natAbs:=by rw [hz5,Int.natAbs_natCast,Qeb,Qa5,Int.natAbs_natCast,hz4,QcB,QcB]
    rw [← q3]
    unfold gcd2
    rw [e]
    exact congrArg Int.ofNat ((Nat.gcd_comm _ _).trans ((Nat.gcd_rec _ _).symm.trans (Nat.gcd_comm _ _)))
   case m8=>exact hlt
 · cases hs
theorem cTogA:Contract Tryz.prog E 88 Qtp:=by
 refine Qaf [(95,Qio),(89,Qec (fun _ _=>True)),(81,Qjv)] Tryz.ntmps88 Tryz.func88 (by kernel_rfl) (by kernel_rfl) hU ⟨Qlz hU,QsU hU,Qol hU,trivial⟩ ?_
 intro xs p r hs hp
 unfold Qtp at hs
 split at hs
 · rename_i u g x y L
   split at hs
   · rename_i l hl hg hx hy
     cases hs
     obtain ⟨hu,hk⟩:=hp _ rfl
     obtain rfl:x=#[]:=Array.eq_empty_of_size_eq_zero hx
     obtain rfl:y=#[]:=Array.eq_empty_of_size_eq_zero hy
     obtain rfl:=Nat.eq_of_beq_eq_true hg
     have hsub:=Qdb hl
     have hL:(zsOf l).length=l.length:=by simp [zsOf]
     refine ⟨[nP 0 0,.f (.v (.func (.func 89) #[] #[])),.f (.zs (zsOf l))],[(2,.s ⟨Nat × Int,fun x=>⟨[(1,.f (.v (.func (.func 89) #[] #[]))),(3,.bp 0 0),(6,.bp 1 0),(9,.f (.zs (zsOf l))),(10,.f (.v (.int .i64 l.length))),(11,.f (.v (.int .i64 (x.1:Nat))))],[.cells [.f (.zd x.2 (bndS l 0)),.f (.zn x.2)],.cells [.f (.v (.bool false)),.f (.v (.slice none 0 0))]]⟩,
      fun x=>x.1≤l.length∧x.2=sumR (l.take x.1) 0,fun x=>l.length - x.1⟩)],(.cons hu (.cons (.refl _) (.cons hsub .nil))),rfl,fun hgx hg=>?_⟩
     have hgood:=Qbd hl hgx.2.2.1.2
     have hbnd:∀ i,ZB (sumR (l.take i) 0) (bndS l 0):=fun i=>(Qkv _ 0 0 (ZB.zero 0) fun x hx=>(hgood x (List.mem_of_mem_take hx)).2.2).mono (QeY l 0 i)
     have hbl:=QeZ l 0 (Qev hl)
     have hll:=QcE l
     refine Qag (p:=∃ (x1:Nat × Int),(((SubB (PV.f (Lf.zd (0:Int) 0)) (PV.f (Lf.zd x1.snd (bndS l 0)))∧SubB (PV.f (Lf.zn (0:Int))) (PV.f (Lf.zn x1.snd))∧True)∧(rfB (PV.f (Lf.v (Value.bool false)))∧rfB (nlP)∧True)∧True)∧rfB (PV.f (Lf.v (Value.func (Fn.func 89) #[] #[])))∧rfB (PV.bp 0 0)∧rfB (PV.bp 1 0)∧rfB (PV.f (Lf.zs (zsOf l)))∧SubB (PV.f (Lf.v (Value.int IntKind.i64 (↑(zsOf l).length:Int)))) (PV.f (Lf.v (Value.int IntKind.i64 (↑l.length:Int))))∧SubB (PV.f (Lf.v (Value.int IntKind.i64 (0:Int)))) (PV.f (Lf.v (Value.int IntKind.i64 (↑x1.fst:Int))))∧True)∧(x1.fst≤l.length∧x1.snd=sumR (List.take x1.fst l) (0:Int))∧True∧∀ (z2:Nat × Int),z2.fst≤l.length∧z2.snd=sumR (List.take z2.fst l) (0:Int)→True→ifB (decide ((↑z2.fst:Int)<(↑l.length:Int))) (((0:Int)≤(↑z2.fst:Int)∧(↑z2.fst:Int)<(↑(zsOf l).length:Int))∧((zsOf l).getD (↑z2.fst:Int).toNat (false,[],0)).snd.snd≤100000000∧∀ (z3:Int),z3=zV ((zsOf l).getD (↑z2.fst:Int).toNat (false,[],0)).fst ((zsOf l).getD (↑z2.fst:Int).toNat (false,[],0)).snd.fst→(z2.snd=z2.snd∧z3=z3∧bndS l 0+(((zsOf l).getD (↑z2.fst:Int).toNat (false,[],0)).snd.snd+1)≤4500000∧True)∧∀ (z4:Int),z4=z2.snd+z3→∃ (x5:Nat × Int),(((SubB (PV.f (Lf.zd z4 (bndS l 0+(((zsOf l).getD (↑z2.fst:Int).toNat (false,[],0)).snd.snd+1)+1))) (PV.f (Lf.zd x5.snd (bndS l 0)))∧SubB (PV.f (Lf.zn z4)) (PV.f (Lf.zn x5.snd))∧True)∧(rfB (PV.f (Lf.v (Value.bool false)))∧rfB (nlP)∧True)∧True)∧rfB (PV.f (Lf.v (Value.func (Fn.func 89) #[] #[])))∧rfB (PV.bp 0 0)∧rfB (PV.bp 1 0)∧rfB (PV.f (Lf.zs (zsOf l)))∧rfB (PV.f (Lf.v (Value.int IntKind.i64 (↑l.length:Int))))∧SubB (PV.f (Lf.v (Value.int IntKind.i64 (IntKind.i64.wrap ((↑z2.fst:Int)+(1:Int)))))) (PV.f (Lf.v (Value.int IntKind.i64 (↑x5.fst:Int))))∧True)∧(x5.fst≤l.length∧x5.snd=sumR (List.take x5.fst l) (0:Int))∧True∧(l.length - x5.fst).succ.le (l.length - z2.fst)) (z2.snd=z2.snd∧true=true∧Sub (PV.agg [PV.f (Lf.zn z2.snd),PV.f (Lf.zd z2.snd (bndS l 0))]) (PV.agg [PV.f (Lf.zn (sumR l (0:Int))),PV.f (Lf.zd (sumR l (0:Int)) (bndS l 0))]))) (by kernel_rfl) ?_
     refine ⟨?x0,⟨⟨⟨⟨?m0,⟨?m1,trivial⟩⟩,⟨⟨.refl _,⟨.refl _,trivial⟩⟩,trivial⟩⟩,⟨.refl _,⟨.refl _,⟨.refl _,⟨.refl _,⟨?m2,⟨?m3,trivial⟩⟩⟩⟩⟩⟩⟩,⟨?s0,⟨trivial,fun z2=>fun hq0=>fun _=>Qae.2 ⟨fun hb1=>⟨?s1,⟨?s2,fun z3=>fun hz3=>⟨?s3,fun z4=>fun hz4=>⟨?x1,⟨⟨⟨⟨?m4,⟨?m5,trivial⟩⟩,⟨⟨.refl _,⟨.refl _,trivial⟩⟩,trivial⟩⟩,⟨.refl _,⟨.refl _,⟨.refl _,⟨.refl _,⟨.refl _,⟨?m6,trivial⟩⟩⟩⟩⟩⟩⟩,⟨?s4,⟨trivial,?m7⟩⟩⟩⟩⟩⟩⟩,fun hb1=>⟨rfl,⟨rfl,?m8⟩⟩⟩⟩⟩⟩⟩
     case x0=>exact (0,0)
     case x1=>exact (z2.1+1,z4)
     case m0=>exact Qai rfl (ZB.zero _)
     case m1=>exact .refl _
     case m2=>rw [hL]; exact .refl _
     case m3=>exact .refl _
     case s0=>exact ⟨Nat.zero_le _,rfl⟩
     case m8 =>
      have h1:=of_decide_eq_false hb1
      have h2:z2.1=l.length:=by omega
      have h3:=hq0.2
      rw [h2,List.take_of_length_le (Nat.le_refl _)] at h3
      rw [h3]; exact .refl _
     all_goals have h1:=of_decide_eq_true hb1
     all_goals have hil:z2.1<l.length:=(by omega)
     all_goals have hat:=Qe4 hil
     all_goals have hmem:=List.getElem_mem hil
     all_goals have hsz:=QcD _ hmem
     all_goals simp only [Int.toNat_natCast,hat] at *
     case s1=>exact ⟨by omega,by omega⟩
     case s2=>omega
     case s3=>exact ⟨by trivial,by trivial,by omega,trivial⟩
     all_goals have hz:z4=sumR (l.take (z2.1+1)) 0:=(by rw [hz4,hz3,QoO l z2.1 hil,← hq0.2])
     case m4=>exact Qai rfl (by rw [hz]; exact hbnd _)
     case m5=>exact .refl _
     case m6=>exact Qdk (by omega)
     case s4=>exact ⟨hil,hz⟩
     case m7=>show l.length - (z2.1+1)+1≤l.length - z2.1; omega
   · cases hs
 · cases hs
theorem cTogM:Contract Tryz.prog E 88 Qtn:=by
 refine Qaf [(95,Qio),(94,QkH),(81,Qjv)] Tryz.ntmps88 Tryz.func88 (by kernel_rfl) (by kernel_rfl) hU ⟨Qlz hU,Qup hU,Qol hU,trivial⟩ ?_
 intro xs p r hs hp
 unfold Qtn at hs
 split at hs
 · rename_i u g x y L
   split at hs
   · rename_i l hl hg hx hy
     cases hs
     obtain ⟨hu,hk⟩:=hp _ rfl
     obtain rfl:x=#[]:=Array.eq_empty_of_size_eq_zero hx
     obtain rfl:y=#[]:=Array.eq_empty_of_size_eq_zero hy
     obtain rfl:=Nat.eq_of_beq_eq_true hg
     have hsub:=Qdb hl
     have hL:(zsOf l).length=l.length:=by simp [zsOf]
     refine ⟨[nP 1 3,.f (.v (.func (.func 94) #[] #[])),.f (.zs (zsOf l))],[(2,.s ⟨Nat × Int,fun x=>⟨[(1,.f (.v (.func (.func 94) #[] #[]))),(3,.bp 0 0),(6,.bp 1 0),(9,.f (.zs (zsOf l))),(10,.f (.v (.int .i64 l.length))),(11,.f (.v (.int .i64 (x.1:Nat))))],[.cells [.f (.zd x.2 (bndP l 1)),.f (.zn x.2)],.cells [.f (.v (.bool false)),.f (.v (.slice none 0 0))]]⟩,
      fun x=>x.1≤l.length∧x.2=Qbo (l.take x.1) 1,fun x=>l.length - x.1⟩)],(.cons hu (.cons (.refl _) (.cons hsub .nil))),rfl,fun hgx hg=>?_⟩
     have hgood:=Qbd hl hgx.2.2.1.2
     have hbnd:∀ i,ZB (Qbo (l.take i) 1) (bndP l 1):=fun i=>(QfV _ 1 1 ZB.one fun x hx=>(hgood x (List.mem_of_mem_take hx)).2.2).mono (Qha l 1 i)
     have hbl:=Qhb l 1 (Qev hl)
     have hll:=QcE l
     refine Qag (p:=∃ (x1:Nat × Int),(((SubB (PV.f (Lf.zd (1:Int) 3)) (PV.f (Lf.zd x1.snd (bndP l 1)))∧SubB (PV.f (Lf.zn (1:Int))) (PV.f (Lf.zn x1.snd))∧True)∧(rfB (PV.f (Lf.v (Value.bool false)))∧rfB (nlP)∧True)∧True)∧rfB (PV.f (Lf.v (Value.func (Fn.func 94) #[] #[])))∧rfB (PV.bp 0 0)∧rfB (PV.bp 1 0)∧rfB (PV.f (Lf.zs (zsOf l)))∧SubB (PV.f (Lf.v (Value.int IntKind.i64 (↑(zsOf l).length:Int)))) (PV.f (Lf.v (Value.int IntKind.i64 (↑l.length:Int))))∧SubB (PV.f (Lf.v (Value.int IntKind.i64 (0:Int)))) (PV.f (Lf.v (Value.int IntKind.i64 (↑x1.fst:Int))))∧True)∧(x1.fst≤l.length∧x1.snd=Qbo (List.take x1.fst l) (1:Int))∧True∧∀ (z2:Nat × Int),z2.fst≤l.length∧z2.snd=Qbo (List.take z2.fst l) (1:Int)→True→ifB (decide ((↑z2.fst:Int)<(↑l.length:Int))) (((0:Int)≤(↑z2.fst:Int)∧(↑z2.fst:Int)<(↑(zsOf l).length:Int))∧((zsOf l).getD (↑z2.fst:Int).toNat (false,[],0)).snd.snd≤100000000∧∀ (z3:Int),z3=zV ((zsOf l).getD (↑z2.fst:Int).toNat (false,[],0)).fst ((zsOf l).getD (↑z2.fst:Int).toNat (false,[],0)).snd.fst→(z2.snd=z2.snd∧z3=z3∧bndP l 1+(((zsOf l).getD (↑z2.fst:Int).toNat (false,[],0)).snd.snd+1)≤4500000)∧∀ (z4:Int),z4=z2.snd * z3→∃ (x5:Nat × Int),(((SubB (PV.f (Lf.zd z4 (bndP l 1+(((zsOf l).getD (↑z2.fst:Int).toNat (false,[],0)).snd.snd+1)+1))) (PV.f (Lf.zd x5.snd (bndP l 1)))∧SubB (PV.f (Lf.zn z4)) (PV.f (Lf.zn x5.snd))∧True)∧(rfB (PV.f (Lf.v (Value.bool false)))∧rfB (nlP)∧True)∧True)∧rfB (PV.f (Lf.v (Value.func (Fn.func 94) #[] #[])))∧rfB (PV.bp 0 0)∧rfB (PV.bp 1 0)∧rfB (PV.f (Lf.zs (zsOf l)))∧rfB (PV.f (Lf.v (Value.int IntKind.i64 (↑l.length:Int))))∧SubB (PV.f (Lf.v (Value.int IntKind.i64 (IntKind.i64.wrap ((↑z2.fst:Int)+(1:Int)))))) (PV.f (Lf.v (Value.int IntKind.i64 (↑x5.fst:Int))))∧True)∧(x5.fst≤l.length∧x5.snd=Qbo (List.take x5.fst l) (1:Int))∧True∧(l.length - x5.fst).succ.le (l.length - z2.fst)) (z2.snd=z2.snd∧true=true∧Sub (PV.agg [PV.f (Lf.zn z2.snd),PV.f (Lf.zd z2.snd (bndP l 1))]) (PV.agg [PV.f (Lf.zn (Qbo l (1:Int))),PV.f (Lf.zd (Qbo l (1:Int)) (bndP l 1))]))) (by kernel_rfl) ?_
     refine ⟨?x0,⟨⟨⟨⟨?m0,⟨?m1,trivial⟩⟩,⟨⟨.refl _,⟨.refl _,trivial⟩⟩,trivial⟩⟩,⟨.refl _,⟨.refl _,⟨.refl _,⟨.refl _,⟨?m2,⟨?m3,trivial⟩⟩⟩⟩⟩⟩⟩,⟨?s0,⟨trivial,fun z2=>fun hq0=>fun _=>Qae.2 ⟨fun hb1=>⟨?s1,⟨?s2,fun z3=>fun hz3=>⟨?s3,fun z4=>fun hz4=>⟨?x1,⟨⟨⟨⟨?m4,⟨?m5,trivial⟩⟩,⟨⟨.refl _,⟨.refl _,trivial⟩⟩,trivial⟩⟩,⟨.refl _,⟨.refl _,⟨.refl _,⟨.refl _,⟨.refl _,⟨?m6,trivial⟩⟩⟩⟩⟩⟩⟩,⟨?s4,⟨trivial,?m7⟩⟩⟩⟩⟩⟩⟩,fun hb1=>⟨rfl,⟨rfl,?m8⟩⟩⟩⟩⟩⟩⟩
     case x0=>exact (0,1)
     case x1=>exact (z2.1+1,z4)
     case m0=>exact Qai rfl (ZB.one.mono (Qi3 l 1))
     case m1=>exact .refl _
     case m2=>rw [hL]; exact .refl _
     case m3=>exact .refl _
     case s0=>exact ⟨Nat.zero_le _,rfl⟩
     case m8 =>
      have h1:=of_decide_eq_false hb1
      have h2:z2.1=l.length:=by omega
      have h3:=hq0.2
      rw [h2,List.take_of_length_le (Nat.le_refl _)] at h3
      rw [h3]; exact .refl _
     all_goals have h1:=of_decide_eq_true hb1
     all_goals have hil:z2.1<l.length:=(by omega)
     all_goals have hat:=Qe4 hil
     all_goals have hmem:=List.getElem_mem hil
     all_goals have hsz:=QcD _ hmem
     all_goals simp only [Int.toNat_natCast,hat] at *
     case s1=>exact ⟨by omega,by omega⟩
     case s2=>omega
     case s3=>exact ⟨by trivial,by trivial,by omega⟩
     all_goals have hz:z4=Qbo (l.take (z2.1+1)) 1:=(by rw [hz4,hz3,QhG l z2.1 hil,← hq0.2])
     case m4=>exact Qai rfl (by rw [hz]; exact hbnd _)
     case m5=>exact .refl _
     case m6=>exact Qdk (by omega)
     case s4=>exact ⟨hil,hz⟩
     case m7=>show l.length - (z2.1+1)+1≤l.length - z2.1; omega
   · cases hs
 · cases hs
theorem cTogG:Contract Tryz.prog E 88 Qto:=by
 refine Qaf [(95,Qio),(151,QtA),(81,Qjv)] Tryz.ntmps88 Tryz.func88 (by kernel_rfl) (by kernel_rfl) hU ⟨Qlz hU,cGcdF hU,Qol hU,trivial⟩ ?_
 intro xs p r hs hp
 unfold Qto at hs
 split at hs
 · rename_i u g x y L
   split at hs
   · rename_i l hl hg hx hy
     cases hs
     obtain ⟨hu,hk⟩:=hp _ rfl
     obtain rfl:x=#[]:=Array.eq_empty_of_size_eq_zero hx
     obtain rfl:y=#[]:=Array.eq_empty_of_size_eq_zero hy
     obtain rfl:=Nat.eq_of_beq_eq_true hg
     have hsub:=Qdb hl
     have hL:(zsOf l).length=l.length:=by simp [zsOf]
     refine ⟨[nP 0 0,.f (.v (.func (.func 151) #[] #[])),.f (.zs (zsOf l))],[(2,.s ⟨Nat × Int,fun x=>⟨[(1,.f (.v (.func (.func 151) #[] #[]))),(3,.bp 0 0),(6,.bp 1 0),(9,.f (.zs (zsOf l))),(10,.f (.v (.int .i64 l.length))),(11,.f (.v (.int .i64 (x.1:Nat))))],[.cells [.f (.zd x.2 (bndS l 0)),.f (.zn x.2)],.cells [.f (.v (.bool false)),.f (.v (.slice none 0 0))]]⟩,
      fun x=>x.1≤l.length∧x.2=gcdR (l.take x.1) 0,fun x=>l.length - x.1⟩)],(.cons hu (.cons (.refl _) (.cons hsub .nil))),rfl,fun hgx hg=>?_⟩
     have hgood:=Qbd hl hgx.2.2.1.2
     have hbnd:∀ i,ZB (gcdR (l.take i) 0) (bndS l 0):=fun i=>(QiP _ 0 0 (ZB.zero 0) fun x hx=>(hgood x (List.mem_of_mem_take hx)).2.2).mono (QeY l 0 i)
     have hbl:=QeZ l 0 (Qev hl)
     have hll:=QcE l
     refine Qag (p:=∃ (x1:Nat × Int),(((SubB (PV.f (Lf.zd (0:Int) 0)) (PV.f (Lf.zd x1.snd (bndS l 0)))∧SubB (PV.f (Lf.zn (0:Int))) (PV.f (Lf.zn x1.snd))∧True)∧(rfB (PV.f (Lf.v (Value.bool false)))∧rfB (nlP)∧True)∧True)∧rfB (PV.f (Lf.v (Value.func (Fn.func 151) #[] #[])))∧rfB (PV.bp 0 0)∧rfB (PV.bp 1 0)∧rfB (PV.f (Lf.zs (zsOf l)))∧SubB (PV.f (Lf.v (Value.int IntKind.i64 (↑(zsOf l).length:Int)))) (PV.f (Lf.v (Value.int IntKind.i64 (↑l.length:Int))))∧SubB (PV.f (Lf.v (Value.int IntKind.i64 (0:Int)))) (PV.f (Lf.v (Value.int IntKind.i64 (↑x1.fst:Int))))∧True)∧(x1.fst≤l.length∧x1.snd=gcdR (List.take x1.fst l) (0:Int))∧True∧∀ (z2:Nat × Int),z2.fst≤l.length∧z2.snd=gcdR (List.take z2.fst l) (0:Int)→True→ifB (decide ((↑z2.fst:Int)<(↑l.length:Int))) (((0:Int)≤(↑z2.fst:Int)∧(↑z2.fst:Int)<(↑(zsOf l).length:Int))∧((zsOf l).getD (↑z2.fst:Int).toNat (false,[],0)).snd.snd≤100000000∧∀ (z3:Int),z3=zV ((zsOf l).getD (↑z2.fst:Int).toNat (false,[],0)).fst ((zsOf l).getD (↑z2.fst:Int).toNat (false,[],0)).snd.fst→(z2.snd=z2.snd∧z3=z3∧bndS l 0+(((zsOf l).getD (↑z2.fst:Int).toNat (false,[],0)).snd.snd+1)≤4500000)∧∀ (z4:Int),z4=gcd2 z2.snd z3→∃ (x5:Nat × Int),(((SubB (PV.f (Lf.zd z4 (bndS l 0+(((zsOf l).getD (↑z2.fst:Int).toNat (false,[],0)).snd.snd+1)+1))) (PV.f (Lf.zd x5.snd (bndS l 0)))∧SubB (PV.f (Lf.zn z4)) (PV.f (Lf.zn x5.snd))∧True)∧(rfB (PV.f (Lf.v (Value.bool false)))∧rfB (nlP)∧True)∧True)∧rfB (PV.f (Lf.v (Value.func (Fn.func 151) #[] #[])))∧rfB (PV.bp 0 0)∧rfB (PV.bp 1 0)∧rfB (PV.f (Lf.zs (zsOf l)))∧rfB (PV.f (Lf.v (Value.int IntKind.i64 (↑l.length:Int))))∧SubB (PV.f (Lf.v (Value.int IntKind.i64 (IntKind.i64.wrap ((↑z2.fst:Int)+(1:Int)))))) (PV.f (Lf.v (Value.int IntKind.i64 (↑x5.fst:Int))))∧True)∧(x5.fst≤l.length∧x5.snd=gcdR (List.take x5.fst l) (0:Int))∧True∧(l.length - x5.fst).succ.le (l.length - z2.fst)) (z2.snd=z2.snd∧true=true∧Sub (PV.agg [PV.f (Lf.zn z2.snd),PV.f (Lf.zd z2.snd (bndS l 0))]) (PV.agg [PV.f (Lf.zn (gcdR l (0:Int))),PV.f (Lf.zd (gcdR l (0:Int)) (bndS l 0))]))) (by kernel_rfl) ?_
     refine ⟨?x0,⟨⟨⟨⟨?m0,⟨?m1,trivial⟩⟩,⟨⟨.refl _,⟨.refl _,trivial⟩⟩,trivial⟩⟩,⟨.refl _,⟨.refl _,⟨.refl _,⟨.refl _,⟨?m2,⟨?m3,trivial⟩⟩⟩⟩⟩⟩⟩,⟨?s0,⟨trivial,fun z2=>fun hq0=>fun _=>Qae.2 ⟨fun hb1=>⟨?s1,⟨?s2,fun z3=>fun hz3=>⟨?s3,fun z4=>fun hz4=>⟨?x1,⟨⟨⟨⟨?m4,⟨?m5,trivial⟩⟩,⟨⟨.refl _,⟨.refl _,trivial⟩⟩,trivial⟩⟩,⟨.refl _,⟨.refl _,⟨.refl _,⟨.refl _,⟨.refl _,⟨?m6,trivial⟩⟩⟩⟩⟩⟩⟩,⟨?s4,⟨trivial,?m7⟩⟩⟩⟩⟩⟩⟩,fun hb1=>⟨rfl,⟨rfl,?m8⟩⟩⟩⟩⟩⟩⟩
     case x0=>exact (0,0)
     case x1=>exact (z2.1+1,z4)
     case m0=>exact Qai rfl (ZB.zero _)
     case m1=>exact .refl _
     case m2=>rw [hL]; exact .refl _
     case m3=>exact .refl _
     case s0=>exact ⟨Nat.zero_le _,rfl⟩
     case m8 =>
      have h1:=of_decide_eq_false hb1
      have h2:z2.1=l.length:=by omega
      have h3:=hq0.2
      rw [h2,List.take_of_length_le (Nat.le_refl _)] at h3
      rw [h3]; exact .refl _
     all_goals have h1:=of_decide_eq_true hb1
     all_goals have hil:z2.1<l.length:=(by omega)
     all_goals have hat:=Qe4 hil
     all_goals have hmem:=List.getElem_mem hil
     all_goals have hsz:=QcD _ hmem
     all_goals simp only [Int.toNat_natCast,hat] at *
     case s1=>exact ⟨by omega,by omega⟩
     case s2=>omega
     case s3=>exact ⟨by trivial,by trivial,by omega⟩
     all_goals have hz:z4=gcdR (l.take (z2.1+1)) 0:=(by rw [hz4,hz3,QjU l z2.1 hil,← hq0.2])
     case m4=>exact Qai rfl (by rw [hz]; exact hbnd _)
     case m5=>exact .refl _
     case m6=>exact Qdk (by omega)
     case s4=>exact ⟨hil,hz⟩
     case m7=>show l.length - (z2.1+1)+1≤l.length - z2.1; omega
   · cases hs
 · cases hs
theorem cAddNN:Contract Tryz.prog E 32 sAdd:=by
 refine Qaf [(88,Qtp)] Tryz.ntmps32 Tryz.func32 (by kernel_rfl) (by kernel_rfl) hU ⟨cTogA hU,trivial⟩ ?_
 intro xs p r hs hp
 unfold sAdd at hs
 split at hs
 · rename_i y
   split at hs
   · rename_i l hl
     cases hs
     have hk:=hp _ rfl
     refine ⟨[.f (.zs (zsOf l))],[],.cons (Qdb hl) .nil,rfl,fun hgx hg=>?_⟩
     have hgood:=Qbd hl hgx.1.2
     have hall:ZB (sumR l 0) (bndS l 0):=Qkv _ 0 0 (ZB.zero 0) fun x hx=>(hgood x hx).2.2
     refine Qag (p:=(Sub (flat (PV.agg [nlP,PV.f (Lf.v (Value.bool false))])) (nP (0:Int) 0)∧Qb0 (List.map (fun (e:Bool × List Nat × Nat)=>((e.fst,e.snd.fst),e.snd.snd,e.snd.snd+1)) (zsOf l))≤2000000)∧∀ (z1:Int),z1=sumR (List.map (fun (e:Bool × List Nat × Nat)=>((e.fst,e.snd.fst),e.snd.snd,e.snd.snd+1)) (zsOf l)) (0:Int)→true=true∧Sub (PV.agg [PV.f (Lf.zn z1),PV.f (Lf.zd z1 (bndS (List.map (fun (e:Bool × List Nat × Nat)=>((e.fst,e.snd.fst),e.snd.snd,e.snd.snd+1)) (zsOf l)) 0))]) (PV.agg [PV.f (Lf.zn (sumR l (0:Int))),PV.f (Lf.zd (sumR l (0:Int)) (bndS l 0))])) (by kernel_rfl) ?_
     refine ⟨?s0,fun z1=>fun hz1=>⟨rfl,?m0⟩⟩
     case s0=>exact ⟨Qsw,(QfJ l).symm ▸ hk⟩
     case m0 =>
      rw [hz1,show List.map _ (zsOf l)=zsB l from rfl,Qoq]
      exact Qcl hall
   · cases hs
 · cases hs
theorem cMulNN:Contract Tryz.prog E 34 sMul:=by
 refine Qaf [(80,Qju),(88,Qtn)] Tryz.ntmps34 Tryz.func34 (by kernel_rfl) (by kernel_rfl) hU ⟨QqE hU,cTogM hU,trivial⟩ ?_
 intro xs p r hs hp
 unfold sMul at hs
 split at hs
 · rename_i y
   split at hs
   · rename_i l hl
     cases hs
     have hk:=hp _ rfl
     refine ⟨[.f (.zs (zsOf l))],[],.cons (Qdb hl) .nil,rfl,fun hgx hg=>?_⟩
     have hgood:=Qbd hl hgx.1.2
     have hall:ZB (Qbo l 1) (bndP l 1):=QfV _ 1 1 ZB.one fun x hx=>(hgood x hx).2.2
     refine Qag (p:=((0:Int)≤(1:Int)∧(1:Int)<(18446744073709551616:Int))∧∀ (z1:Int),z1=zOf false (Int.toNat (1:Int))→(Sub (flat (nP z1 3)) (nP (1:Int) 3)∧Qb0 (List.map (fun (e:Bool × List Nat × Nat)=>((e.fst,e.snd.fst),e.snd.snd,e.snd.snd+1)) (zsOf l))≤2000000)∧∀ (z2:Int),z2=Qbo (List.map (fun (e:Bool × List Nat × Nat)=>((e.fst,e.snd.fst),e.snd.snd,e.snd.snd+1)) (zsOf l)) (1:Int)→true=true∧Sub (PV.agg [PV.f (Lf.zn z2),PV.f (Lf.zd z2 (bndP (List.map (fun (e:Bool × List Nat × Nat)=>((e.fst,e.snd.fst),e.snd.snd,e.snd.snd+1)) (zsOf l)) 1))]) (PV.agg [PV.f (Lf.zn (Qbo l (1:Int))),PV.f (Lf.zd (Qbo l (1:Int)) (bndP l 1))])) (by kernel_rfl) ?_
     refine ⟨?s0,fun z1=>fun hz1=>⟨?s1,fun z2=>fun hz2=>⟨rfl,?m0⟩⟩⟩
     case s0=>exact ⟨by decide,by decide⟩
     case s1 =>
      refine ⟨?_,(QfJ l).symm ▸ hk⟩
      have e1:z1=1:=hz1
      subst e1
      exact .refl _
     case m0 =>
      rw [hz2,show List.map _ (zsOf l)=zsB l from rfl,QlJ]
      exact Qcl hall
   · cases hs
 · cases hs
theorem cGcdNN:Contract Tryz.prog E 76 sGcd:=by
 refine Qaf [(88,Qto)] Tryz.ntmps76 Tryz.func76 (by kernel_rfl) (by kernel_rfl) hU ⟨cTogG hU,trivial⟩ ?_
 intro xs p r hs hp
 unfold sGcd at hs
 split at hs
 · rename_i y
   split at hs
   · rename_i l hl
     cases hs
     have hk:=hp _ rfl
     refine ⟨[.f (.zs (zsOf l))],[],.cons (Qdb hl) .nil,rfl,fun hgx hg=>?_⟩
     have hgood:=Qbd hl hgx.1.2
     have hall:ZB (gcdR l 0) (bndS l 0):=QiP _ 0 0 (ZB.zero 0) fun x hx=>(hgood x hx).2.2
     refine Qag (p:=(Sub (flat (PV.agg [nlP,PV.f (Lf.v (Value.bool false))])) (nP (0:Int) 0)∧Qb0 (List.map (fun (e:Bool × List Nat × Nat)=>((e.fst,e.snd.fst),e.snd.snd,e.snd.snd+1)) (zsOf l))≤2000000)∧∀ (z1:Int),z1=gcdR (List.map (fun (e:Bool × List Nat × Nat)=>((e.fst,e.snd.fst),e.snd.snd,e.snd.snd+1)) (zsOf l)) (0:Int)→true=true∧Sub (PV.agg [PV.f (Lf.zn z1),PV.f (Lf.zd z1 (bndS (List.map (fun (e:Bool × List Nat × Nat)=>((e.fst,e.snd.fst),e.snd.snd,e.snd.snd+1)) (zsOf l)) 0))]) (PV.agg [PV.f (Lf.zn (gcdR l (0:Int))),PV.f (Lf.zd (gcdR l (0:Int)) (bndS l 0))])) (by kernel_rfl) ?_
     refine ⟨?s0,fun z1=>fun hz1=>⟨rfl,?m0⟩⟩
     case s0=>exact ⟨Qsw,(QfJ l).symm ▸ hk⟩
     case m0 =>
      rw [hz1,show List.map _ (zsOf l)=zsB l from rfl,Qor]
      exact Qcl hall
   · cases hs
 · cases hs
end
end Go.Proofs.YtmbmbcamecfnkaaGreatDoor
namespace Go.Proofs.YtmbmbcamecfnkaaGreatDoor
open Go.RowKit
theorem cAdd {E:Env} (hU:Up E):Contract Tryz.prog E 32 sAdd:=cAddNN hU
theorem cMul {E:Env} (hU:Up E):Contract Tryz.prog E 34 sMul:=cMulNN hU
theorem cGcd {E:Env} (hU:Up E):Contract Tryz.prog E 76 sGcd:=cGcdNN hU
theorem cNeg {E:Env} (hU:Up E):Contract Tryz.prog E 82 sNeg:=cNegN hU
theorem cCmp {E:Env} (hU:Up E):Contract Tryz.prog E 35 sCmp:=cCmpNN hU
theorem cOf {E:Env} (hU:Up E):Contract Tryz.prog E 21 sOf:=cOfNN hU
theorem Qna {E:Env} (hU:Up E):Contract Tryz.prog E 73 Qgw:=Quw hU
theorem cDiv {E:Env} (hU:Up E):Contract Tryz.prog E 289 sDiv:=cDivN2 hU
theorem cText:Contract Tryz.prog EZ 142 Qra:=Qur
end Go.Proofs.YtmbmbcamecfnkaaGreatDoor
