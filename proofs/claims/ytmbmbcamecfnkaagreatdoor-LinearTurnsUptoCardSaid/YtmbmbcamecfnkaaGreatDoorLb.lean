/- Sums of atoms: the small functions. -/
import Derived.Test.YtmbmbcamecfnkaaGreatDoorQa
import Derived.Test.YtmbmbcamecfnkaaGreatDoorTe
namespace Go.Proofs.YtmbmbcamecfnkaaGreatDoor
open Go.RowKit
set_option linter.unusedVariables false
set_option linter.unusedSimpArgs false
set_option maxRecDepth 100000
abbrev Lz:=List (ByteArray × Rat)
def bs (s:ByteArray):List UInt8:=s.data.toList
theorem bs_inj {a b:ByteArray} (h:bs a=bs b):a=b:=by
 obtain ⟨⟨a⟩⟩:=a
 obtain ⟨⟨b⟩⟩:=b
 have h:a=b:=h
 subst h
 rfl
def qC (k:Nat) (r:Rat):List Lf:=[.zn r.num,.zd r.num k,.zn r.den,.zd r.den k]
def rawE (k:Nat) (r:Rat):QE:=((zNeg r.num,digs 1000000000 r.num.natAbs,k),(zNeg r.den,digs 1000000000 (r.den:Int).natAbs,k))
theorem ent_qC (k:Nat) (r:Rat):entQ (qC k r)=some (rawE k r):=rfl
theorem QgO (k:Nat) (r:Rat):ofE (rawE k r)=r:=Qaz r
def valL:Lz→ByteArray→Rat
 | [],_=>0
 | (k,v)::A,s=>if s=k then v else valL A s
def hasL (A:Lz):Kt.T .str→Bool:=fun s=>A.any fun x=>decide (x.1=s)
def getL (k:Nat) (A:Lz):Kt.T .str→List Lf:=fun s=>qC k (valL A s)
def canL:Lz→Prop
 | []=>True
 | (k,v)::A=>v≠0∧(∀ x∈A,bs k<bs x.1)∧canL A
def fitL (k:Nat) (A:Lz):Prop:=∀ x∈A,ZB x.2.num k∧ZB x.2.den k
def addL:Lz→ByteArray→Rat→Lz
 | [],s,q=>if q=0 then [] else [(s,q)]
 | (k,v)::A,s,q=>if s=k then (if v+q=0 then A else (k,v+q)::A) else if bs s<bs k then (if q=0 then (k,v)::A else (s,q)::(k,v)::A) else (k,v)::addL A s q
theorem QbY:∀ {A:Lz} {s:ByteArray},(∀ x∈A,x.1≠s)→valL A s=0
 | [],_,_=>rfl
 | (k,v)::A,s,h=>by
  rw [valL,if_neg fun e=>h (k,v) (List.mem_cons_self ..) e.symm]
  exact QbY fun x hx=>h x (List.mem_cons_of_mem _ hx)
theorem Qkf {A:Lz} {k:ByteArray} (h:∀ x∈A,bs k<bs x.1):∀ x∈A,x.1≠k:=fun x hx e=>by
 have:=h x hx
 rw [e] at this
 exact List.lt_irrefl _ this
theorem Qeh:∀ {A:Lz},canL A→∀ x∈A,valL A x.1=x.2
 | (k,v)::A,h,x,hx=>by
  rcases List.mem_cons.1 hx with rfl | hx
  · rw [valL,if_pos rfl]
  · rw [valL,if_neg (Qkf h.2.1 x hx)]
    exact Qeh h.2.2 x hx
theorem Qf1 {A:Lz} {s:ByteArray}:hasL A s=true↔∃ x∈A,x.1=s:=by
 unfold hasL
 rw [List.any_eq_true]
 exact ⟨fun ⟨x,hx,h⟩=>⟨x,hx,of_decide_eq_true h⟩,fun ⟨x,hx,h⟩=>⟨x,hx,decide_eq_true h⟩⟩
theorem QsO:∀ {A:Lz},canL A→∀ x∈A,x.2≠0
 | (k,v)::A,h,x,hx=>by
  rcases List.mem_cons.1 hx with rfl | hx
  · exact h.1
  · exact QsO h.2.2 x hx
theorem QeO {A:Lz} (h:canL A) (s:ByteArray):hasL A s=true↔valL A s≠0:=by
 rw [Qf1]
 constructor
 · rintro ⟨x,hx,rfl⟩
   rw [Qeh h x hx]
   exact QsO h x hx
 · intro hv
   by_cases hc:∃ x∈A,x.1=s
   · exact hc
   · exact absurd (QbY fun x hx e=>hc ⟨x,hx,e⟩) hv
theorem Qua {k:Nat} {A:Lz} (h0:ZB 1 k) (h:fitL k A) (hc:canL A) (s:ByteArray):ZB (valL A s).num k∧ZB (valL A s).den k:=by
 by_cases hx:∃ x∈A,x.1=s
 · obtain ⟨x,hx,rfl⟩:=hx
   rw [Qeh hc x hx]
   exact h x hx
 · rw [QbY fun x hx' e=>hx ⟨x,hx',e⟩]
   refine ⟨?_,h0⟩
   show (0:Int).natAbs<_
   exact Nat.lt_of_le_of_lt (Nat.zero_le _) h0
theorem Qs2 (a b:ByteArray):bs a<bs b∨a=b∨bs b<bs a:=by
 by_cases h1:bs a<bs b
 · exact .inl h1
 · by_cases h2:bs b<bs a
   · exact .inr (.inr h2)
   · exact .inr (.inl (bs_inj (List.le_antisymm (List.not_lt.1 h2) (List.not_lt.1 h1))))
theorem Qgd:∀ {A:Lz} {s:ByteArray} {q:Rat} {x:ByteArray × Rat},x∈addL A s q→x.1=s∨x∈A
 | [],s,q,x,h=>by
  rw [addL] at h
  split at h
  · cases h
  · cases List.mem_singleton.1 h; exact .inl rfl
 | (k,v)::A,s,q,x,h=>by
  rw [addL] at h
  split at h
  · rename_i e
    split at h
    · exact .inr (List.mem_cons_of_mem _ h)
    · rcases List.mem_cons.1 h with rfl | h
      · exact .inl e.symm
      · exact .inr (List.mem_cons_of_mem _ h)
  · split at h
    · split at h
      · exact .inr h
      · rcases List.mem_cons.1 h with rfl | h
        · exact .inl rfl
        · exact .inr h
    · rcases List.mem_cons.1 h with rfl | h
      · exact .inr (List.mem_cons_self ..)
      · exact (Qgd h).imp id fun h=>List.mem_cons_of_mem _ h
theorem Qb2:∀ {A:Lz} {s:ByteArray} {q:Rat},canL A→canL (addL A s q)
 | [],s,q,_=>by
  rw [addL]
  split
  · trivial
  · rename_i h; exact ⟨h,(fun x hx=>by cases hx),trivial⟩
 | (k,v)::A,s,q,h=>by
  rw [addL]
  split
  · split
    · exact h.2.2
    · rename_i e; exact ⟨e,h.2.1,h.2.2⟩
  · rename_i hne
    split
    · rename_i hlt
      split
      · exact h
      · rename_i hq
        refine ⟨hq,fun x hx=>?_,h⟩
        rcases List.mem_cons.1 hx with rfl | hx
        · exact hlt
        · exact List.lt_trans hlt (h.2.1 x hx)
    · rename_i hge
      refine ⟨h.1,fun x hx=>?_,Qb2 h.2.2⟩
      rcases Qgd hx with e | hx
      · rcases Qs2 k s with h1 | h1 | h1
        · rw [e]; exact h1
        · exact absurd h1.symm hne
        · exact absurd h1 hge
      · exact h.2.1 x hx
theorem Qd5:∀ {A:Lz} {s:ByteArray} {q:Rat} (t:ByteArray),canL A→valL (addL A s q) t=valL A t+if t=s then q else 0
 | [],s,q,t,_=>by
  rw [addL]
  split
  · rename_i h; subst h
    show (0:Rat)=0+ite _ _ _
    split <;> rw [Rat.zero_add]
  · show ite _ _ _=0+ite _ _ _
    rw [Rat.zero_add]; rfl
 | (k,v)::A,s,q,t,h=>by
  rw [addL]
  have hk:=QbY (Qkf h.2.1)
  split
  · rename_i e
    subst e
    split
    · rename_i h0
      rw [valL]
      by_cases ht:t=s
      · subst ht
        rw [if_pos rfl,if_pos rfl,hk,h0]
      · rw [if_neg ht,if_neg ht,Rat.add_zero]
    · rw [valL,valL]
      by_cases ht:t=s
      · rw [if_pos ht,if_pos ht,if_pos ht]
      · rw [if_neg ht,if_neg ht,if_neg ht,Rat.add_zero]
  · rename_i hne
    split
    · rename_i hlt
      have hs:valL ((k,v)::A) s=0:=QbY fun x hx e=>by
       rcases List.mem_cons.1 hx with rfl | hx
       · exact hne e.symm
       · have:=List.lt_trans hlt (h.2.1 x hx)
         rw [e] at this
         exact List.lt_irrefl _ this
      split
      · rename_i h0
        subst h0
        split <;> rw [Rat.add_zero]
      · by_cases ht:t=s
        · subst ht
          rw [if_pos rfl,hs,Rat.zero_add,valL,if_pos rfl]
        · rw [if_neg ht,Rat.add_zero,valL,if_neg ht]
    · rw [valL,valL,Qd5 t h.2.2]
      by_cases ht:t=k
      · subst ht
        rw [if_pos rfl,if_pos rfl,if_neg fun e=>hne e.symm,Rat.add_zero]
      · rw [if_neg ht,if_neg ht]
theorem Qmz:∀ {A B:Lz},canL A→canL B→(∀ s,valL A s=valL B s)→A=B
 | [],[],_,_,_=>rfl
 | [],(k,v)::B,_,hb,h=>by
  have:=h k
  rw [valL,valL,if_pos rfl] at this
  exact absurd this.symm hb.1
 | (k,v)::A,[],ha,_,h=>by
  have:=h k
  rw [valL,valL,if_pos rfl] at this
  exact absurd this ha.1
 | (k,v)::A,(j,u)::B,ha,hb,h=>by
  have hkj:k=j:=by
   rcases Qs2 k j with h1 | h1 | h1
   · have e:=h k
     rw [Qeh ha (k,v) (List.mem_cons_self ..),QbY (A:=(j,u)::B) fun x hx e=>by
      rcases List.mem_cons.1 hx with rfl | hx
      · rw [show k=j from e.symm] at h1; exact List.lt_irrefl _ h1
      · have:=List.lt_trans h1 (hb.2.1 x hx); rw [e] at this; exact List.lt_irrefl _ this] at e
     exact absurd e ha.1
   · exact h1
   · have e:=h j
     rw [Qeh hb (j,u) (List.mem_cons_self ..),QbY (A:=(k,v)::A) fun x hx e=>by
      rcases List.mem_cons.1 hx with rfl | hx
      · rw [show j=k from e.symm] at h1; exact List.lt_irrefl _ h1
      · have:=List.lt_trans h1 (ha.2.1 x hx); rw [e] at this; exact List.lt_irrefl _ this] at e
     exact absurd e.symm hb.1
  subst hkj
  have hv:=h k
  rw [valL,valL,if_pos rfl,if_pos rfl] at hv
  subst hv
  rw [Qmz ha.2.2 hb.2.2 fun s=>by
   by_cases hs:s=k
   · subst hs
     rw [QbY (Qkf ha.2.1),QbY (Qkf hb.2.1)]
   · have:=h s
     rwa [valL,valL,if_neg hs,if_neg hs] at this]
end Go.Proofs.YtmbmbcamecfnkaaGreatDoor
namespace Go.Proofs.YtmbmbcamecfnkaaGreatDoor
open Go.RowKit
set_option linter.unusedVariables false
set_option linter.unusedSimpArgs false
set_option maxRecDepth 100000
theorem Qj4 {z:Int}:(digs 1000000000 z.natAbs).length=0↔z=0:=by
 constructor
 · intro h
   have h1:=Qah 1000000000 (by omega) z.natAbs
   rw [List.length_eq_zero_iff.1 h] at h1
   have:z.natAbs=0:=h1.symm
   omega
 · rintro rfl
   show (digs 1000000000 0).length=0
   unfold digs
   rfl
theorem Qmm {r:Rat}:r.num=0↔r=0:=⟨fun h=>Rat.num_eq_zero.1 h,fun h=>by subst h; rfl⟩
def Qo8:Spec
 | [x]=>match pvQ x with
  | some (((n,l),k,_),((n',l'),k',_))=>some (some True,.one (bV (decide (l.length=0))))
  | none=>none
 | _=>none
theorem cZero6 {E:Env} (hU:Up E):Contract Tryz.prog E 144 Qo8:=by
 refine Qan [] [] Tryz.ntmps144 Tryz.func144 (by kernel_rfl) (by kernel_rfl) hU trivial trivial ?_
 intro xs p r hs hp
 unfold Qo8 at hs
 split at hs
 · rename_i x
   split at hs
   · rename_i n l k j n' l' k' j' hx
     cases hs
     refine ⟨[rawQ n l k n' l' k'],[],.cons (Qbg hx) .nil,rfl,fun _ hsh=>?_⟩
     have h0:=hp
     refine Qag (p:=true=true∧Sub (bV ((↑l.length:Int)==(0:Int))) (bV (decide (l.length=0)))) ?kr ?_
     case kr=>kernel_rfl
     refine ⟨rfl,?m0⟩
     case m0=>exact (QaT (n:=((l.length:Int)==0)) (m:=decide (l.length=0)) (by rw [Bool.eq_iff_iff,beq_iff_eq,decide_eq_true_eq]; omega)).sub
   · cases hs
 · cases hs
theorem Qi0 {E:Env} (hU:Up E):Contract Tryz.prog E 67 Qcx:=by
 refine Qan [(20,Qcx)] [] Tryz.ntmps67 Tryz.func67 (by kernel_rfl) (by kernel_rfl) hU ⟨QqB hU,trivial⟩ trivial ?_
 intro xs p r hs hp
 unfold Qcx at hs
 split at hs
 · rename_i x
   split at hs
   · rename_i n l k j hx
     cases hs
     refine ⟨[rawP n l k],[],.cons (QaG hx) .nil,rfl,fun _ hsh=>?_⟩
     have h0:=hp _ rfl
     refine Qag (p:=k≤95000∧∀ (z1:Rat),(z1=match Qak n l with | true=>(↑(zV n l):Rat) | false=>(0:Rat))→true=true∧Sub (PV.agg [PV.f (Lf.zn z1.num),PV.f (Lf.zd z1.num (k+3)),PV.f (Lf.zn (↑z1.den:Int)),PV.f (Lf.zd (↑z1.den:Int) 6)]) (PV.agg [PV.f (Lf.zn (match Qak n l with | true=>(↑(zV n l):Rat) | false=>(0:Rat)).num),PV.f (Lf.zd (match Qak n l with | true=>(↑(zV n l):Rat) | false=>(0:Rat)).num (k+3)),PV.f (Lf.zn (↑(match Qak n l with | true=>(↑(zV n l):Rat) | false=>(0:Rat)).den:Int)),PV.f (Lf.zd (↑(match Qak n l with | true=>(↑(zV n l):Rat) | false=>(0:Rat)).den:Int) 6)])) ?kr ?_
     case kr=>kernel_rfl
     refine ⟨?s0,fun z1=>fun hz1=>⟨rfl,?m0⟩⟩
     case s0=>exact h0
     case m0=>subst hz1; exact .refl _
   · cases hs
 · cases hs
def noTl:List PO→Bool
 | []=>true
 | .tail _ _::_=>false
 | _::l=>noTl l
theorem QpI:∀ {l:List PO} {i:Nat} {e:TypeId} {k:Nat},noTl l=true→l[i]?=some (.tail e k)→False
 | x::l,0,e,k,h,hi=>by
  cases (show some x=some (PO.tail e k) from hi)
  cases h
 | x::l,i+1,e,k,h,hi=>by
  have h2:noTl l=true:=by
   cases x <;> first | (cases h; done) | exact h
  exact QpI (l:=l) h2 hi
theorem Qd9 {n0:Nat} {o:Bool × PV × List PO} {t:Bool} {x y:PV} {ob ob':List PO} (h:o=(t,y,ob)) (hx:SubB x y) (hn:newT ob'.length x y=false) (hb:(QbH ob.length y && (Qcs ob.length ob && Nat.ble n0 ob.length))=true) (ht:noTl ob=true) (hw:Qcf ob'.length ob ob'):EndU n0 o t x ob':=by
 subst h
 refine ⟨rfl,?_⟩
 unfold Weak
 rw [Qdh]
 rotate_left
 · intro i e k hi
   exact (QpI ht hi).elim
 unfold Weak0
 have hb':(QfB ob.length [(0,y)] && (Qcs ob.length ob && Nat.ble n0 ob.length))=true:=by
  simp only [Bool.and_eq_true] at hb ⊢
  refine ⟨?_,hb.2⟩
  unfold QfB
  rw [hb.1]; rfl
 dsimp only
 rw [hb']
 refine ⟨hw,?_⟩
 show (match newT ob'.length x y with | true=>QdA y∧True | false=>SubB x y∧True)
 rw [hn]
 exact ⟨hx,trivial⟩
def isQ (a a' b b':Int):Prop:=a=a'∧b=b'∧(Rat.divInt a b).num=a∧((Rat.divInt a b).den:Int)=b
theorem Qdy {a a' b b':Int} (h:isQ a a' b b'):∃ q:Rat,a=q.num∧a'=q.num∧b=q.den∧b'=q.den∧Rat.divInt a b=q :=
 ⟨Rat.divInt a b,h.2.2.1.symm,h.1 ▸ h.2.2.1.symm,h.2.2.2.symm,h.2.1 ▸ h.2.2.2.symm,rfl⟩
theorem QeK (q:Rat):isQ q.num q.num q.den q.den:=⟨rfl,rfl,by rw [Rat.num_divInt_den],by rw [Rat.num_divInt_den]⟩
def Qsh (k j k2 j2:Nat):Nat × Nat:=[((false,[],k2),(false,[],j2)),((false,[],k),(false,[],j))].foldl bPl (3,3)
def Ql6 (K:Nat):Spec2
 | [.bp 0 0,.tl 1 (.row 4 [[.zn c,.zd c' k2,.zn d,.zd d' j2]])],[.cells [.f (.zn a),.f (.zd a' k),.f (.zn b),.f (.zd b' j),.wr 2],.tail 52 4,.map t has get [] []] =>
  some (.need ((isQ a a' b b'∧isQ c c' d d')∧(k≤15000∧j≤15000∧k2≤15000∧j2≤15000)∧ZB (Rat.divInt c d+Rat.divInt a b).num K∧ZB (Rat.divInt c d+Rat.divInt a b).den K) (.nm Rat (Rat.divInt c d+Rat.divInt a b) fun q=>.ret (.tup []) [.cells [.f (.zn q.num),.f (.zd q.num K),.f (.zn q.den),.f (.zd q.den K),.wr 2],.gone,.map t has get [] []]))
 | _,_=>none
set_option maxHeartbeats 4000000 in
theorem QsV {E:Env} (hU:Up E) (K:Nat):Contract2 Tryz.prog E 70 (Ql6 K):=by
 refine contract2 [(143,Qjx (fun a b=>a+b) 0 (3,3) bPl)] [] Tryz.ntmps70 Tryz.func70 (by kernel_rfl) (by kernel_rfl) hU ⟨cAddQ hU,trivial⟩ trivial ?_
 intro xs ob o hs hok
 unfold Ql6 at hs
 split at hs
 · rename_i c c' k2 d d' j2 a a' k b b' j t has get
   cases hs
   obtain ⟨⟨⟨i1,i2⟩,⟨b1,b2,b3,b4⟩,n3,n4⟩,-⟩:=hok
   have n1:(Qsh k j k2 j2).1≤95000:=by simp only [Qsh,List.foldl,bPl]; omega
   have n2:(Qsh k j k2 j2).2≤95000:=by simp only [Qsh,List.foldl,bPl]; omega
   obtain ⟨q0,rfl,rfl,rfl,rfl,e1⟩:=Qdy i1
   obtain ⟨q1,rfl,rfl,rfl,rfl,e2⟩:=Qdy i2
   rw [e1,e2] at n3 n4 ⊢
   refine ⟨[.bp 0 0,.tl 1 (.row 4 [[.zn q1.num,.zd q1.num k2,.zn q1.den,.zd q1.den j2]])],[],.cons (.refl _) (.cons (.refl _) .nil),rfl,fun _ hsh=>?_⟩
   have h0:=n3
   refine Qag (p:=(2≤9223372036854775807∧128≤140737488355328)∧((List.foldl bPl (3,3) [((zNeg q1.num,digs 1000000000 q1.num.natAbs,k2),zNeg (↑q1.den:Int),digs 1000000000 (↑q1.den:Int).natAbs,j2),((zNeg q0.num,digs 1000000000 q0.num.natAbs,k),zNeg (↑q0.den:Int),digs 1000000000 (↑q0.den:Int).natAbs,j)]).fst≤95000∧(List.foldl bPl (3,3) [((zNeg q1.num,digs 1000000000 q1.num.natAbs,k2),zNeg (↑q1.den:Int),digs 1000000000 (↑q1.den:Int).natAbs,j2),((zNeg q0.num,digs 1000000000 q0.num.natAbs,k),zNeg (↑q0.den:Int),digs 1000000000 (↑q0.den:Int).natAbs,j)]).snd≤95000∧2≤1000000)∧∀ (z1:Rat),z1=List.foldl (fun (a:Rat) (e:QE)=>a+ofE e) (0:Rat) [((zNeg q1.num,digs 1000000000 q1.num.natAbs,k2),zNeg (↑q1.den:Int),digs 1000000000 (↑q1.den:Int).natAbs,j2),((zNeg q0.num,digs 1000000000 q0.num.natAbs,k),zNeg (↑q0.den:Int),digs 1000000000 (↑q0.den:Int).natAbs,j)]→EndU 3 (Out.need ((isQ q0.num q0.num (↑q0.den:Int) (↑q0.den:Int)∧isQ q1.num q1.num (↑q1.den:Int) (↑q1.den:Int))∧(k≤15000∧j≤15000∧k2≤15000∧j2≤15000)∧ZB (q1+q0).num K∧ZB (↑(q1+q0).den:Int) K) (Out.nm Rat (q1+q0) fun (q:Rat)=>Out.ret (PV.tup []) [PO.cells [PV.f (Lf.zn q.num),PV.f (Lf.zd q.num K),PV.f (Lf.zn (↑q.den:Int)),PV.f (Lf.zd (↑q.den:Int) K),PV.wr 2],PO.gone,PO.map t has get [] []])).fin true (PV.tup []) [PO.cells [PV.f (Lf.zn z1.num),PV.f (Lf.zd z1.num (List.foldl bPl (3,3) [((zNeg q1.num,digs 1000000000 q1.num.natAbs,k2),zNeg (↑q1.den:Int),digs 1000000000 (↑q1.den:Int).natAbs,j2),((zNeg q0.num,digs 1000000000 q0.num.natAbs,k),zNeg (↑q0.den:Int),digs 1000000000 (↑q0.den:Int).natAbs,j)]).fst),PV.f (Lf.zn (↑z1.den:Int)),PV.f (Lf.zd (↑z1.den:Int) (List.foldl bPl (3,3) [((zNeg q1.num,digs 1000000000 q1.num.natAbs,k2),zNeg (↑q1.den:Int),digs 1000000000 (↑q1.den:Int).natAbs,j2),((zNeg q0.num,digs 1000000000 q0.num.natAbs,k),zNeg (↑q0.den:Int),digs 1000000000 (↑q0.den:Int).natAbs,j)]).snd),PV.wr 2],PO.tail 52 4,PO.map t has get [] []]) ?kr ?_
   case kr=>kernel_rfl
   refine ⟨?s0,⟨?s1,fun z1=>fun hz1=>?m0⟩⟩
   case s0=>exact ⟨by omega,by omega⟩
   case s1=>exact ⟨n1,n2,by omega⟩
   case m0 =>
    have hz:z1=q1+q0:=by
     rw [hz1]
     show (0:Rat)+ofE (rawE k2 q1)+ofE (rawE k q0)=_
     rw [QgO,QgO,Rat.zero_add]
    clear hz1
    subst hz
    refine QaA (Qd9 rfl (.refl _) rfl rfl rfl ?_)
    repeat' first | exact SubB.refl _ | exact Qai rfl n3 | exact Qai rfl n4 | exact trivial | exact MapW.refl _ _ _ _ _ | refine And.intro ?_ ?_
 · cases hs
end Go.Proofs.YtmbmbcamecfnkaaGreatDoor
