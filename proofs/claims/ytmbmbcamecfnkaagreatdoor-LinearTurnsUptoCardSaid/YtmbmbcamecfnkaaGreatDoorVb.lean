/- The pure run: operations, regions, bodies; contracts. -/
import Derived.Test.YtmbmbcamecfnkaaGreatDoorVh
namespace Go.Proofs.YtmbmbcamecfnkaaGreatDoor
set_option linter.unusedVariables false
open Go.RowKit
def noD:Specs2:=fun _=>none
def doV (P:Program) (Γ:Specs) (s:PS) (o:Oper) (k:PS→Prop):Prop:=match opv P Γ s o.dst o.op with
 | some (p,x,y)=>need p (bindR x fun x=>k ((Qko s y).put o.dst x))
 | none=>False
def dcallee (Δ:Specs2) (s:PS) (x:Operand):Option (FuncId × Spec2 × List PV × List PV):=match QiZ s x with
 | some (f,l,m)=>match Δ f with
  | some sp=>some (f,sp,l,m)
  | none=>none
 | none=>none
def nilKey:FuncId:=1000000000
def QtS (P:Program) (s:PS) (b:BinOp) (t:TypeId) (x y:Operand):Option (Nat × Bool):=match s.fl x,s.ev y,P.underlying t with
 | some (.f u),some (.f (.v (.slice none 0 0))),some (.slice _)=>match u.val,u.view with
  | none,some (_,n,_)=>match b with
   | .eql=>some (n,true)
   | .neq=>some (n,false)
   | _=>none
  | _,_=>none
 | _,_,_=>none
def evR (s:PS):List Operand→Option (List PV)
 | []=>some []
 | x::l=>match s.ev x,evR s l with
  | some y,some m=>some (y::m)
  | _,_=>none
def evA (b:Bool) (s:PS) (xs:List Operand):Option (List PV):=match b with
 | true=>evR s xs
 | false=>evs s xs
def doOp (P:Program) (Γ:Specs) (Δ:Specs2) (s:PS) (o:Oper) (k:PS→Prop) (q:PV→PS→Prop):Prop:=match o.op with
 | .pick (.tmp d) x y=>match look s.env d with
  | some (.f (.v (.bool b)))=>ifB b
    (match (QcG s d true).ev x with | some z=>k ((QcG s d true).put o.dst z) | none=>False)
    (match (QcG s d false).ev y with | some z=>k ((QcG s d false).put o.dst z) | none=>False)
  | _=>False
 | .store t x y=>match s.fl x,s.ev y with
  | some u,some v=>match Qo0 P s t u v with
   | some s'=>k (s'.put o.dst (.tup []))
   | none=>False
  | _,_=>False
 | .mapUpdate t x y z=>match s.fl x,s.fl y,s.fl z with
  | some u,some kv,some v=>match Qmx P s t u kv v with
   | some s'=>k (s'.put o.dst (.tup []))
   | none=>False
  | _,_,_=>False
 | .insert t x y z=>match s.fl x,s.fl y,s.fl z with
  | some u,some kv,some v=>match Qmx P s t u kv v with
   | some s'=>k (s'.put o.dst (.tup []))
   | none=>False
  | _,_,_=>False
 | .lookup t x y c=>match s.fl x,s.fl y with
  | some u,some kv=>QtV P s t u kv c fun z=>k (s.put o.dst z)
  | _,_=>False
 | .call ⟨.builtin .append,xs,ts⟩=>match xs.toList,ts.toList with
  | [x,y],[t,t']=>match Nat.beq t t',s.ev x,s.fl y with
   | true,some u,some (.f z)=>match appB P s t u z with
    | some (p,s',r)=>p∧k (s'.put o.dst r)
    | none=>False
   | _,_,_=>False
  | _,_=>False
 | .call ⟨.builtin .delete,xs,ts⟩=>match xs.toList,ts.toList with
  | [x,y],[t,_]=>match s.fl x,s.fl y with
   | some u,some kv=>match QpS P s t u kv with
    | some s'=>k (s'.put o.dst (.tup []))
    | none=>False
   | _,_=>False
  | _,_=>False
 | .panic x=>match s.fl x with
  | some (.ifc t y)=>q (.ifc t y) s
  | _=>False
 | .binOp b t x y _=>match Δ nilKey with
  | some _=>match QtS P s b t x y with
   | some (n,r)=>(n=0→k (s.put o.dst (.f (.v (.bool r)))))∧k (s.put o.dst (.f (.v (.bool (!r)))))
   | none=>doV P Γ s o k
  | none=>doV P Γ s o k
 | .call ⟨.value x,xs,_⟩=>match dcallee Δ s x with
  | some (f,sp,l,m)=>match evA (Qsu f) s xs.toList with
   | some ys=>Qr5 P s sp f (l++ys++m) (fun y s'=>k (s'.put o.dst y)) q
   | none=>False
  | none=>doV P Γ s o k
 | _=>doV P Γ s o k
def Qa0 (P:Program) (Γ:Specs) (Δ:Specs2) (D:List (Option Nat)) (q:PV→PS→Prop):List Oper→PS→(PS→Prop)→Prop
 | [],s,k=>k s
 | o::os,s,k=>match o.guard with
  | none=>doOp P Γ Δ s o (fun s'=>Qa0 P Γ Δ D q os s' k) q
  | some (j,want)=>match nth D j with
   | some (some d)=>match look s.env d with
    | some (.f (.v (.bool b)))=>match want with
     | true=>ifB b (doOp P Γ Δ (QcG s d true) o (fun s'=>Qa0 P Γ Δ D q os s' k) q) (Qa0 P Γ Δ D q os ((QcG s d false).put o.dst (.tup [])) k)
     | false=>ifB b (Qa0 P Γ Δ D q os ((QcG s d true).put o.dst (.tup [])) k) (doOp P Γ Δ (QcG s d false) o (fun s'=>Qa0 P Γ Δ D q os s' k) q)
    | some (.tup _)=>Qa0 P Γ Δ D q os (s.put o.dst (.tup [])) k
    | _=>False
   | _=>False
def QhE (P:Program) (Γ:Specs) (Δ:Specs2) (q:PV→PS→Prop) (ops:Array Oper):Nat→Array Bool→PS→(PS→Prop)→Prop
 | 0,_,_,_=>False
 | f+1,L,s,k=>match Region.ready .any ops L with
  | []=>k s
  | i::l=>allP (i::l) fun i=>match ops[i]? with
   | some o=>doOp P Γ Δ s o (fun s'=>QhE P Γ Δ q ops f (L.setIfInBounds i true) s' k) q
   | none=>False
def dOp (Δ:Specs2) (s:PS) (os:List Oper):Op→Bool
 | .call ⟨.value (.func f),_,_⟩=>(Δ f).isSome
 | .call ⟨.value (.tmp d),_,_⟩=>match look s.env (Qq5 os d) with
  | some (.fn f _ _)=>(Δ f).isSome
  | some (.f (.v (.func (.func f) _ _)))=>(Δ f).isSome
  | some _=>false
  | none=>true
 | _=>false
def nGiv (Δ:Specs2) (s:PS) (os:List Oper):Nat:=(os.filter fun o=>dOp Δ s os o.op).length
def nD (Δ:Specs2) (s:PS) (os:List Oper):List Oper→Nat
 | []=>0
 | o::l=>match Qen o.op || dOp Δ s os o.op with | true=>0 | false=>nD Δ s os l+1
theorem nD_le {Δ:Specs2} {s:PS} {os:List Oper}:∀ (l:List Oper),nD Δ s os l≤l.length
 | []=>Nat.le_refl _
 | o::l=>by unfold nD; split <;> simp [nD_le l]
theorem Qmv {Δ:Specs2} {s:PS} {os:List Oper}:∀ (l:List Oper),∀ o∈l.take (nD Δ s os l),Qen o.op=false
 | [],o,h=>by simp at h
 | o::l,x,h=>by
  unfold nD at h
  split at h
  · simp at h
  · rename_i hs
    simp only [List.take_succ_cons,List.mem_cons] at h
    rcases h with rfl | h
    · exact (Bool.or_eq_false_iff.1 hs).1
    · exact Qmv l x h
def nA:List Oper→Nat
 | []=>0
 | o::l=>match o.op with | .assign _=>0 | _=>nA l+1
def nE (Δ:Specs2) (s:PS) (os:List Oper) (m:Nat):Nat:=match QmT os m (nD Δ s os os) with
 | true=>nD Δ s os os
 | false=>Nat.min (nD Δ s os os) (nA os)
theorem nE_nD {Δ:Specs2} {s:PS} {os:List Oper} {m:Nat}:nE Δ s os m≤nD Δ s os os:=by
 unfold nE
 split
 · exact Nat.le_refl _
 · exact Nat.min_le_left _ _
theorem nE_le {Δ:Specs2} {s:PS} {os:List Oper} {m:Nat}:nE Δ s os m≤os.length:=Nat.le_trans nE_nD (nD_le _)
theorem Qrr {Δ:Specs2} {s:PS} {os:List Oper} {m:Nat}:∀ o∈os.take (nE Δ s os m),Qen o.op=false:=fun o h=>Qmv os o ((List.take_prefix_take_left nE_nD).subset h)
def tgts:List Oper→List Nat
 | []=>[]
 | o::os=>match o.op with
  | .store _ (.tmp d) _=>d::tgts os
  | _=>tgts os
def declOk (os:List Oper) (m:Nat):Bool :=
 let n:=nOf os
 let D:=Qj1 (os.take n)
 let X:=tgts (os.drop n)
 (os.take n).map (·.dst)==D.map some && nodN D && nodN X && allN (fun d=>Nat.blt d m) D && (os.all fun o=>o.guard.isNone) &&
 (os.zipIdx.all fun p=>p.1.after.all fun e=>!(Region.binds .any e) || Nat.blt e.on p.2) &&
 ((os.take n).zipIdx.all fun p=>(Qat p.1.op).all fun x=>Qcy D p.2 p.1 x && (match x with | .tmp d=>!memN d X | _=>true)) &&
 ((os.drop n).zipIdx.all fun p=>match p.1.op,p.1.dst with
  | .store _ (.tmp d) y,none=>memN d D && (Qcy D (n+p.2) p.1 (.tmp d) && (Qcy D (n+p.2) p.1 y && (match y with | .tmp e=>!memN e X | _=>true)))
  | _,_=>false)
def noE_ (q:PV→PS→Prop):PV→PS→Prop:=fun y s=>q y ⟨[],s.ob⟩
mutual
def Qlc:PV→Bool
 | .f _=>true
 | .bp _ _=>true
 | .ep _=>true
 | .any=>true
 | .agg l=>Qld l
 | .tup l=>Qld l
 | .fn _ l m=>match Qld l with | true=>Qld m | false=>false
 | .ifc _ x=>Qlc x
 | _=>false
def Qld:List PV→Bool
 | []=>true
 | x::l=>match Qlc x with | true=>Qld l | false=>false
end
def QpX (b:Bool):Op→Bool
 | .indexAddr ..=>b
 | .load ..=>true
 | .fieldAddr ..=>true
 | .field ..=>true
 | .buildSlice ..=>true
 | _=>false
def operM:Op→List Operand
 | .lookup _ x y _=>[x,y]
 | .mapUpdate _ x y z=>[x,y,z]
 | .insert _ x y z=>[x,y,z]
 | op=>Qat op
theorem QfW {op:Op} {x:Operand} (h:x∈Qat op):x∈operM op:=by
 cases op <;> first | exact h | (cases h; done)
def QcP (o:Oper) (d:Nat):Bool:=(operM o.op).any fun x=>match x with | .tmp e=>Nat.beq e d | _=>false
def Qb1 (b:Bool):List Oper→Nat→List Nat→List Nat
 | [],_,_=>[]
 | o::os,i,hd=>match QpX b o.op && (o.guard.isNone && (o.dst.isSome && !(hd.any (QcP o)))) with
  | true=>i::Qb1 b os (i+1) hd
  | false=>Qb1 b os (i+1) (match o.dst with | some d=>d::hd | none=>hd)
def QbO (n:Nat) (Lt:List Nat):List Nat:=(List.range n).filter fun i=>!memN i Lt
def QkT:Op→Bool
 | .pick (.tmp _) _ _=>true
 | .move _=>true
 | _=>false
def Qhl (os:List Oper) (Lt:List Nat) (i:Nat):Bool:=match nth os i with
 | some o=>QkT o.op && (o.guard.isNone && (QhL os.toArray i && o.after.all fun e=>!Region.binds .any e || !memN e.on Lt))
 | none=>false
def Qm3 (os:List Oper) (Lt:List Nat):Option Nat→List Nat→Bool
 | pv,i::j::l=>(match nth os j with
  | some o=>Qax o i || (Qhl os Lt i && (!Qhl os Lt j && (match pv with | some k=>Qax o k | none=>false)))
  | none=>false) && Qm3 os Lt (some i) (j::l)
 | _,_=>true
def QiK (b:Bool) (os:List Oper):Bool :=
 let Lt:=Qb1 b os 0 []
 let hv:=QbO os.length Lt
 acyc os && (Qm3 os Lt none hv && ((os.all fun o=>Lt.all fun j=>match nth os j with | some p=>(match p.dst with | some d=>!QcP o d || Qax o j | none=>false) | none=>false) &&
  ((hv.all fun i=>match nth os i with | some o=>(match o.dst with | some e=>Lt.all fun j=>(match nth os j with | some p=>!(p.dst==some e) | none=>true) | none=>true) | none=>true) &&
  ((Lt.all fun j=>match nth os j with | some o=>o.guard.isNone | none=>false) && Region.noSelect os.toArray))))
def QnZ (b:Bool) (D:List Nat) (o:Oper):Bool:=match o.op with
 | .indexAddr ..=>true
 | .move _=>true
 | .load ..=>b
 | .fieldAddr ..=>true
 | .field ..=>true
 | .buildSlice ..=>match o.dst with | some d=>!memN d D | none=>false
 | _=>false
def QgW (b:Bool) (D:List Nat):List Oper→Nat→List Nat→List Nat
 | [],_,_=>[]
 | o::os,i,hd=>match QnZ b D o && (o.guard.isNone && (o.dst.isSome && !(hd.any (QcP o)))) with
  | true=>i::QgW b D os (i+1) hd
  | false=>QgW b D os (i+1) (match o.dst with | some d=>d::hd | none=>hd)
def QiJ (Lt:List Nat) (os:List Oper):Bool :=
 let hv:=QbO os.length Lt
 acyc os && ((os.all fun o=>Lt.all fun j=>match nth os j with | some p=>(match p.dst with | some d=>!QcP o d || Qax o j | none=>false) | none=>false) &&
  ((hv.all fun i=>match nth os i with | some o=>(match o.dst with | some e=>Lt.all fun j=>(match nth os j with | some p=>!(p.dst==some e) | none=>true) | none=>true) | none=>true) &&
  ((Lt.all fun j=>match nth os j with | some o=>o.guard.isNone | none=>false) && Region.noSelect os.toArray)))
def Qry (b:Bool) (os:List Oper):Bool:=QiJ (QgW b (Qc5 os) os 0 []) os
def lvals (P:Program) (Γ:Specs) (os:List Oper):List Nat→PS→Option (List (Nat × PV))
 | [],_=>some []
 | i::l,s=>match nth os i with
  | some o=>match o.dst,opv P Γ s o.dst o.op with
   | some d,some (_,.one x,none)=>match Qlc x,lvals P Γ os l (s.put (some d) x) with
    | true,some V=>some ((d,x)::V)
    | _,_=>none
   | _,_=>none
  | none=>none
def lst (P:Program) (Γ:Specs) (os:List Oper) (s:PS):List Nat→Option (List (Option Prop × PV))
 | []=>some []
 | i::l=>match nth os i with
  | some o=>match opv P Γ s o.dst o.op,lst P Γ os s l with
   | some (q,.one x,none),some m=>some ((q,x)::m)
   | _,_=>none
  | none=>none
structure SameL (a b:List PV):Prop where
 out:a=b
def QeP (V:List (Nat × PV)) (s:PS):PS:=⟨V++s.env,s.ob⟩
def clrV (V:List (Nat × PV)) (s:PS):PS:=⟨V.map (fun p=>(p.1,.any))++s.env,s.ob⟩
def Qhd (os:List Oper) (dn:List Nat) (i:Nat):Bool:=dn.any fun k=>match nth os k with | some o=>Qax o i | none=>false
def mskL (os:List Oper) (dn:List Nat):List Nat→List PV→List PV
 | i::l,x::xs=>(match Qhd os dn i with | true=>.any | false=>x)::mskL os dn l xs
 | _,_=>[]
theorem Qk0 {os:List Oper} {dn:List Nat}:∀ {l:List Nat} {xs:List PV} {n i:Nat},l[n]?=some i→Qhd os dn i=false→(mskL os dn l xs)[n]?=xs[n]?
 | [],xs,n,i,h,_=>by simp at h
 | j::l,[],n,i,h,_=>by simp [mskL]
 | j::l,x::xs,0,i,h,ha=>by
  simp at h
  subst h
  simp [mskL,ha]
 | j::l,x::xs,n+1,i,h,ha=>by
  simpa [mskL] using Qk0 (l:=l) (xs:=xs) (n:=n) (i:=i) (by simpa using h) ha
def QnQ (os:List Oper) (dn:List Nat):List Nat→List (Option Prop × PV)→Prop→Prop
 | i::l,(some p,_)::xs,k=>match Qhd os dn i with
  | true=>QnQ os dn l xs k
  | false=>p∧QnQ os dn l xs k
 | _::l,(none,_)::xs,k=>QnQ os dn l xs k
 | _,_,k=>k
theorem QfX {os:List Oper} {dn:List Nat}:∀ {l:List Nat} {xs:List (Option Prop × PV)} {k:Prop},QnQ os dn l xs k→k∧∀ (n i:Nat) (q:Option Prop) (x:PV),l[n]?=some i→xs[n]?=some (q,x)→Qhd os dn i=false→∀ p,q=some p→p
 | [],xs,k,h=>⟨by cases xs <;> exact h,fun n i q x hn=>by simp at hn⟩
 | j::l,[],k,h=>⟨h,fun n i q x _ hx=>by simp at hx⟩
 | j::l,(none,y)::xs,k,h=>by
  obtain ⟨h1,h2⟩:=QfX (l:=l) (xs:=xs) h
  refine ⟨h1,fun n i q x hn hx ha p hp=>?_⟩
  cases n with
  | zero=>simp at hx; rw [← hx.1] at hp; cases hp
  | succ n=>exact h2 n i q x (by simpa using hn) (by simpa using hx) ha p hp
 | j::l,(some r,y)::xs,k,h=>by
  unfold QnQ at h
  split at h
  · rename_i hj
    obtain ⟨h1,h2⟩:=QfX (l:=l) (xs:=xs) h
    refine ⟨h1,fun n i q x hn hx ha p hp=>?_⟩
    cases n with
    | zero=>simp at hn; subst hn; rw [hj] at ha; cases ha
    | succ n=>exact h2 n i q x (by simpa using hn) (by simpa using hx) ha p hp
  · obtain ⟨h1,h2⟩:=QfX (l:=l) (xs:=xs) h.2
    refine ⟨h1,fun n i q x hn hx ha p hp=>?_⟩
    cases n with
    | zero=>simp at hx; rw [← hx.1] at hp; cases hp; exact h.1
    | succ n=>exact h2 n i q x (by simpa using hn) (by simpa using hx) ha p hp
def stab (P:Program) (Γ:Specs) (os:List Oper) (Lt dn:List Nat) (V:List (Nat × PV)) (U:PS):Prop:=match lst P Γ os (QeP V U) Lt with
 | some xs=>QnQ os dn Lt xs (SameL (mskL os dn Lt (xs.map (·.2))) (mskL os dn Lt (V.map (·.2))))
 | none=>False
def QnF (P:Program) (Γ:Specs) (Δ:Specs2) (D:List (Option Nat)) (q:PV→PS→Prop) (os:List Oper) (Lt:List Nat) (V:List (Nat × PV)):List Nat→List Nat→PS→(PS→Prop)→Prop
 | [],dn,U,k=>stab P Γ os Lt dn V U∧k (QeP V U)
 | i::l,dn,U,k=>match nth os i with
  | some o=>stab P Γ os Lt dn V U∧Qa0 P Γ Δ D q [o] (QeP (V.filter fun p=>QcP o p.1) U) (fun s'=>QnF P Γ Δ D q os Lt V l (i::dn) (clrV V s') k)
  | none=>False
def Qiq (b:Bool) (P:Program) (Γ:Specs) (Δ:Specs2) (q:PV→PS→Prop) (os:List Oper) (s:PS) (k:PS→Prop):Prop:=match lvals P Γ os (Qb1 b os 0 []) s with
 | some V=>match nodN (V.map (·.1)) with
  | true=>QnF P Γ Δ (os.map (·.dst)) q os (Qb1 b os 0 []) V (QbO os.length (Qb1 b os 0 [])) [] (clrV V s) k
  | false=>False
 | none=>False
def QgY:List Nat→(List Nat→Prop)→Prop
 | [],k=>k []
 | i::l,k=>QgY l fun m=>k (i::m)
theorem QeQ:∀ {l:List Nat} {k:List Nat→Prop},QgY l k=k l
 | [],k=>rfl
 | i::l,k=>QeQ (l:=l)
def QiQ:List (List Nat)→(List (List Nat)→Prop)→Prop
 | [],k=>k []
 | l::ls,k=>QgY l fun l'=>QiQ ls fun ls'=>k (l'::ls')
theorem QhO:∀ {l:List (List Nat)} {k:List (List Nat)→Prop},QiQ l k=k l
 | [],k=>rfl
 | l::ls,k=>by rw [QiQ,QeQ,QhO]
def Qhr (os:List Oper):List (List Nat):=os.map fun o=>(List.range os.length).filter (Qax o)
def wtN (W:List (List Nat)) (i j:Nat):Bool:=match nth W i with | some l=>memN j l | none=>false
theorem Qsm {os:List Oper} {i j:Nat} (h:wtN (Qhr os) i j=true):∃ o,os[i]?=some o∧Qax o j=true:=by
 unfold wtN at h
 rw [Qap] at h
 unfold Qhr at h
 rw [List.getElem?_map] at h
 cases ho:os[i]? with
 | none=>rw [ho] at h; cases h
 | some o =>
  rw [ho] at h
  refine ⟨o,rfl,?_⟩
  have h1:j∈(List.range os.length).filter (Qax o):=by
   have:=QbE h
   exact List.mem_of_getElem? this
  exact (List.mem_filter.1 h1).2
def awW (W:List (List Nat)) (dn:List Nat) (i:Nat):Bool:=dn.any fun k=>wtN W k i
def mskA (aw:Nat→Bool):List Nat→List PV→List PV
 | i::l,x::xs=>(match aw i with | true=>.any | false=>x)::mskA aw l xs
 | _,_=>[]
theorem Qk1 {aw:Nat→Bool}:∀ {l:List Nat} {xs:List PV} {n i:Nat},l[n]?=some i→aw i=false→(mskA aw l xs)[n]?=xs[n]?
 | [],xs,n,i,h,_=>by simp at h
 | j::l,[],n,i,h,_=>by simp [mskA]
 | j::l,x::xs,0,i,h,ha=>by
  simp at h
  subst h
  simp [mskA,ha]
 | j::l,x::xs,n+1,i,h,ha=>by
  simpa [mskA] using Qk1 (l:=l) (xs:=xs) (n:=n) (i:=i) (by simpa using h) ha
def QnR (aw:Nat→Bool):List Nat→List (Option Prop × PV)→Prop→Prop
 | i::l,(some p,_)::xs,k=>match aw i with
  | true=>QnR aw l xs k
  | false=>p∧QnR aw l xs k
 | _::l,(none,_)::xs,k=>QnR aw l xs k
 | _,_,k=>k
theorem QfY {aw:Nat→Bool}:∀ {l:List Nat} {xs:List (Option Prop × PV)} {k:Prop},QnR aw l xs k→k∧∀ (n i:Nat) (q:Option Prop) (x:PV),l[n]?=some i→xs[n]?=some (q,x)→aw i=false→∀ p,q=some p→p
 | [],xs,k,h=>⟨by cases xs <;> exact h,fun n i q x hn=>by simp at hn⟩
 | j::l,[],k,h=>⟨h,fun n i q x _ hx=>by simp at hx⟩
 | j::l,(none,y)::xs,k,h=>by
  obtain ⟨h1,h2⟩:=QfY (l:=l) (xs:=xs) h
  refine ⟨h1,fun n i q x hn hx ha p hp=>?_⟩
  cases n with
  | zero=>simp at hx; rw [← hx.1] at hp; cases hp
  | succ n=>exact h2 n i q x (by simpa using hn) (by simpa using hx) ha p hp
 | j::l,(some r,y)::xs,k,h=>by
  unfold QnR at h
  split at h
  · rename_i hj
    obtain ⟨h1,h2⟩:=QfY (l:=l) (xs:=xs) h
    refine ⟨h1,fun n i q x hn hx ha p hp=>?_⟩
    cases n with
    | zero=>simp at hn; subst hn; rw [hj] at ha; cases ha
    | succ n=>exact h2 n i q x (by simpa using hn) (by simpa using hx) ha p hp
  · obtain ⟨h1,h2⟩:=QfY (l:=l) (xs:=xs) h.2
    refine ⟨h1,fun n i q x hn hx ha p hp=>?_⟩
    cases n with
    | zero=>simp at hx; rw [← hx.1] at hp; cases hp; exact h.1
    | succ n=>exact h2 n i q x (by simpa using hn) (by simpa using hx) ha p hp
def Qo1 (P:Program) (Γ:Specs) (os:List Oper) (Lt:List Nat) (aw:Nat→Bool) (V:List (Nat × PV)) (U:PS):Prop:=match lst P Γ os (QeP V U) Lt with
 | some xs=>QnR aw Lt xs (SameL (mskA aw Lt (xs.map (·.2))) (mskA aw Lt (V.map (·.2))))
 | none=>False
def Qjy (P:Program) (Γ:Specs) (Δ:Specs2) (D:List (Option Nat)) (q:PV→PS→Prop) (os:List Oper) (W:List (List Nat)) (Lt:List Nat) (V:List (Nat × PV)):Nat→List Nat→List Nat→PS→(PS→Prop)→Prop
 | 0,_,_,_,_=>False
 | _+1,[],dn,U,k=>Qo1 P Γ os Lt (awW W dn) V U∧k (QeP V U)
 | f+1,i0::rm,dn,U,k=>Qo1 P Γ os Lt (awW W dn) V U∧QgY ((i0::rm).filter fun i=>!((i0::rm).any (wtN W i))) fun rd=>allP rd fun i=>match nth os i with
  | some o=>QgY ((i0::rm).filter fun j=>!Nat.beq j i) fun rm'=>Qa0 P Γ Δ D q [o] (QeP (V.filter fun p=>QcP o p.1) U) (fun s'=>Qjy P Γ Δ D q os W Lt V f rm' (i::dn) (clrV V s') k)
  | none=>False
def Qgz (Lt0:List Nat) (P:Program) (Γ:Specs) (Δ:Specs2) (q:PV→PS→Prop) (os:List Oper) (s:PS) (k:PS→Prop):Prop:=QgY Lt0 fun Lt=>match lvals P Γ os Lt s with
 | some V=>match nodN (V.map (·.1)) with
  | true=>QiQ (Qhr os) fun W=>QgY (QbO os.length Lt) fun hv=>Qjy P Γ Δ (os.map (·.dst)) q os W Lt V (os.length+1) hv [] (clrV V s) k
  | false=>False
 | none=>False
def Qpo (b:Bool) (P:Program) (Γ:Specs) (Δ:Specs2) (q:PV→PS→Prop) (os:List Oper) (s:PS) (k:PS→Prop):Prop:=Qgz (QgW b (Qc5 os) os 0 []) P Γ Δ q os s k
def PW (P:Program) (Γ:Specs) (Δ:Specs2) (Λ:Loops) (m n0:Nat) (q:PV→PS→Prop):Code→(Exit→PS→Prop)→PS→Prop
 | .skip,Q,s=>Q .normal s
 | .label _,Q,s=>Q .normal s
 | .ret,Q,s=>Q .ret s
 | .exit id,Q,s=>Q (.exit id) s
 | .seq a b,Q,s=>match Λ (1000000+QjC b) with
  | some L=>PW P Γ Δ Λ m n0 q a (fun e s'=>match e with | .normal=>∃ y,Weak n0 (L.T y) s'∧L.I y | e=>Q e s') s∧∀ y,L.I y→PW P Γ Δ Λ m n0 q b Q (L.T y)
  | none=>PW P Γ Δ Λ m n0 q a (fun e s'=>match e with | .normal=>PW P Γ Δ Λ m n0 q b Q s' | e=>Q e s') s
 | .block id a,Q,s=>PW P Γ Δ Λ m n0 q a (fun e s'=>match e with
   | .exit i=>match Nat.beq i id with | true=>Q .normal s' | false=>Q (.exit i) s'
   | e=>Q e s') s
 | .cond (.tmp d) a b,Q,s=>match look s.env d with
  | some (.f (.v (.bool t)))=>ifB t (PW P Γ Δ Λ m n0 q a Q (QcG s d true)) (PW P Γ Δ Λ m n0 q b Q (QcG s d false))
  | _=>False
 | .cond (.const (.bool t)) a b,Q,s=>match t with | true=>PW P Γ Δ Λ m n0 q a Q s | false=>PW P Γ Δ Λ m n0 q b Q s
 | .region _ ops false,Q,s=>match ops.toList.all fun o=>QdB m o.dst with
  | true=>Qa0 P Γ Δ (ops.toList.map (·.dst)) q ops.toList (prep s ops.toList) (Q .normal)
  | false=>False
 | .region _ ops true,Q,s=>match ops.toList.all fun o=>QdB m o.dst with
  | true=>match QmT ops.toList m (nE Δ (prep s ops.toList) ops.toList m) with
   | true=>Qa0 P Γ noD (ops.toList.map (·.dst)) (noE_ q) (ops.toList.take (nE Δ (prep s ops.toList) ops.toList m)) (prep s ops.toList) fun s'=>Qa0 P Γ Δ (ops.toList.map (·.dst)) (noE_ q) (ops.toList.drop (nE Δ (prep s ops.toList) ops.toList m)) s' (Q .normal)
   | false=>match QuD ops.toList && !(Nat.ble 7 ops.toList.length && (declOk ops.toList m || (Nat.ble 2 (nGiv Δ (prep s ops.toList) ops.toList) && (QiK false ops.toList && (lvals P Γ ops.toList (Qb1 false ops.toList 0 []) (prep s ops.toList)).isSome)))) with
    | true=>QhE P Γ Δ q ops (ops.size+1) (Array.replicate ops.size false) (prep s ops.toList) (Q .normal)
    | false=>match QiK false ops.toList && (lvals P Γ ops.toList (Qb1 false ops.toList 0 []) (prep s ops.toList)).isSome with
     | true=>Qiq false P Γ Δ (noE_ q) ops.toList (prep s ops.toList) (Q .normal)
     | false=>match Qry true ops.toList && (lvals P Γ ops.toList (QgW true (Qc5 ops.toList) ops.toList 0 []) (prep s ops.toList)).isSome with
      | true=>Qpo true P Γ Δ (noE_ q) ops.toList (prep s ops.toList) (Q .normal)
      | false=>False
  | false=>False
 | .loop c,Q,s=>match Λ (QjC c) with
  | some L=>∃ x,Weak n0 (L.T x) s∧L.I x∧L.R x x∧∀ y,L.I y→L.R x y→PW P Γ Δ Λ m n0 q c (fun e s'=>match e with
    | .normal=>∃ y',Weak n0 (L.T y') s'∧L.I y'∧L.R x y'∧L.μ y'<L.μ y
    | e=>Q e s') (L.T y)
  | none=>False
 | _,_,_=>False
section
variable {P : Program} {w0 : Cx} {H0 : Hp} {m : Nat} {s : PS} {g : Gh} {a : Act} {w : World} {Q : Exit → Act → World → Prop}
theorem Real.noEnv (h:Real w0 H0 m s g a w):Real w0 H0 m ⟨[],s.ob⟩ g a w:=⟨h.ext,h.obs,h.full,fun d x hx=>(by cases hx),h.sz,h.dfr,h.ptr⟩
theorem QgP {E:Env}:Sound2 P E noD:=fun f sp h=>by cases h
theorem Qf7 {E:Env} {Γ:Specs} (hΓ:Sound P E Γ) (hU:Up E) (hE:E w0.K w0.w H0) (h:Real w0 H0 m s g a w) {o:Oper} (hd:QdB m o.dst=true) {k:PS→Prop} (hdo:doV P Γ s o k)
  {K:Act→World→Prop} (hK:∀ s' g' a' w',Real w0 H0 m s' g' a' w'→k s'→K a' w'):o.wp P a w K Q:=by
 unfold doV at hdo
 split at hdo
 · rename_i p x y ho
   obtain ⟨h1,h2⟩:=QiB hdo
   exact Qrm hΓ hU hE h ho h1 hd (fun g' a' w' h3=>hK _ g' a' w' h3 (Qhc h2))
 · exact hdo.elim
theorem PRs.app {H:Hp} {B:Hd} {us vs:List Value} {l m:List PV} (h:PRs H B us l) (h':PRs H B vs m):PRs H B (us++vs) (l++m):=by
 refine ⟨by simp [h.1,h'.1],fun i v x hv hx=>?_⟩
 by_cases hi:i<us.length
 · rw [List.getElem?_append_left hi] at hv
   rw [List.getElem?_append_left (by rw [← h.1]; exact hi)] at hx
   exact h.2 i v x hv hx
 · rw [List.getElem?_append_right (by omega)] at hv
   rw [List.getElem?_append_right (by rw [← h.1]; omega),← h.1] at hx
   exact h'.2 _ v x hv hx
theorem Qlu (h:Real w0 H0 m s g a w) {x:Operand} {f:FuncId} {l n:List PV} (hc:QiZ s x=some (f,l,n)):∃ us vs:Array Value,a.eval x=.func (.func f) us vs∧PRs g.H g.B us.toList l∧PRs g.H g.B vs.toList n:=by
 unfold QiZ at hc
 split at hc
 · rename_i f l n hx
   cases hc
   have hp:=QcZ (h.ev x) _ hx
   generalize a.eval x=v at hp
   cases hp with
   | @fn _ us vs _ _ hm h1 hn h2=>exact ⟨us,vs,rfl,⟨by simpa using hm,fun i v x hv hx=>h1 i v x (by simpa using hv) hx⟩,⟨by simpa using hn,fun i v x hv hx=>h2 i v x (by simpa using hv) hx⟩⟩
 · rename_i f us vs hx
   split at hc
   · rename_i h1 h2
     cases hc
     have hv:=(QcZ (h.ev x) _ hx).val
     obtain rfl:=Array.eq_empty_of_size_eq_zero h1
     obtain rfl:=Array.eq_empty_of_size_eq_zero h2
     exact ⟨#[],#[],hv,.nil,.nil⟩
   · cases hc
 · cases hc
theorem QnP (h:Real w0 H0 m s g a w) {b:BinOp} {t:TypeId} {x y:Operand} {n:Nat} {r:Bool} (hn:QtS P s b t x y=some (n,r)):∃ c:Bool,(∀ ty:TypeId,∀ (dst:Option Nat) (ty':TypeId) (pos:String) (af:Array Edge) (gd:Option (Nat × Bool)),(execOp a.eval ⟨dst,.binOp b t x y ty,ty',pos,af,gd⟩).run P w=.ok (.value (.bool (c==r))) w)∧(c=true→n=0):=by
 unfold QtS at hn
 split at hn
 · rename_i u e hx hy hu
   split at hn
   · rename_i k n' get hv0 hv
     have h1:=QcZ (h.ev x) _ hx
     have h2:=(h.ev y _ hy).val
     have h3:=h1.rd
     have key:∃ ao m c,a.eval x=.slice ao m c∧(ao.isNone=true→n'=0):=by
      generalize a.eval x=v at h3
      cases h3 with
      | v x _=>cases hv0
      | zn z=>cases hv0
      | @sl _ k2 n2 get2 ao cap hv2 hg hc hm h0 =>
       rw [hv] at hv2
       cases hv2
       refine ⟨ao,_,_,rfl,fun hn=>?_⟩
       have:=h0 (by simpa using hn)
       have:=Lf.full_le hv hg
       omega
     obtain ⟨ao,m',c',h4,h5⟩:=key
     refine ⟨ao.isNone,?_,?_⟩
     · intro ty dst ty' pos af gd
       have e1:=Lib.run_eql_slice_nil (P:=P) w t e ao m' c' 0 0 hu
       show (do let v ← (do eqGuard b t x y (a.eval x) (a.eval y); binOp b t (a.eval x) (a.eval y)); pure (Next.value v):Sem Next).run P w=_
       rw [h4,h2]
       split at hn
       · cases hn
         simp [eqGuard,e1]
       · cases hn
         have e2:=run_neq_slice_nil_any (P:=P) w t e ao m' c' 0 0 hu
         simp [eqGuard,e2]
       · cases hn
     · intro hc
       have:=h5 hc
       split at hn <;> cases hn <;> exact this
   · cases hn
 · cases hn
theorem QsJ (h:Real w0 H0 m s g a w):∀ {xs:List Operand} {l:List PV},evR s xs=some l→PRs g.H g.B (xs.map a.eval) l
 | [],l,hx=>by cases hx; exact .nil
 | x::xs,l,hx=>by
  unfold evR at hx
  split at hx
  · rename_i y m' hy hm
    cases hx
    exact .cons (h.ev x y hy) (QsJ h hm)
  · cases hx
theorem evA_pr (h:Real w0 H0 m s g a w) {b:Bool} {xs:List Operand} {l:List PV} (hx:evA b s xs=some l):PRs g.H g.B (xs.map a.eval) l:=by
 cases b with
 | true=>exact QsJ h hx
 | false=>exact QfA (a:=a) (g:=g) (fun x _=>QcZ (h.ev x)) hx
theorem QeT {E:Env} {Γ:Specs} {Δ:Specs2} (hΔ:Sound2 P E Δ) {q:PV→PS→Prop} (hΓ:Sound P E Γ) (hU:Up E) (hE:E w0.K w0.w H0) (h:Real w0 H0 m s g a w) {o:Oper} (hd:QdB m o.dst=true) {k:PS→Prop} (hdo:doOp P Γ Δ s o k q)
  {K:Act→World→Prop} (hK:∀ s' g' a' w',Real w0 H0 m s' g' a' w'→k s'→K a' w') (hQp:∀ s g a w v y,Real w0 H0 m s g a w→PR g.H g.B v y→q y s→Q (.panic [{ v,recovered:=false }]) a w):o.wp P a w K Q:=by
 unfold doOp at hdo
 split at hdo
 · rename_i d x y hop
   split at hdo
   · rename_i b hb
     have hv:=QkV h hb
     have hr:=Qmc (P:=P) (w:=w) (dst:=o.dst) (x:=x) (y:=y) (ty:=o.type) (pos:=o.pos) (af:=o.after) (gd:=o.guard) hv
     rw [← hop] at hr
     rcases Qbf hdo with ⟨rfl,h1⟩ | ⟨rfl,h1⟩
     · split at h1
       · rename_i z hz
         have h2:=h.look hv
         exact QbM hr (hK _ g _ w (h2.put hd (h2.ev x z hz)) h1)
       · exact h1.elim
     · split at h1
       · rename_i z hz
         have h2:=h.look hv
         exact QbM hr (hK _ g _ w (h2.put hd (h2.ev y z hz)) h1)
       · exact h1.elim
   · exact hdo.elim
 · rename_i t x y hop
   split at hdo
   · rename_i u v hu hv
     split at hdo
     · rename_i s' hs'
       obtain ⟨w',h1,h2⟩:=Qny h (QcZ (h.ev x) u hu) (h.ev y v hv) hs'
       have hr:(execOp a.eval o).run P w=.ok .skip w':=by
        obtain ⟨dst,op,ty,pos,af,gd⟩:=o
        dsimp only at hop
        subst hop
        show (do Instr.storeAt t (a.eval x) (a.eval y); pure .skip:Sem Next).run P w=_
        simp [h1]
       unfold Oper.wp
       rw [hr,Oper.upon_skip]
       refine hK _ g _ w' (h2.put hd ?_) hdo
       exact .tup rfl (fun i v x hv hx=>by simp at hx)
     · exact hdo.elim
   · exact hdo.elim
 · rename_i t x y z hop
   split at hdo
   · rename_i u kv v hu hkv hv
     split at hdo
     · rename_i s' hs'
       obtain ⟨w',h1,h2⟩:=QgS h (QcZ (h.ev x) u hu) (QcZ (h.ev y) kv hkv) (QcZ (h.ev z) v hv) hs'
       have hr:(execOp a.eval o).run P w=.ok .skip w':=by
        obtain ⟨dst,op,ty,pos,af,gd⟩:=o
        dsimp only at hop
        subst hop
        show (do Instr.mapUpdate t (a.eval x) (a.eval y) (a.eval z); pure .skip:Sem Next).run P w=_
        simp [h1]
       unfold Oper.wp
       rw [hr,Oper.upon_skip]
       refine hK _ g _ w' (h2.put hd ?_) hdo
       exact .tup rfl (fun i v x hv hx=>by simp at hx)
     · exact hdo.elim
   · exact hdo.elim
 · rename_i t x y z hop
   split at hdo
   · rename_i u kv v hu hkv hv
     split at hdo
     · rename_i s' hs'
       obtain ⟨w',h1,h2⟩:=QgS h (QcZ (h.ev x) u hu) (QcZ (h.ev y) kv hkv) (QcZ (h.ev z) v hv) hs'
       have hr:(execOp a.eval o).run P w=.ok .skip w':=by
        obtain ⟨dst,op,ty,pos,af,gd⟩:=o
        dsimp only at hop
        subst hop
        show (do Instr.mapUpdate t (a.eval x) (a.eval y) (a.eval z); pure .skip:Sem Next).run P w=_
        simp [h1]
       unfold Oper.wp
       rw [hr,Oper.upon_skip]
       refine hK _ g _ w' (h2.put hd ?_) hdo
       exact .tup rfl (fun i v x hv hx=>by simp at hx)
     · exact hdo.elim
   · exact hdo.elim
 · rename_i t x y c hop
   split at hdo
   · rename_i u kv hu hkv
     obtain ⟨v,z,h1,h2,h3⟩:=QnX h (QcZ (h.ev x) u hu) (QcZ (h.ev y) kv hkv) hdo
     have hr:(execOp a.eval o).run P w=.ok (.value v) w:=by
      obtain ⟨dst,op,ty,pos,af,gd⟩:=o
      dsimp only at hop
      subst hop
      exact Qas h1
     exact QbM hr (hK _ g _ w (h.put hd h2) h3)
   · exact hdo.elim
 · rename_i xs ts hop
   split at hdo
   · rename_i x y t t' hxs hts
     split at hdo
     · rename_i u z htt hu hz
       split at hdo
       · rename_i p s' r hap
         obtain ⟨hp,hk⟩:=hdo
         have htt:=Nat.eq_of_beq_eq_true htt
         subst htt
         obtain ⟨v',w',g',h1,h2,h3⟩:=QqN (ty:=o.type) h (h.ev x u hu) (QcZ (h.ev y) _ hz) hap hp
         have hr:(execOp a.eval o).run P w=.ok (.value v') w':=by
          obtain ⟨dst,op,ty,pos,af,gd⟩:=o
          dsimp only at hop
          subst hop
          obtain rfl:xs=#[x,y]:=by cases xs; simpa using hxs
          obtain rfl:ts=#[t,t]:=by cases ts; simpa using hts
          show (do let d ← resolve a.eval ⟨.builtin .append,#[x,y],#[t,t]⟩ ty; invoke d.target d.args:Sem Next).run P w=_
          simp [resolve,invoke,builtin,h1]
         exact QbM hr (hK _ g' _ w' (h2.put hd h3) hk)
       · exact hdo.elim
     · exact hdo.elim
   · exact hdo.elim
 · rename_i xs ts hop
   split at hdo
   · rename_i x y t t' hxs hts
     split at hdo
     · rename_i u kv hu hkv
       split at hdo
       · rename_i s' hs'
         obtain ⟨w',h1,h2⟩:=Qk3 h t' o.type (QcZ (h.ev x) u hu) (QcZ (h.ev y) kv hkv) hs'
         have hr:(execOp a.eval o).run P w=.ok (.value (.tuple #[])) w':=by
          obtain ⟨dst,op,ty,pos,af,gd⟩:=o
          dsimp only at hop
          subst hop
          obtain rfl:xs=#[x,y]:=by cases xs; simpa using hxs
          obtain rfl:ts=#[t,t']:=by cases ts; simpa using hts
          show (do let d ← resolve a.eval ⟨.builtin .delete,#[x,y],#[t,t']⟩ ty; invoke d.target d.args:Sem Next).run P w=_
          simp [resolve,invoke,builtin,h1]
         exact QbM hr (hK _ g _ w' (h2.put hd (.tup rfl (fun i v x hv hx=>by simp at hx))) hdo)
       · exact hdo.elim
     · exact hdo.elim
   · exact hdo.elim
 · rename_i x hop
   split at hdo
   · rename_i t y hx
     have hp:=QcZ (h.ev x) _ hx
     have hp':=hp
     generalize hev:a.eval x=v at hp hp'
     cases hp with
     | @ifc _ v' _ hp =>
      have hr:(execOp a.eval o).run P w=.halt (.panic (.iface t v')) w:=by
       obtain ⟨dst,op,ty,pos,af,gd⟩:=o
       dsimp only at hop
       subst hop
       show (do pure (Next.value (← Instr.panic (a.eval x))):Sem Next).run P w=_
       rw [hev]
       rfl
      unfold Oper.wp
      rw [hr,Oper.upon_panic]
      exact hQp _ g a w _ _ h hp' hdo
   · exact hdo.elim
 · rename_i b t x y ty hop
   split at hdo
   · split at hdo
     · rename_i n r hn
       obtain ⟨c,hr,hz⟩:=QnP h hn
       have hr':(execOp a.eval o).run P w=.ok (.value (.bool (c==r))) w:=by
        obtain ⟨dst,op,ty',pos,af,gd⟩:=o
        dsimp only at hop
        subst hop
        exact hr ty dst ty' pos af gd
       cases c with
       | true =>
        have:=hz rfl
        refine QbM hr' (hK _ g _ w (h.put hd ?_) (hdo.1 this))
        rw [Bool.true_beq]; exact .f (.v _ rfl)
       | false =>
        refine QbM hr' (hK _ g _ w (h.put hd ?_) hdo.2)
        rw [Bool.false_beq]; exact .f (.v _ rfl)
     · exact Qf7 hΓ hU hE h hd hdo hK
   · exact Qf7 hΓ hU hE h hd hdo hK
 · rename_i x xs ts hop
   split at hdo
   · rename_i f sp l n hc
     unfold dcallee at hc
     split at hc
     · rename_i f' l' n' hcal
       split at hc
       · rename_i sp' hsp
         cases hc
         split at hdo
         · rename_i ys hys
           obtain ⟨us,vs,h1,h2,h3⟩:=Qlu h hcal
           have h4:PRs g.H g.B (xs.map a.eval).toList ys:=by simpa using evA_pr h hys
           have h5:=(h2.app h4).app h3
           have hpl:QgL P f=true:=by
            unfold Qr5 at hdo
            dsimp only at hdo
            split at hdo
            · rename_i hh; simp only [Bool.and_eq_true] at hh; exact hh.1
            · exact hdo.elim
           have hcl:=Qok hΔ hU hE h hsp h5 hdo
           rw [show (us.toList++(xs.map a.eval).toList++vs.toList).toArray=us++xs.map a.eval++vs from by simp] at hcl
           obtain ⟨dst,op,ty,pos,af,gd⟩:=o
           dsimp only at hop
           subst hop
           refine Qrn h1 hpl hcl fun e w' hr=>?_
           obtain ⟨s',g',v,y,r1,r2,r3⟩:=hr
           rcases r3 with ⟨rfl,r3⟩ | ⟨rfl,r3⟩
           · exact .inl ⟨v,rfl,hK _ g' _ w' (r1.put hd r2) r3⟩
           · exact .inr ⟨_,rfl,hQp _ g' a w' v y r1 r2 r3⟩
         · exact hdo.elim
       · cases hc
     · cases hc
   · exact Qf7 hΓ hU hE h hd hdo hK
 · exact Qf7 hΓ hU hE h hd hdo hK
theorem Qgh {ops:Array Oper} {o:Oper} {j d:Nat} {want:Bool} (hg:o.guard=some (j,want)) (hD:(ops[j]?).bind (·.dst)=some d) (hd:d<a.tmps.size) :
  Region.wanted o (yielded ops a.tmps)=(match a.tmps.getD d undef with | .bool b=>b==want | _=>false):=by
 unfold Region.wanted yielded
 simp only [hg,hD,Option.bind_some,Array.getD_eq_getD_getElem?,Array.getElem?_eq_getElem hd,Option.getD_some]
 generalize a.tmps[d]=v
 cases v <;> rfl
theorem Qb7 {H:Hp} {B:Hd}:PR H B undef (.tup []):=.tup rfl (fun i v x hv hx=>by simp at hx)
theorem Qb9 {E:Env} {Γ:Specs} {Δ:Specs2} (hΔ:Sound2 P E Δ) {q:PV→PS→Prop} (hQp:∀ s g a w v y,Real w0 H0 m s g a w→PR g.H g.B v y→q y s→Q (.panic [{ v,recovered:=false }]) a w) (hΓ:Sound P E Γ) (hU:Up E) (hE:E w0.K w0.w H0) {ops:Array Oper} {D:List (Option Nat)} (hD:ops.toList.map (·.dst)=D) (hDm:∀ o∈ops.toList,QdB m o.dst=true):∀ (os:List Oper),(∀ o∈os,QdB m o.dst=true)→∀ (s:PS) (g:Gh) (a:Act) (w:World) (k:PS→Prop),Real w0 H0 m s g a w→Qa0 P Γ Δ D q os s k →
  (∀ s' g' a' w',Real w0 H0 m s' g' a' w'→k s'→Q .normal a' w')→wpList P ops Q os a w
 | [],_,s,g,a,w,k,h,hr,hQ=>hQ s g a w h hr
 | o::os,hm,s,g,a,w,k,h,hr,hQ=>by
  have hd:=hm o List.mem_cons_self
  have ih:=fun s g a w h hr=>Qb9 hΔ hQp hΓ hU hE hD hDm os (fun o ho=>hm o (List.mem_cons_of_mem _ ho)) s g a w k h hr hQ
  refine wpList_step fun K hK=>?_
  unfold Qa0 at hr
  split at hr
  · rename_i hg
    rw [if_pos (by simp [Region.wanted,hg])]
    exact QeT hΔ hΓ hU hE h hd hr (fun s' g' a' w' h1 h2=>hK _ _ (ih s' g' a' w' h1 h2)) hQp
  · rename_i j want hg
    split at hr
    · rename_i d hj
      rw [Qap] at hj
      have hDj:(ops[j]?).bind (·.dst)=some d:=by
       rw [← hD,List.getElem?_map,Array.getElem?_toList] at hj
       cases ho:ops[j]? with
       | none=>rw [ho] at hj; cases hj
       | some x=>rw [ho] at hj; simpa using hj
      have hdm:d<a.tmps.size:=by
       rw [h.sz]
       cases ho:ops[j]? with
       | none=>rw [ho] at hDj; cases hDj
       | some x =>
        rw [ho] at hDj
        have:=hDm x (by rw [← Array.getElem?_toList] at ho; exact List.mem_of_getElem? ho)
        simp only [Option.bind_some] at hDj
        rw [hDj] at this
        simpa [QdB] using this
      have hw:=Qgh (a:=a) hg hDj hdm
      split at hr
      · rename_i b hb
        have hv:=QkV h hb
        have h2:=h.look hv
        rw [hv] at hw
        split at hr
        · rcases Qbf hr with ⟨rfl,h1⟩ | ⟨rfl,h1⟩
          · rw [if_pos (by rw [hw]; rfl)]
            exact QeT hΔ hΓ hU hE h2 hd h1 (fun s' g' a' w' h1 h2=>hK _ _ (ih s' g' a' w' h1 h2)) hQp
          · rw [if_neg (by rw [hw]; decide)]
            exact hK _ _ (ih _ g _ w (h2.put hd Qb7) h1)
        · rcases Qbf hr with ⟨rfl,h1⟩ | ⟨rfl,h1⟩
          · rw [if_neg (by rw [hw]; decide)]
            exact hK _ _ (ih _ g _ w (h2.put hd Qb7) h1)
          · rw [if_pos (by rw [hw]; rfl)]
            exact QeT hΔ hΓ hU hE h2 hd h1 (fun s' g' a' w' h1 h2=>hK _ _ (ih s' g' a' w' h1 h2)) hQp
      · rename_i l hb
        obtain ⟨vs,hv,_⟩:=PRs.of_tup (h.env d _ hb)
        rw [hv] at hw
        dsimp only at hw
        rw [if_neg (by rw [hw]; decide)]
        exact hK _ _ (ih _ g _ w (h.put hd Qb7) hr)
      · exact hr.elim
    · exact hr.elim
end
end Go.Proofs.YtmbmbcamecfnkaaGreatDoor
namespace Go.Proofs.YtmbmbcamecfnkaaGreatDoor
open Go.RowKit
set_option linter.unusedVariables false
section
variable {P : Program} {Γ : Specs} {D : List (Option Nat)}
def Sees (D:List (Option Nat)) (o:Oper) (s s':PS):Prop :=
 (o.guard=none∧s'=s)∨∃ j want d,o.guard=some (j,want)∧nth D j=some (some d)∧look s.env d=some (.f (.v (.bool want)))∧s'=QcG s d want
inductive OF (P:Program) (Γ:Specs) (D:List (Option Nat)) (o:Oper) (s s1:PS):Prop
 | val (s':PS) (q:Option Prop) (y:Rs) (nob:Option PO) (hs:Sees D o s s') (ho:opv P Γ s' o.dst o.op=some (q,y,nob)) (hq:∀ p,q=some p→p) (he:s1=(Qko s' nob).put o.dst y.out)
 | pick (s':PS) (d:Nat) (x y:Operand) (b:Bool) (z:PV) (hs:Sees D o s s') (ho:o.op=.pick (.tmp d) x y) (hb:look s'.env d=some (.f (.v (.bool b)))) (hz:(QcG s' d b).ev (if b then x else y)=some z) (he:s1=(QcG s' d b).put o.dst z)
 | skip (j:Nat) (want:Bool) (d:Nat) (b:Bool) (hg:o.guard=some (j,want)) (hj:nth D j=some (some d)) (hb:look s.env d=some (.f (.v (.bool b)))) (hne:(b==want)=false) (he:s1=(QcG s d b).put o.dst (.tup []))
 | none (j:Nat) (want:Bool) (d:Nat) (l:List PV) (hg:o.guard=some (j,want)) (hj:nth D j=some (some d)) (hb:look s.env d=some (.tup l)) (he:s1=s.put o.dst (.tup []))
theorem QdY {s:PS} {d:Nat} {b:Bool} (h:look s.env d=some (.f (.v (.bool b)))) (e:Nat):look (QcG s d b).env e=look s.env e:=by
 unfold QcG PS.put
 dsimp only
 rw [QaC]
 split
 · rename_i he; subst he; exact h.symm
 · rfl
theorem Sees.look {o:Oper} {s s':PS} (h:Sees D o s s') (e:Nat):look s'.env e=look s.env e:=by
 rcases h with ⟨_,rfl⟩ | ⟨j,want,d,_,_,hb,rfl⟩
 · rfl
 · exact QdY hb e
theorem Sees.ob {o:Oper} {s s':PS} (h:Sees D o s s'):s'.ob=s.ob:=by
 rcases h with ⟨_,rfl⟩ | ⟨j,want,d,_,_,hb,rfl⟩ <;> rfl
theorem QdR {s:PS} {dst:Option Nat} {y:PV} {e:Nat} (h:dst≠some e):look (s.put dst y).env e=look s.env e:=by
 cases dst with
 | none=>rfl
 | some d=>unfold PS.put; dsimp only; rw [QaC,if_neg (fun hc=>h (by rw [hc]))]
theorem Qrj {s:PS} {d:Nat} {y:PV}:look (s.put (some d) y).env d=some y:=by
 unfold PS.put; dsimp only; rw [QaC,if_pos rfl]
theorem QeB {s:PS} {dst:Option Nat} {y:PV}:(s.put dst y).ob=s.ob:=by cases dst <;> rfl
theorem OF.look {o:Oper} {s s1:PS} (h:OF P Γ D o s s1) {e:Nat} (hne:o.dst≠some e):look s1.env e=look s.env e:=by
 cases h with
 | val s' q y nob hs ho hq he=>subst he; rw [QdR hne,Qe3,hs.look]
 | pick s' d x y b z hs ho hb hz he=>subst he; rw [QdR hne,QdY hb,hs.look]
 | skip j want d b hg hj hb hn he=>subst he; rw [QdR hne,QdY hb]
 | none j want d l hg hj hb he=>subst he; rw [QdR hne]
theorem OF.ob {o:Oper} {s s1:PS} (h:OF P Γ D o s s1):∃ nob,s1.ob=s.ob++obL nob:=by
 cases h with
 | val s' q y nob hs ho hq he=>subst he; exact ⟨nob,by rw [QeB,Qc7,hs.ob]⟩
 | pick s' d x y b z hs ho hb hz he=>subst he; exact ⟨.none,by rw [QeB]; show s'.ob=_; rw [hs.ob]; simp [obL]⟩
 | skip j want d b hg hj hb hn he=>subst he; exact ⟨.none,by rw [QeB]; simp [obL,QcG,PS.put]⟩
 | none j want d l hg hj hb he=>subst he; exact ⟨.none,by rw [QeB]; simp [obL]⟩
theorem Qqo {o:Oper} {s s0:PS} {k:PS→Prop} (hs:Sees D o s0 s) (h:doV P Γ s o k):∃ s1,OF P Γ D o s0 s1∧k s1:=by
 unfold doV at h
 split at h
 · rename_i p x y ho
   obtain ⟨h1,h2⟩:=QiB h
   exact ⟨_,.val s p x y hs ho h1 rfl,Qhc h2⟩
 · exact h.elim
theorem Qlo {o:Oper} {s s0:PS} {k:PS→Prop} {q:PV→PS→Prop} (hst:Qen o.op=false) (hs:Sees D o s0 s) (h:doOp P Γ noD s o k q):∃ s1,OF P Γ D o s0 s1∧k s1:=by
 unfold doOp at h
 split at h
 · rename_i d x y hop
   split at h
   · rename_i b hb
     rcases Qbf h with ⟨rfl,h1⟩ | ⟨rfl,h1⟩
     · split at h1
       · rename_i z hz; exact ⟨_,.pick s d x y true z hs hop hb hz rfl,h1⟩
       · exact h1.elim
     · split at h1
       · rename_i z hz; exact ⟨_,.pick s d x y false z hs hop hb hz rfl,h1⟩
       · exact h1.elim
   · exact h.elim
 · rename_i t x y hop; rw [hop] at hst; cases hst
 · rename_i t x y z hop; rw [hop] at hst; cases hst
 · rename_i t x y z hop; rw [hop] at hst; cases hst
 · rename_i t x y c hop; rw [hop] at hst; cases hst
 · rename_i xs ts hop; rw [hop] at hst; cases hst
 · rename_i xs ts hop; rw [hop] at hst; cases hst
 · rename_i x hop; rw [hop] at hst; cases hst
 · rename_i b t x y ty hop
   split at h
   · rename_i hk; cases hk
   · exact Qqo hs h
 · rename_i x xs ts hop
   split at h
   · rename_i f sp l n hc
     unfold dcallee noD at hc
     split at hc <;> cases hc
   · exact Qqo hs h
 · exact Qqo hs h
def Links (P:Program) (Γ:Specs) (D:List (Option Nat)) (os:List Oper) (st:Nat→PS):Prop:=∀ i o,os[i]?=some o→OF P Γ D o (st i) (st (i+1))
theorem Qfv {q:PV→PS→Prop}:∀ (os:List Oper) (s:PS) (k:PS→Prop),(∀ o∈os,Qen o.op=false)→Qa0 P Γ noD D q os s k→∃ st:Nat→PS,st 0=s∧Links P Γ D os st∧k (st os.length)
 | [],s,k,_,h=>⟨fun _=>s,rfl,fun i o hi=>by simp at hi,h⟩
 | o::os,s,k,hst,h=>by
  have ih:=fun s h=>Qfv (q:=q) os s k (fun o ho=>hst o (List.mem_cons_of_mem _ ho)) h
  have key:∃ s1,OF P Γ D o s s1∧Qa0 P Γ noD D q os s1 k:=by
   unfold Qa0 at h
   split at h
   · rename_i hg; exact Qlo (hst o List.mem_cons_self) (.inl ⟨hg,rfl⟩) h
   · rename_i j want hg
     split at h
     · rename_i d hj
       split at h
       · rename_i b hb
         split at h
         · rcases Qbf h with ⟨rfl,h1⟩ | ⟨rfl,h1⟩
           · exact Qlo (hst o List.mem_cons_self) (.inr ⟨j,_,d,hg,hj,hb,rfl⟩) h1
           · exact ⟨_,.skip j true d false hg hj hb rfl rfl,h1⟩
         · rcases Qbf h with ⟨rfl,h1⟩ | ⟨rfl,h1⟩
           · exact ⟨_,.skip j false d true hg hj hb rfl rfl,h1⟩
           · exact Qlo (hst o List.mem_cons_self) (.inr ⟨j,_,d,hg,hj,hb,rfl⟩) h1
       · rename_i l hb; exact ⟨_,.none j want d l hg hj hb rfl,h⟩
       · exact h.elim
     · exact h.elim
  obtain ⟨s1,h1,h2⟩:=key
  obtain ⟨st,h3,h4,h5⟩:=ih s1 h2
  refine ⟨fun i=>match i with | 0=>s | i+1=>st i,rfl,fun i o' hi=>?_,h5⟩
  cases i with
  | zero=>simp at hi; subst hi; show OF P Γ D o s (st 0); rw [h3]; exact h1
  | succ i=>exact h4 i o' (by simpa using hi)
theorem QeN {d:Nat}:∀ {l:List Nat} {i j:Nat},idxL l d i=some j→i≤j∧l[j - i]?=some d
 | [],i,j,h=>by simp [idxL] at h
 | e::l,i,j,h=>by
  unfold idxL at h
  split at h
  · rename_i he
    cases h
    rw [Nat.sub_self,Nat.eq_of_beq_eq_true he]
    exact ⟨Nat.le_refl _,rfl⟩
  · obtain ⟨h1,h2⟩:=QeN h
    refine ⟨by omega,?_⟩
    rw [show j - i=(j - (i+1))+1 by omega]
    exact h2
theorem QjS {d:Nat}:∀ {l:List Nat} {i:Nat},idxL l d i=none→d ∉ l
 | [],_,_=>by simp
 | e::l,i,h=>by
  unfold idxL at h
  split at h
  · cases h
  · rename_i he
    have:=QjS h
    intro hm
    rcases List.mem_cons.1 hm with rfl | hm
    · simp at he
    · exact this hm
theorem Sees.ev {o:Oper} {s s':PS} (h:Sees D o s s') (x:Operand):s'.ev x=s.ev x:=by
 cases x with
 | tmp d=>exact h.look d
 | const v=>cases v <;> rfl
 | func f=>rfl
 | global k=>rfl
theorem QmA {s:PS} {d:Nat} {b:Bool} (h:look s.env d=some (.f (.v (.bool b)))) (x:Operand):(QcG s d b).ev x=s.ev x:=by
 cases x with
 | tmp e=>exact QdY h e
 | const v=>cases v <;> rfl
 | func f=>rfl
 | global k=>rfl
theorem Real.drew {w0:Cx} {H0:Hp} {m:Nat} {s:PS} {g:Gh} {a:Act} {w:World} (h:Real w0 H0 m s g a w):Real w0 H0 m s g a { w with drawn:=w.drawn+1 } :=
 ⟨h.ext.grown (row:=none) ⟨rfl,rfl,rfl,Nat.le_refl _,fun _ _ _=>rfl⟩ (fun b hb=>by cases hb) h.ext.le h.ext.fro h.ext.new,⟨h.obs.fro,h.obs.lt,fun o x u hx hu=>PO.mono (h.obs.hold o x u hx hu) ⟨⟨rfl,rfl,rfl,Nat.le_refl _,fun _ _=>rfl⟩,Hp.le_refl _,h.obs.fro,fun b j v h1 h2=>by rw [h1] at h2; cases h2⟩ (fun _ _ h=>h),h.obs.apart,h.obs.dom,h.obs.kept⟩,h.full,h.env,h.sz,h.dfr,h.ptr⟩
theorem Qsj {E:Env} {w0:Cx} {H0:Hp} {Δ:Specs2} (hΔ:Sound2 P E Δ) {q:PV→PS→Prop} (hΓ:Sound P E Γ) (hU:Up E) (hE:E w0.K w0.w H0) (hmix:P.follows .mixedOrders=true) {m:Nat} {s:PS} {g:Gh} {a:Act} {w:World} {Q:Exit→Act→World→Prop} {ops:Array Oper} {id f:Nat} {k:PS→Prop}
  (hDm:∀ o∈ops.toList,QdB m o.dst=true) (hg:QuD ops.toList=true) (h:Real w0 H0 m s g a w) (hr:QhE P Γ Δ q ops f (Array.replicate ops.size false) s k)
  (hQ:∀ s' g' a' w',Real w0 H0 m s' g' a' w'→k s'→Q .normal a' w') (hQp:∀ s g a w v y,Real w0 H0 m s g a w→PR g.H g.B v y→q y s→Q (.panic [{ v,recovered:=false }]) a w):(Code.region id ops true).wp P Q a w:=by
 unfold QuD at hg
 simp only [Bool.and_eq_true,List.all_eq_true,Option.isNone_iff_eq_none] at hg
 refine Qet hmix (fun L a w=>∃ s g f,Real w0 H0 m s g a w∧QhE P Γ Δ q ops f L s k) ⟨s,g,f,h.drew,hr⟩ ?_ ?_
 · rintro L a w ⟨s,g,f,hR,hr⟩ i hi hl hd
   have hio:ops[i]?=some ops[i]:=Array.getElem?_eq_getElem hi
   have hmem:ops[i]∈ops.toList:=by simp
   have hrd:i∈Region.ready .any ops L:=mem_ready.2 ⟨hl,ops[i],hio,hd _ hio⟩
   cases f with
   | zero=>exact hr.elim
   | succ f =>
    unfold QhE at hr
    split at hr
    · rename_i hnil; rw [hnil] at hrd; cases hrd
    · rename_i j l hne
      rw [hne] at hrd
      have hdo:=Qi7 hr i hrd
      rw [hio] at hdo
      dsimp only at hdo
      refine Qh5 hio fun K hK=>?_
      rw [if_pos (by simp [Region.wanted,hg.2 _ hmem])]
      exact QeT hΔ hΓ hU hE hR (hDm _ hmem) hdo (fun s' g' a' w' h1 h2=>hK _ _ ⟨s',g',f,h1,h2⟩) hQp
 · rintro L a w ⟨s,g,f,hR,hr⟩ hnil
   cases f with
   | zero=>exact hr.elim
   | succ f =>
    unfold QhE at hr
    rw [hnil] at hr
    exact hQ s g a w hR hr
theorem Qiy {o:Oper} {a:Act} {c x y:Operand} {b:Bool} {w:World} (ho:o.op=.pick c x y) (hv:a.eval c=.bool b):(execOp a.eval o).run P w=.ok (.value (a.eval (if b then x else y))) w:=by
 unfold execOp
 rw [ho]
 dsimp only
 rw [hv]
 cases b <;> simp [asBool]
theorem Qn0 {g:Gh} {t ty:TypeId} {ts:Array TypeId} {vs:Array Value} {v:Value} {x y:PV} (ht:ts[0]?=some t) (hvs:vs[0]?=some v) (hx:PR g.H g.B v x) (h:lenP P t x=some y):∃ u,(∀ w,(Builtin.len_ ts ty vs).run P w=.ok u w)∧PR g.H g.B u y:=by
 unfold lenP at h
 split at h
 · rename_i e z hu
   split at h
   · rename_i k n get hv
     cases h
     cases hx with
     | f hx=>cases hx with
      | v=>cases hv
      | zn=>cases hv
      | @sl _ k2 n2 get2 ao cap hv2 =>
       rw [hv] at hv2
       cases hv2
       exact ⟨.int .i64 n,fun w=>by simp [Builtin.len_,ht,hvs,run_underlying hu,goInt],.f (.v _ rfl)⟩
   · split at h
     · rename_i ao n cap hv
       cases h
       have:=hx.val
       subst this
       exact ⟨.int .i64 n,fun w=>by simp [Builtin.len_,ht,hvs,run_underlying hu,goInt],.f (.v _ rfl)⟩
     · cases h
 · rename_i str hu
   cases h
   have:=hx.val
   subst this
   exact ⟨.int .i64 str.size,fun w=>by simp [Builtin.len_,ht,hvs,run_underlying hu,goInt],.f (.v _ rfl)⟩
 · cases h
theorem Qk6 {lo:Nat→Prop} {ob:List PO} {s:PS} {g:Gh} {w0:World} {t ty:TypeId} {ts:Array TypeId} {vs:Array Value} {v:Value} {x y:PV} (hs:∀ (i:Nat) x,s.ob[i]?=some x→ob[i]?=some x) (hO:Obs lo ob g w0) (ht:ts[0]?=some t) (hvs:vs[0]?=some v) (hx:PR g.H g.B v x) (h:lenW P s t x=some y):∃ u,(∀ w,(Builtin.len_ ts ty vs).run P w=.ok u w)∧PR g.H g.B u y:=by
 unfold lenW at h
 split at h
 · rename_i o
   split at h
   · rename_i e e' z hu ho
     rw [Qap] at ho
     split at h
     · rename_i k n get hv
       cases h
       cases hx with
       | @wr _ v hb _ =>
        obtain ⟨ao,n2,cap,rfl⟩:=hO.ownS (hs _ _ ho) hb
        obtain ⟨k2,get2,vs2,h1,_⟩:=hO.own (hs _ _ ho) hb
        rw [hv] at h1
        cases h1
        exact ⟨.int .i64 n,fun w=>by simp [Builtin.len_,ht,hvs,run_underlying hu,goInt],.f (.v _ rfl)⟩
     · cases h
   · cases h
 · cases h
theorem Qk7 {lo:Nat→Prop} {ob:List PO} {s:PS} {g:Gh} {a:Act} {w0:World} {o:Oper} {q:Option Prop} {y:Rs} {nob:Option PO} (hk:QiL o.op=true) (h:opv P Γ s o.dst o.op=some (q,y,nob)) (hq:∀ p,q=some p→p)
  (hs:∀ (i:Nat) x,s.ob[i]?=some x→ob[i]?=some x) (hO:Obs lo ob g w0) (hev0:∀ x∈Qat o.op,∀ y,s.ev x=some y→PR g.H g.B (a.eval x) y) :
  nob=none∧∃ u,(∀ w,(execOp a.eval o).run P w=.ok (.value u) w)∧PR g.H g.B u y.out:=by
 obtain ⟨dst,op,ty,pos,af,gd⟩:=o
 dsimp only at h hev0 hk
 have hev:∀ x∈Qat op,∀ y,s.fl x=some y→PR g.H g.B (a.eval x) y:=fun x hx=>QcZ (hev0 x hx)
 unfold QiL at hk
 split at hk
 · rename_i x
   unfold opv at h
   dsimp only at h
   split at h
   · rename_i z hz
     cases h
     exact ⟨rfl,_,fun w=>rfl,hev0 x (by simp [Qat]) _ hz⟩
   · cases h
 · rename_i b t x y yt
   unfold opv at h
   dsimp only at h
   split at h
   · rename_i u0 v0 hu hv
     split at h
     · rename_i u v hu1 hv1
       have h1:=(hev x (by simp [Qat]) _ hu).sval hu1
       have h2:=(hev y (by simp [Qat]) _ hv).sval hv1
       split at h
       · rename_i m n
         cases h
         have h3:=hq _ rfl
         refine ⟨rfl,.string (m++n),fun w=>Qas (s:=do eqGuard .add t x y (a.eval x) (a.eval y); binOp .add t (a.eval x) (a.eval y)) ?_,.f (.v _ rfl)⟩
         rw [h1,h2]
         have h4:¬ (((m.size+n.size:Nat):Int) > IntKind.i64.max):=by omega
         simp only [eqGuard,binOp,Op.stringOp,if_neg h4]
         rfl
       · unfold oneP at h
         split at h
         · rename_i r hr
           split at h
           · rename_i h5
             cases h
             refine ⟨rfl,r,fun w=>?_,.f (.v r h5)⟩
             show (do pure (Next.value (← (do eqGuard b t x y (a.eval x) (a.eval y); binOp b t (a.eval x) (a.eval y)))):Sem Next).run P w=_
             rw [h1,h2]
             exact Qas (Qiz _ hr w)
           · cases h
         · cases h
     · cases h
   · rename_i t' y' hu hv
     have h2:=(hev y (by simp [Qat]) _ hv).val
     have hx:=hev x (by simp [Qat]) _ hu
     generalize hxe:a.eval x=ux at hx
     cases hx with
     | @ifc _ v _ hx =>
      split at h
      · rename_i ms hd
        cases h
        refine ⟨rfl,.bool true,fun w=>Qas (s:=do eqGuard .neq t x y (a.eval x) (a.eval y); binOp .neq t (a.eval x) (a.eval y)) (u:=.bool true) ?_,.f (.v _ rfl)⟩
        rw [hxe,h2]
        simp [eqGuard,binOp,Qc0 hd]
      · rename_i ms hd
        cases h
        refine ⟨rfl,.bool false,fun w=>Qas (s:=do eqGuard .eql t x y (a.eval x) (a.eval y); binOp .eql t (a.eval x) (a.eval y)) (u:=.bool false) ?_,.f (.v _ rfl)⟩
        rw [hxe,h2]
        simp [eqGuard,binOp,Qc0 hd]
      · cases h
   · rename_i l m hu hv
     split at h
     · rename_i r hr
       cases h
       exact ⟨rfl,.bool r,fun w=>Qas (s:=do eqGuard b t x y (a.eval x) (a.eval y); binOp b t (a.eval x) (a.eval y)) (QmQ hr (hev x (by simp [Qat]) _ hu) (hev y (by simp [Qat]) _ hv) w),.f (.v _ rfl)⟩
     · cases h
   · cases h
 · rename_i xs ts
   unfold opv at h
   dsimp only at h
   have hv0:∀ x,evs s xs.toList=some [x]→∃ v,(xs.map a.eval)[0]?=some v∧PR g.H g.B v x:=by
    intro x hx
    have h1:=QfA (a:=a) (g:=g) (fun x hx=>hev x (by simpa [Qat] using hx)) hx
    have hvs:(xs.map a.eval)[0]?=some ((xs.map a.eval).getD 0 undef):=by
     have:=h1.1
     simp only [List.length_map,Array.length_toList,List.length_cons,List.length_nil] at this
     simp [Array.getD,this]
    refine ⟨_,hvs,h1.2 0 _ x ?_ rfl⟩
    rw [← Array.toList_map,Array.getElem?_toList]; exact hvs
   split at h
   · rename_i o' t hx ht
     split at h
     · rename_i z hz
       cases h
       obtain ⟨v,hvs,h2⟩:=hv0 _ hx
       obtain ⟨u,h3,h4⟩:=Qk6 (ty:=ty) hs hO ht hvs h2 hz
       refine ⟨rfl,u,fun w=>?_,h4⟩
       show (do let d ← resolve a.eval ⟨.builtin .len,xs,ts⟩ ty; invoke d.target d.args:Sem Next).run P w=_
       simp [resolve,invoke,builtin,h3]
     · cases h
   · rename_i x t hnw hx ht
     split at h
     · rename_i z hz
       cases h
       obtain ⟨v,hvs,h2⟩:=hv0 _ hx
       obtain ⟨u,h3,h4⟩:=Qn0 (ty:=ty) ht hvs h2 hz
       refine ⟨rfl,u,fun w=>?_,h4⟩
       show (do let d ← resolve a.eval ⟨.builtin .len,xs,ts⟩ ty; invoke d.target d.args:Sem Next).run P w=_
       simp [resolve,invoke,builtin,h3]
     · cases h
   · cases h
 · cases hk
theorem Qob {E:Env} {w0:Cx} {H0:Hp} {Δ:Specs2} (hΔ:Sound2 P E Δ) {q:PV→PS→Prop} (hΓ:Sound P E Γ) (hU:Up E) (hE:E w0.K w0.w H0) (hmix:P.follows .mixedOrders=true) {m:Nat} {s:PS} {g:Gh} {a:Act} {w:World} {Q:Exit→Act→World→Prop} {os:List Oper} {id n:Nat} {k:PS→Prop}
  (hok:QmT os m n=true) (hnl:n≤os.length) (hst:∀ o∈os.take n,Qen o.op=false) (hDm:∀ o∈os,QdB m o.dst=true) (h:Real w0 H0 m s g a w) (hsplit:Qa0 P Γ noD (os.map (·.dst)) q (os.take n) s (fun s'=>Qa0 P Γ Δ (os.map (·.dst)) q (os.drop n) s' k))
  (hQ:∀ s' g' a' w',Real w0 H0 m s' g' a' w'→k s'→Q .normal a' w') (hQp:∀ s g a w v y,Real w0 H0 m s g a w→PR g.H g.B v y→q y s→Q (.panic [{ v,recovered:=false }]) a w) (hQc:∀ c d v a w,Q (.panic c) (Act.put a d v) w→Q (.panic c) a w):(Code.region id os.toArray true).wp P Q a w:=by
 unfold QmT at hok
 simp only [Bool.and_eq_true] at hok
 obtain ⟨hok,hopd⟩:=hok
 generalize hM:MOf [] os=M at hok hopd
 generalize hLt:LtOf os M n=Lt at hok hopd
 generalize hds:Qj1 (os.take n)=dsts at hok hopd
 obtain ⟨st,hs0,hlinks,hkn⟩:=Qfv _ _ _ hst hsplit
 rw [List.length_take,Nat.min_eq_left hnl] at hkn
 subst hs0
 have hfk:=hok
 unfold Qf5 at hfk
 simp only [Bool.and_eq_true,beq_iff_eq,decide_eq_true_eq,List.all_eq_true] at hfk
 obtain ⟨⟨⟨⟨⟨⟨⟨⟨f1,f2⟩,f3⟩,f4⟩,f5⟩,f6⟩,f7⟩,fsel⟩,flt⟩:=hfk
 have hdl:dsts.length=n:=by have:=congrArg List.length f1; simpa [hnl] using this.symm
 have hdst:∀ (i:Nat) (o:Oper),(os.take n)[i]?=some o→∃ d,o.dst=some d∧dsts[i]?=some d:=by
  intro i o hi
  have:=congrArg (fun l=>l[i]?) f1
  simp only [List.getElem?_map,hi,Option.map_some] at this
  cases hd:dsts[i]? with
  | none=>rw [hd] at this; cases this
  | some d=>rw [hd] at this; simp only [Option.map_some,Option.some.injEq] at this; exact ⟨d,this,rfl⟩
 have hDat:∀ (j d:Nat),nth (os.map (·.dst)) j=some (some d)→j<n→dsts[j]?=some d:=by
  intro j d hj hjn
  rw [Qap,List.getElem?_map] at hj
  cases ho:os[j]? with
  | none=>rw [ho] at hj; cases hj
  | some o =>
   rw [ho] at hj
   simp only [Option.map_some,Option.some.injEq] at hj
   obtain ⟨d',h1,h2⟩:=hdst j o (by rw [List.getElem?_take,if_pos hjn]; exact ho)
   rw [h1] at hj; cases hj; exact h2
 have hnodup:∀ (i j d:Nat),dsts[i]?=some d→dsts[j]?=some d→i=j:=by
  intro i j d hi hj
  obtain ⟨hil,hie⟩:=List.getElem?_eq_some_iff.1 hi
  obtain ⟨hjl,hje⟩:=List.getElem?_eq_some_iff.1 hj
  rcases Nat.lt_trichotomy i j with hlt | hlt | hlt
  · exact absurd (hie.trans hje.symm) ((List.pairwise_iff_getElem.1 f2) i j hil hjl hlt)
  · exact hlt
  · exact absurd (hje.trans hie.symm) ((List.pairwise_iff_getElem.1 f2) j i hjl hil hlt)
 -- look along the chain
 have hlook:∀ (d k i:Nat),i≤k→k≤n→(∀ l:Nat,i≤l→l<k→dsts[l]?≠some d)→look (st k).env d=look (st i).env d:=by
  intro d k
  induction k with
  | zero=>intro i hi _ _; obtain rfl:i=0:=(by omega); rfl
  | succ k ih =>
   intro i hi hk hno
   by_cases hik:i=k+1
   · subst hik; rfl
   · have hkl:k<os.length:=by omega
     have hko:(os.take n)[k]?=some (os[k]):=by rw [List.getElem?_take,if_pos (by omega)]; exact List.getElem?_eq_getElem hkl
     obtain ⟨d',h1,h2⟩:=hdst k _ hko
     have:=(hlinks k _ hko).look (e:=d) (fun hc=>hno k (by omega) (by omega) (by rw [h2]; rw [h1] at hc; exact hc))
     rw [this]
     exact ih i (by omega) (by omega) (fun l h1 h2=>hno l h1 (by omega))
 have hobs:∀ (k i:Nat),i≤k→k≤n→∃ l,(st k).ob=(st i).ob++l:=by
  intro k
  induction k with
  | zero=>intro i hi _; obtain rfl:i=0:=(by omega); exact ⟨[],by simp⟩
  | succ k ih =>
   intro i hi hk
   by_cases hik:i=k+1
   · subst hik; exact ⟨[],by simp⟩
   · have hko:(os.take n)[k]?=some (os[k]'(by omega)):=by rw [List.getElem?_take,if_pos (by omega)]; exact List.getElem?_eq_getElem (by omega)
     obtain ⟨nob,h1⟩:=(hlinks k _ hko).ob
     obtain ⟨l,h2⟩:=ih i (by omega) (by omega)
     exact ⟨l++obL nob,by rw [h1,h2,List.append_assoc]⟩
 have hlast:∀ (i d:Nat),dsts[i]?=some d→look (st n).env d=look (st (i+1)).env d:=by
  intro i d hi
  have hil:=(List.getElem?_eq_some_iff.1 hi).1
  exact hlook d n (i+1) (by omega) (Nat.le_refl _) (fun l h1 h2 hc=>by have:=hnodup l i d hc hi; omega)
 refine QfG hmix g (fun g g'=>g.H.le g'.H∧g.B.le g'.B) (fun g w=>ExtK w0 H0 w g.H∧Obs w0.K (st n).ob g w)
  (fun i g v=>(∀ x d,dsts[i]?=some d→look (st n).env d=some x→PR g.H g.B v x)∧((st i).ob.length<(st (i+1)).ob.length→∃ u,g.B (st i).ob.length=some u))
  (fun i g=>i<n→(st i).ob.length<(st (i+1)).ob.length→g.B (st i).ob.length=none) dsts n M Lt (fun h=>by cases h) (fun _ c d v a w hc=>hQc _ _ _ _ _ hc) (by rw [h.sz]; exact hok)
  (fun g=>⟨Hp.le_refl _,fun _ _ h=>h⟩) (fun g g' g'' h1 h2=>⟨Hp.le_trans h1.1 h2.1,fun _ _ h=>h2.2 _ _ (h1.2 _ _ h)⟩)
  (fun i g g' t hF hle=>⟨fun x d hd hx=>(hF.1 x d hd hx).mono hle.1 hle.2,fun hlt=>by obtain ⟨u,hu⟩:=hF.2 hlt; exact ⟨u,hle.2 _ _ hu⟩⟩)
  (fun g w hI=>⟨hI.1.grown (row:=none) ⟨rfl,rfl,rfl,Nat.le_refl _,fun _ _ _=>rfl⟩ (fun b hb=>by cases hb) hI.1.le hI.1.fro hI.1.new,⟨hI.2.fro,hI.2.lt,fun o x u hx hu=>PO.mono (hI.2.hold o x u hx hu) ⟨⟨rfl,rfl,rfl,Nat.le_refl _,fun _ _=>rfl⟩,Hp.le_refl _,hI.2.fro,fun b j v h1 h2=>by rw [h1] at h2; cases h2⟩ (fun _ _ h=>h),hI.2.apart,hI.2.dom,hI.2.kept⟩⟩)
  ⟨h.ext,?_⟩ (fun i hi _ hlt=>?_) (fun i o hio=>?_) (fun a' g' w' hsz hdf hout hI hle hF=>?_)
 · obtain ⟨l,hl⟩:=hobs n 0 (Nat.zero_le _) (Nat.le_refl _)
   rw [hl]; exact h.obs.push l
 · cases hb:g.B (st i).ob.length with
   | none=>rfl
   | some u =>
    have h1:=h.obs.dom _ u hb
    obtain ⟨l,hl⟩:=hobs i 0 (Nat.zero_le _) (by omega)
    rw [hl,List.length_append] at h1
    omega
 · -- the steps
   have hin:i<n:=by
    have:=(List.getElem?_eq_some_iff.1 hio).1
    rw [List.length_take] at this; omega
   obtain ⟨di,hdi,hdsi⟩:=hdst i o hio
   have hof:=hlinks i o hio
   have hop:=List.all_eq_true.1 hopd (o,i) (by rw [List.mem_zipIdx_iff_getElem?]; exact hio)
   unfold opOkD at hop
   simp only [Bool.and_eq_true,List.all_eq_true] at hop
   obtain ⟨⟨ho1,ho2⟩,ho3⟩:=hop
   have hslot:∀ (a':Act) (g':Gh),(∀ e,e ∉ dsts→a'.tmps.getD e undef=a.tmps.getD e undef)→(g.H.le g'.H∧g.B.le g'.B) →
     (∀ j d,Qax o j=true→dsts[j]?=some d→(∀ x d',dsts[j]?=some d'→look (st n).env d'=some x→PR g'.H g'.B (a'.tmps.getD d undef) x)∧((st j).ob.length<(st (j+1)).ob.length→∃ u,g'.B (st j).ob.length=some u)) →
     ∀ (d:Nat) y,Qcy dsts i o (.tmp d)=true→look (st i).env d=some y→PR g'.H g'.B (a'.tmps.getD d undef) y:=by
    intro a' g' hout hle hF d y hok hy
    unfold Qcy at hok
    dsimp only at hok
    split at hok
    · rename_i j hj
      rw [Bool.and_eq_true] at hok
      have hji:j<i:=by simpa using hok.1
      have hd:=(QeN hj).2
      rw [Nat.sub_zero] at hd
      refine (hF j d hok.2 hd).1 y d hd ?_
      rw [hlook d n i (by omega) (Nat.le_refl _) (fun l h1 h2 hc=>by have:=hnodup l j d hc hd; omega)]
      exact hy
    · rename_i hj
      have hnd:=QjS hj
      rw [hout d hnd]
      have:look (st i).env d=look (st 0).env d:=hlook d i 0 (Nat.zero_le _) (by omega) (fun l h1 h2 hc=>hnd (List.mem_of_getElem? hc))
      rw [this] at hy
      exact (h.env d y hy).mono hle.1 hle.2
   have hoper:∀ (a':Act) (g':Gh),(∀ e,e ∉ dsts→a'.tmps.getD e undef=a.tmps.getD e undef)→(g.H.le g'.H∧g.B.le g'.B) →
     (∀ j d,Qax o j=true→dsts[j]?=some d→(∀ x d',dsts[j]?=some d'→look (st n).env d'=some x→PR g'.H g'.B (a'.tmps.getD d undef) x)∧((st j).ob.length<(st (j+1)).ob.length→∃ u,g'.B (st j).ob.length=some u)) →
     ∀ x∈Qat o.op,∀ y,(st i).ev x=some y→PR g'.H g'.B (a'.eval x) y:=by
    intro a' g' hout hle hF x hx y hy
    cases x with
    | tmp d=>exact hslot a' g' hout hle hF d y (ho1 _ hx) hy
    | const v=>exact Qf6 hy
    | func f=>cases hy; exact .f (.v _ rfl)
    | global k=>cases hy; exact .f (.v _ rfl)
   have hval:∀ (s1:PS) (y:PV) (g':Gh) (u:Value),st (i+1)=s1.put o.dst y→PR g'.H g'.B u y→∀ x d,dsts[i]?=some d→look (st n).env d=some x→PR g'.H g'.B u x:=by
    intro s1 y g' u h1 h2 x d hd hx
    rw [hdsi] at hd
    cases hd
    rw [hlast i di hdsi,h1,hdi,Qrj] at hx
    cases hx; exact h2
   have hobl:∀ (s1:PS) (y:PV),st (i+1)=s1.put o.dst y→s1.ob=(st i).ob→¬ (st i).ob.length<(st (i+1)).ob.length:=by
    intro s1 y h1 h2
    rw [h1,QeB,h2]; omega
   unfold Qja
   cases hc:Lt.contains i with
   | true =>
    dsimp only
    rw [hc] at ho3
    dsimp only at ho3
    split at ho3
    · rename_i e k hoe hog
      intro a' w' g' hout hI hle hF
      cases hof with
      | pick s' d x y b z hs ho=>rw [hoe] at ho; cases ho
      | skip j want d b hg=>rw [hog] at hg; cases hg
      | none j want d l hg=>rw [hog] at hg; cases hg
      | val s' q y nob hs ho hq he =>
       rcases hs with ⟨_,rfl⟩ | ⟨j,want,d,hg,_⟩
       · rw [hoe] at ho
         unfold opv at ho
         dsimp only at ho
         split at ho
         · rename_i l hl
           split at ho
           · rename_i z hz
             cases ho
             have hx:=hoper a' g' hout hle hF (.tmp e) (by rw [hoe]; simp [Qat]) _ (fl_tup hl)
             obtain ⟨u,h1,h2,vs,h3,h4⟩:=hx.tupAt (P:=P) (w:=w') hz
             refine ⟨u,?_,hval _ _ g' u he h2,fun hlt=>absurd hlt (hobl _ _ he (by rfl))⟩
             obtain ⟨dst,op,ty,pos,af,gd⟩:=o
             dsimp only at hoe hog hdi
             subst hoe hog hdi
             exact QjN h3 h4
           · cases ho
         · cases ho
       · rw [hog] at hg; cases hg
    · rename_i e x y hoe hog
      intro a' w' g' hout hI hle hF
      cases hof with
      | pick s' d x' y' b z hs ho hb hz he =>
       rw [hoe] at ho
       cases ho
       rcases hs with ⟨_,rfl⟩ | ⟨j,want,d',hg,_⟩
       · have hv:=(hoper a' g' hout hle hF (.tmp e) (by rw [hoe]; simp [Qat]) _ hb).val
         have hzz:PR g'.H g'.B (a'.eval (if b then x else y)) z:=by
          rw [QmA hb] at hz
          exact hoper a' g' hout hle hF _ (by rw [hoe]; cases b <;> simp [Qat]) z hz
         refine ⟨a'.eval (if b then x else y),.inl ⟨by simp [Region.wanted,hog],fun w=>?_⟩,hval _ _ g' _ he hzz,fun hlt=>absurd hlt (hobl _ _ he rfl)⟩
         exact Qiy hoe hv
       · rw [hog] at hg; cases hg
      | val s' q y nob hs ho hq he =>
       rw [hoe] at ho
       unfold opv at ho
       cases ho
      | skip j want d b hg=>rw [hog] at hg; cases hg
      | none j want d l hg=>rw [hog] at hg; cases hg
    · intro a' w' g' hout hI hle hF
      have hguard:∀ j want d,o.guard=some (j,want)→nth (os.map (·.dst)) j=some (some d)→Qcy dsts i o (.tmp d)=true∧(os.toArray[j]?).bind (·.dst)=some d:=by
       intro j want d hg hj
       rw [hg] at ho2
       rw [Bool.and_eq_true] at ho2
       have hji:j<i:=by simpa using ho2.1
       have hd:=hDat j d hj (by omega)
       refine ⟨?_,?_⟩
       · unfold Qcy
         dsimp only
         split
         · rename_i j' hj'
           have:=(QeN hj').2
           rw [Nat.sub_zero] at this
           rw [hnodup j' j d this hd,Bool.and_eq_true]; exact ho2
         · rfl
       · rw [Qap,List.getElem?_map] at hj
         rw [List.getElem?_toArray]
         cases hoj:os[j]? with
         | none=>rw [hoj] at hj; cases hj
         | some x=>rw [hoj] at hj; simpa using hj
      have hbool:∀ j want d b,o.guard=some (j,want)→nth (os.map (·.dst)) j=some (some d)→look (st i).env d=some (.f (.v (.bool b)))→Region.wanted o (yielded os.toArray a'.tmps)=(b==want):=by
       intro j want d b hg hj hb
       obtain ⟨h1,h2⟩:=hguard j want d hg hj
       have h3:=(hslot a' g' hout hle hF d _ h1 hb).val
       have hlt:d<a'.tmps.size:=by
        by_cases hc:d<a'.tmps.size
        · exact hc
        · rw [Array.getD_eq_getD_getElem?,Array.getElem?_eq_none (Nat.le_of_not_lt hc)] at h3
          cases h3
       rw [Qgh hg h2 hlt,h3]
      cases hof with
      | val s' q y nob hs ho hq he =>
       have hob:s'.ob=(st i).ob:=hs.ob
       obtain ⟨l2,hl2⟩:=hobs n (i+1) (by omega) (Nat.le_refl _)
       have hob1:(st (i+1)).ob=(st i).ob++obL nob:=by rw [he,QeB,Qc7,hob]
       obtain ⟨rfl,u,h1,h2⟩:=Qk7 (s:=s') (ob:=(st n).ob) (g:=g') (a:=a') (w0:=w') ho3 ho hq (fun j x hx=>by
        rw [hob] at hx
        rw [hl2,hob1,List.append_assoc,List.getElem?_append_left (List.getElem?_eq_some_iff.1 hx).1]; exact hx) hI.2 (fun x hx y hy=>hoper a' g' hout hle hF x hx y (by rw [← hs.ev x]; exact hy))
       refine ⟨u,.inl ⟨?_,h1⟩,hval _ _ g' u he h2,fun hlt=>absurd hlt (hobl _ _ he hob)⟩
       rcases hs with ⟨hg,_⟩ | ⟨j,want,d,hg,hj,hb,_⟩
       · simp [Region.wanted,hg]
       · rw [hbool j want d want hg hj hb]; simp
      | pick s' d x' y' b z hs ho hb hz he=>rw [ho] at ho3; cases ho3
      | skip j want d b hg hj hb hne he =>
       refine ⟨undef,.inr ⟨?_,rfl⟩,hval _ _ g' _ he Qb7,fun hlt=>absurd hlt (hobl _ _ he rfl)⟩
       rw [hbool j want d b hg hj hb]; exact hne
      | none j want d l hg hj hb he =>
       refine ⟨undef,.inr ⟨?_,rfl⟩,hval _ _ g' _ he Qb7,fun hlt=>absurd hlt (hobl _ _ he rfl)⟩
       obtain ⟨h1,h2⟩:=hguard j want d hg hj
       have h3:=hslot a' g' hout hle hF d _ h1 hb
       by_cases hc:d<a'.tmps.size
       · rw [Qgh hg h2 hc]
         generalize a'.tmps.getD d undef=v at h3
         cases h3; rfl
       · unfold Region.wanted yielded
         simp only [hg,h2,Option.bind_some,Array.getElem?_eq_none (Nat.le_of_not_lt hc)]
         rfl
   | false =>
    dsimp only
    intro a' w' g' hout hI hle hN hF K hK kk hkk
    have hlo:∀ b,w0.K b→b<w'.heap.size:=hI.1.kept
    have hguard:∀ j want d,o.guard=some (j,want)→nth (os.map (·.dst)) j=some (some d)→Qcy dsts i o (.tmp d)=true∧dsts[j]?=some d:=by
     intro j want d hg hj
     rw [hg] at ho2
     rw [Bool.and_eq_true] at ho2
     have hji:j<i:=by simpa using ho2.1
     have hd:=hDat j d hj (by omega)
     refine ⟨?_,hd⟩
     unfold Qcy
     dsimp only
     split
     · rename_i j' hj'
       have:=(QeN hj').2
       rw [Nat.sub_zero] at this
       rw [hnodup j' j d this hd,Bool.and_eq_true]; exact ho2
     · rfl
    have hsees:∀ s',Sees (os.map (·.dst)) o (st i) s'→kk=true:=by
     rintro s' (⟨hg,_⟩ | ⟨j,want,d,hg,hj,hb,_⟩)
     · rw [← hkk,hg]; rfl
     · obtain ⟨h1,h2⟩:=hguard j want d hg hj
       have:=(hslot a' g' hout hle hF d _ h1 hb).val
       rw [← hkk,hg]
       unfold QdL
       dsimp only
       simp only [h2,this]
       cases want <;> rfl
    cases hof with
    | val s' q y nob hs ho hq he =>
     obtain rfl:=hsees s' hs
     dsimp only
     have hob:s'.ob=(st i).ob:=hs.ob
     have hob1:(st (i+1)).ob=(st i).ob++obL nob:=by rw [he,QeB,Qc7,hob]
     obtain ⟨l2,hl2⟩:=hobs n (i+1) (by omega) (Nat.le_refl _)
     refine QeE (s:=s') (lo:=w0.K) (ob:=(st n).ob) (g:=g') hΓ hU (hU.go _ _ _ _ hI.1 hE) ho hq (fun j x hx=>?_) hI.2 hlo (fun x hx y hy=>hoper a' g' hout hle hF x hx y (by rw [← hs.ev x]; exact hy)) (fun z hz=>?_) K ?_
     · rw [hob] at hx
       rw [hl2,hob1,List.append_assoc,List.getElem?_append_left (List.getElem?_eq_some_iff.1 hx).1]; exact hx
     · subst hz
       rw [hob]
       refine ⟨by rw [hl2,hob1]; simp [obL],hN hin (by rw [hob1]; simp [obL])⟩
     · intro w'' u g'' h1 h2 h3 h4 h5 h6
       refine hK w'' u g'' ⟨hI.1.trans h2,h1⟩ ⟨h2.le,h3⟩ (fun j hji hNj hjn hlt=>?_) ⟨hval _ _ g'' u he h6,fun hlt=>?_⟩
       · have hNj':=hNj hjn hlt
         rw [h4]
         · exact hNj'
         · by_cases hnob:nob=.none
           · exact .inl hnob
           · refine .inr fun hc=>?_
             rw [hob] at hc
             have hlt1:(st i).ob.length<(st (i+1)).ob.length:=by
              rw [hob1]
              cases nob with
              | none=>exact absurd rfl hnob
              | some z=>simp [obL]
             rcases Nat.lt_or_gt_of_ne hji with hlt2 | hlt2
             · obtain ⟨l3,hl3⟩:=hobs i (j+1) (by omega) (by omega)
               rw [hl3,List.length_append] at hc
               omega
             · obtain ⟨l3,hl3⟩:=hobs j (i+1) (by omega) (by omega)
               rw [hl3,List.length_append] at hc
               omega
       · cases nob with
         | none=>rw [hob1] at hlt; simp [obL] at hlt
         | some z=>rw [← hob]; exact h5 z rfl
    | pick s' d x y b z hs hop hb hz he =>
     obtain rfl:=hsees s' hs
     dsimp only
     have hv:a'.tmps.getD d undef=.bool b:=(hoper a' g' hout hle hF (.tmp d) (by rw [hop]; simp [Qat]) _ (by rw [← hs.ev]; exact hb)).val
     have hr:=Qmc (P:=P) (w:=w') (dst:=o.dst) (x:=x) (y:=y) (ty:=o.type) (pos:=o.pos) (af:=o.after) (gd:=o.guard) hv
     rw [← hop] at hr
     rw [QmA hb,hs.ev] at hz
     refine QbM hr (hK w' _ g' hI ⟨Hp.le_refl _,fun _ _ h=>h⟩ (fun _ _ h=>h) ⟨hval _ _ g' _ he ?_,fun hlt=>absurd hlt (hobl _ _ he (by show s'.ob=_; exact hs.ob))⟩)
     cases b
     · exact hoper a' g' hout hle hF y (by rw [hop]; simp [Qat]) _ hz
     · exact hoper a' g' hout hle hF x (by rw [hop]; simp [Qat]) _ hz
    | skip j want d b hg hj hb hne he =>
     obtain ⟨h1,h2⟩:=hguard j want d hg hj
     have hv:=(hslot a' g' hout hle hF d _ h1 hb).val
     have:kk=false:=by
      rw [← hkk,hg]
      unfold QdL
      dsimp only
      simp only [h2,hv,hne]
     subst this
     dsimp only
     exact hK w' undef g' hI ⟨Hp.le_refl _,fun _ _ h=>h⟩ (fun _ _ h=>h) ⟨hval _ _ g' _ he Qb7,fun hlt=>absurd hlt (hobl _ _ he (by rfl))⟩
    | none j want d l hg hj hb he =>
     obtain ⟨h1,h2⟩:=hguard j want d hg hj
     obtain ⟨vs,hv,_⟩:=PRs.of_tup (hslot a' g' hout hle hF d _ h1 hb)
     have:kk=false:=by
      rw [← hkk,hg]
      unfold QdL
      dsimp only
      simp only [h2,hv]
     subst this
     dsimp only
     exact hK w' undef g' hI ⟨Hp.le_refl _,fun _ _ h=>h⟩ (fun _ _ h=>h) ⟨hval _ _ g' _ he Qb7,fun hlt=>absurd hlt (hobl _ _ he (by rfl))⟩
 · -- the end
   have hR:Real w0 H0 m (st n) g' a' w':=by
    have hmade:∀ k,k≤n→∀ o,o<(st k).ob.length→o<(st 0).ob.length∨∃ i,i<k∧(st i).ob.length=o∧(st i).ob.length<(st (i+1)).ob.length:=by
     intro k
     induction k with
     | zero=>intro _ o ho; exact .inl ho
     | succ k ih =>
      intro hk o ho
      by_cases hok':o<(st k).ob.length
      · rcases ih (by omega) o hok' with h1 | ⟨i,h1,h2⟩
        · exact .inl h1
        · exact .inr ⟨i,by omega,h2⟩
      · have hko:(os.take n)[k]?=some (os[k]'(by omega)):=by rw [List.getElem?_take,if_pos (by omega)]; exact List.getElem?_eq_getElem (by omega)
        obtain ⟨nob,h1⟩:=(hlinks k _ hko).ob
        rw [h1,List.length_append] at ho
        refine .inr ⟨k,by omega,?_,by rw [h1,List.length_append]; omega⟩
        cases nob with
        | none=>simp [obL] at ho; omega
        | some z=>simp [obL] at ho; omega
    refine ⟨hI.1,hI.2,fun o ho=>?_,fun d x hx=>?_,by rw [hsz,h.sz],by rw [hdf]; exact h.dfr,fun o p hp=>hle.2 _ _ (h.ptr o p hp)⟩
    · rcases hmade n (Nat.le_refl _) o ho with h1 | ⟨i,h1,h2,h3⟩
      · obtain ⟨u,hu⟩:=h.full o h1
        exact ⟨u,hle.2 _ _ hu⟩
      · subst h2
        exact (hF i _ (List.getElem?_eq_getElem (by omega))).2 h3
    · by_cases hd:d∈dsts
      · obtain ⟨j,hj,rfl⟩:=List.getElem_of_mem hd
        exact (hF j _ (List.getElem?_eq_getElem hj)).1 x _ (List.getElem?_eq_getElem hj) hx
      · rw [hout d hd]
        rw [hlook d n 0 (Nat.zero_le _) (Nat.le_refl _) (fun l h1 h2 hc=>hd (List.mem_of_getElem? hc))] at hx
        exact (h.env d x hx).mono hle.1 hle.2
   exact Qb9 hΔ hQp hΓ hU hE (ops:=os.toArray) (by simp) (by simpa using hDm) (os.drop n) (fun o ho=>hDm o (List.mem_of_mem_drop ho)) (st n) g' a' w' k hR hkn hQ
end
end Go.Proofs.YtmbmbcamecfnkaaGreatDoor
namespace Go.Proofs.YtmbmbcamecfnkaaGreatDoor
open Go.RowKit
set_option linter.unusedVariables false
section
variable {P : Program} {Γ : Specs}
inductive DL (P:Program) (Γ:Specs) (X:List Nat) (o:Oper) (s s1:PS):Prop
 | val (q:Option Prop) (y:Rs) (nob:Option PO) (ho:opv P Γ s o.dst o.op=some (q,y,nob)) (hq:∀ p,q=some p→p) (he:s1=(Qko s nob).put o.dst y.out) (hX:∀ t d,o.op=.alloc t→o.dst=some d→memN d X=false)
 | decl (t:TypeId) (d:Nat) (z:List PV) (ho:o.op=.alloc t) (hd:o.dst=some d) (hm:memN d X=true) (hz:Qnm P t=some z) (he:s1=(Qko s (some .gone)).put (some d) (.bp s.ob.length 0))
theorem DL.look {X:List Nat} {o:Oper} {s s1:PS} (h:DL P Γ X o s s1) {e:Nat} (hne:o.dst≠some e):look s1.env e=look s.env e:=by
 cases h with
 | val q y nob ho hq he hX=>subst he; rw [QdR hne,Qe3]
 | decl t d z ho hd hm hz he=>subst he; rw [hd] at hne; rw [QdR hne,Qe3]
theorem DL.ob {X:List Nat} {o:Oper} {s s1:PS} (h:DL P Γ X o s s1):∃ nob,s1.ob=s.ob++obL nob:=by
 cases h with
 | val q y nob ho hq he hX=>subst he; exact ⟨nob,by rw [QeB,Qc7]⟩
 | decl t d z ho hd hm hz he=>subst he; exact ⟨some .gone,by rw [QeB,Qc7]⟩
end
theorem ExtK.turnK {c:Cx} {w w':World} {H H' H'':Hp} {B:Hd} {D:List Deferred} (h:ExtK c H w H') (h':ExtK ⟨c.K,w,B,D⟩ H' w' H''):ExtK c H w' H'':=by
 refine ⟨h'.os.trans h.os,h'.tape.trans h.tape,h'.output.trans h.output,Nat.le_trans h.size h'.size,fun b hb=>(h'.block b hb).trans (h.block b hb),h.lt,Hp.le_trans h.le h'.le,h'.fro,fun b j v h1 h2 hb=>?_⟩
 cases hh:H' b j with
 | none=>exact h'.new b j v h1 hh hb
 | some u=>exact h.new b j u hh h2 hb
section
variable {P : Program} {Γ : Specs}
theorem QmG {H H':Hp} {B B':Hd} (hle:H.le H') (hB:∀ o p,FixB B o p→B' o=some p) {v:Value} {x:PV} (h:PR H B v x):Qlc x=true→PR H' B' v x:=by
 have key:∀ {l:List PV},Qld l=true→∀ (i:Nat) x,l[i]?=some x→Qlc x=true:=by
  intro l
  induction l with
  | nil=>intro _ i x hx; simp at hx
  | cons y l ih =>
   intro hk i x hx
   unfold Qld at hk
   split at hk
   · rename_i hy
     cases i with
     | zero=>simp at hx; subst hx; exact hy
     | succ i=>exact ih hk i x (by simpa using hx)
   · cases hk
 induction h with
 | f h=>intro _; exact .f (h.mono hle)
 | bp h=>intro _; exact .bp (hB _ _ ⟨h,rfl⟩)
 | ep b o val hc h=>intro _; exact .ep b o val (fun j hj=>hle _ _ _ (hc j hj)) fun j x hx=>(h j x hx).mono hle
 | tl h hb=>intro hk; cases hk
 | wr hb h1=>intro hk; cases hk
 | wp hb hi=>intro hk; cases hk
 | any=>intro _; exact .any
 | agg hn h ih=>intro hk; exact .agg hn fun i v x hv hx=>ih i v x hv hx (key hk i x hx)
 | tup hn h ih=>intro hk; exact .tup hn fun i v x hv hx=>ih i v x hv hx (key hk i x hx)
 | fn hm h1 hn h2 ih1 ih2 =>
  intro hk
  unfold Qlc at hk
  split at hk
  · rename_i hl
    exact .fn hm (fun i v x hv hx=>ih1 i v x hv hx (key hl i x hx)) hn (fun i v x hv hx=>ih2 i v x hv hx (key hk i x hx))
  · cases hk
 | ifc h ih=>intro hk; exact .ifc (ih hk)
theorem QiF {os:List Oper}:∀ {l:List Nat} {s:PS} {V:List (Nat × PV)},lvals P Γ os l s=some V→V.length=l.length∧∀ (n i:Nat),l[n]?=some i→∃ o d x,os[i]?=some o∧o.dst=some d∧V[n]?=some (d,x)∧Qlc x=true
 | [],s,V,h=>by cases h; exact ⟨rfl,fun n i hi=>by simp at hi⟩
 | i::l,s,V,h=>by
  unfold lvals at h
  split at h
  · rename_i o ho
    rw [Qap] at ho
    split at h
    · rename_i d q x hd hop
      split at h
      · rename_i V' hk hV
        cases h
        obtain ⟨h1,h2⟩:=QiF hV
        refine ⟨by simp [h1],fun n j hj=>?_⟩
        cases n with
        | zero=>simp at hj; subst hj; exact ⟨o,d,x,ho,hd,rfl,hk⟩
        | succ n=>simpa using h2 n j (by simpa using hj)
      · cases h
    · cases h
  · cases h
theorem QpU {os:List Oper} {s:PS}:∀ {l:List Nat} {xs:List (Option Prop × PV)},lst P Γ os s l=some xs→∀ (n i:Nat),l[n]?=some i→∃ o q x,os[i]?=some o∧xs[n]?=some (q,x)∧opv P Γ s o.dst o.op=some (q,.one x,none)
 | [],xs,h,n,i,hi=>by simp at hi
 | j::l,xs,h,n,i,hi=>by
  unfold lst at h
  split at h
  · rename_i o ho
    rw [Qap] at ho
    split at h
    · rename_i q x m hop hm
      cases h
      cases n with
      | zero=>simp at hi; subst hi; exact ⟨o,q,x,ho,rfl,hop⟩
      | succ n=>simpa using QpU hm n i (by simpa using hi)
    · cases h
  · cases h
theorem QcV {V E:List (Nat × PV)} {d:Nat} {y:PV} (h:look (V++E) d=some y):(∃ n:Nat,V[n]?=some (d,y))∨look E d=some y:=by
 induction V with
 | nil=>exact .inr h
 | cons p V ih =>
  obtain ⟨e,x⟩:=p
  rw [List.cons_append,QaC] at h
  split at h
  · rename_i he
    cases h; subst he
    exact .inl ⟨0,rfl⟩
  · rcases ih h with ⟨n,hn⟩ | hn
    · exact .inl ⟨n+1,by simpa using hn⟩
    · exact .inr hn
theorem QfZ {V E:List (Nat × PV)} {n d:Nat} {x:PV} (h:V[n]?=some (d,x)):look (V.map (fun p=>(p.1,PV.any))++E) d=some .any:=by
 induction V generalizing n with
 | nil=>simp at h
 | cons p V ih =>
  obtain ⟨e,y⟩:=p
  rw [List.map_cons,List.cons_append,QaC]
  split
  · rfl
  · rename_i hne
    cases n with
    | zero=>simp at h; exact absurd h.1 hne
    | succ n=>exact ih (by simpa using h)
theorem Qga {V E:List (Nat × PV)} {d:Nat} {y:PV} (h:look (V.map (fun p=>(p.1,PV.any))++E) d=some y):y=.any∨look E d=some y:=by
 rcases QcV h with ⟨n,hn⟩ | hn
 · rw [List.getElem?_map] at hn
   cases hv:V[n]? with
   | none=>rw [hv] at hn; cases hn
   | some p=>rw [hv] at hn; simp at hn; exact .inl hn.2.symm
 · exact .inr hn
theorem Qke {os:List Oper} {Lt:List Nat}:∀ {l:List Nat} {pv:Option Nat},Qm3 os Lt pv l=true→∀ (n i j:Nat) o,l[n]?=some i→l[n+1]?=some j→os[j]?=some o→Qax o i=true∨(Qhl os Lt i=true∧Qhl os Lt j=false∧∃ k,((1≤n∧l[n - 1]?=some k)∨(n=0∧pv=some k))∧Qax o k=true)
 | [],_,_,n,i,j,o,hi,_,_=>by simp at hi
 | [a],_,_,n,i,j,o,_,hj,_=>by simp at hj
 | a::b::l,pv,h,n,i,j,o,hi,hj,ho=>by
  unfold Qm3 at h
  rw [Bool.and_eq_true] at h
  cases n with
  | zero =>
   simp at hi hj
   subst hi hj
   have h1:=h.1
   rw [Qap,ho] at h1
   dsimp only at h1
   rw [Bool.or_eq_true,Bool.and_eq_true,Bool.and_eq_true,Bool.not_eq_true'] at h1
   rcases h1 with h1 | ⟨h1,h2,h3⟩
   · exact .inl h1
   · cases pv with
     | none=>cases h3
     | some k=>exact .inr ⟨h1,h2,k,.inr ⟨rfl,rfl⟩,h3⟩
  | succ n =>
   rcases Qke h.2 n i j o (by simpa using hi) (by simpa using hj) ho with h1 | ⟨h1,h2,k,h3,h4⟩
   · exact .inl h1
   · refine .inr ⟨h1,h2,k,.inl ⟨by omega,?_⟩,h4⟩
     rcases h3 with ⟨h5,h6⟩ | ⟨rfl,h5⟩
     · rw [show n+1 - 1=(n - 1)+1 by omega]; simpa using h6
     · cases h5; rfl
theorem QlM {o:Oper} {a:Act} {w:World} {K K':Act→World→Prop} {Q Q':Exit→Act→World→Prop} (h:o.wp P a w K Q) (hK:∀ a1 w1,(∀ d,o.dst≠some d→a1.tmps.getD d undef=a.tmps.getD d undef)→K a1 w1→K' a1 w1)
  (hQ:∀ c w1,Q (.panic c) a w1→Q' (.panic c) a w1) (hO:LetsOut Q→LetsOut Q'):o.wp P a w K' Q':=by
 have hs:∀ (a2:Act) (v:Value),a2.tmps=a.tmps→∀ d,o.dst≠some d→(a2.put o.dst v).tmps.getD d undef=a.tmps.getD d undef:=by
  intro a2 v h2 d hd
  cases hdst:o.dst with
  | none=>simp only [Act.put,h2]
  | some e =>
   rw [hdst] at hd
   rw [QaO,if_neg (fun hc=>hd (by rw [hc.1])),h2]
 unfold Oper.wp at *
 generalize (execOp a.eval o).run P w=r at *
 cases r with
 | ok n w' =>
  cases n <;> simp only [Oper.upon] at h ⊢ <;>
   first
    | exact hK _ _ (hs _ _ rfl) h
    | exact Calls.mono h (fun e w'' he=>by cases e <;> first | exact hK _ _ (hs _ _ rfl) he | exact hQ _ _ he | exact hO he)
    | exact Rows.mono h (fun _ _ he=>hK _ _ (hs _ _ rfl) he)
 | halt x w'=>cases x <;> simp only [Oper.upon] at h ⊢ <;> exact hQ _ _ h
theorem QnE {Δ:Specs2} {D:List (Option Nat)} {q:PV→PS→Prop} {os:List Oper} {Lt:List Nat} {V:List (Nat × PV)} {l dn:List Nat} {U:PS} {k:PS→Prop} (h:QnF P Γ Δ D q os Lt V l dn U k):stab P Γ os Lt dn V U:=by
 cases l with
 | nil=>exact h.1
 | cons i l =>
  unfold QnF at h
  split at h
  · exact h.1
  · exact h.elim
theorem Qp0 {w0:Cx} {H0:Hp} {m:Nat} {Δ:Specs2} {q:PV→PS→Prop} {D:List (Option Nat)} {ops:Array Oper} {s:PS} {g:Gh} {a:Act} {w:World} {k:PS→Prop} {o:Oper} (hk:QkT o.op=true) (hg:o.guard=none) (hd:QdB m o.dst=true) (hR:Real w0 H0 m s g a w) (hr:Qa0 P Γ Δ D q [o] s k) :
  ∃ v,Yields P ops o v a∧∃ s1,Real w0 H0 m s1 g (a.put o.dst v) w∧k s1:=by
 unfold Qa0 at hr
 rw [hg] at hr
 dsimp only at hr
 have hw:Region.wanted o (yielded ops a.tmps)=true:=by simp [Region.wanted,hg]
 obtain ⟨dst,op,ty,pos,af,gd⟩:=o
 dsimp only at hk hg hd hr
 unfold QkT at hk
 split at hk
 · rename_i d x y
   unfold doOp at hr
   dsimp only at hr
   split at hr
   · rename_i b hb
     have hv:a.eval (.tmp d)=.bool b:=(hR.ev (.tmp d) _ hb).val
     have h2:=hR.look (b:=b) hv
     rcases Qbf hr with ⟨rfl,h1⟩ | ⟨rfl,h1⟩
     · split at h1
       · rename_i z hz
         unfold Qa0 at h1
         exact ⟨_,.inl ⟨hw,fun w=>Qiy (c:=.tmp d) (x:=x) (y:=y) rfl hv⟩,_,h2.put hd (h2.ev x z hz),h1⟩
       · exact h1.elim
     · split at h1
       · rename_i z hz
         unfold Qa0 at h1
         exact ⟨_,.inl ⟨hw,fun w=>Qiy (c:=.tmp d) (x:=x) (y:=y) rfl hv⟩,_,h2.put hd (h2.ev y z hz),h1⟩
       · exact h1.elim
   · exact hr.elim
 · rename_i x
   unfold doOp at hr
   dsimp only at hr
   unfold doV at hr
   split at hr
   · rename_i p y nob ho
     obtain ⟨h1,h2⟩:=QiB hr
     have h3:=Qhc h2
     unfold opv at ho
     dsimp only at ho
     split at ho
     · rename_i z hz
       cases ho
       unfold Qa0 at h3
       exact ⟨a.eval x,.inl ⟨hw,fun w=>rfl⟩,_,hR.put hd (hR.ev x z hz),h3⟩
     · cases ho
   · exact hr.elim
 · cases hk
def LInv (P:Program) (Γ:Specs) (Δ:Specs2) (q:PV→PS→Prop) (w0:Cx) (H0:Hp) (m:Nat) (os:List Oper) (Lt:List Nat) (V:List (Nat × PV)) (hv:List Nat) (k:PS→Prop) (L:Array Bool) (a:Act) (w:World):Prop :=
 ∃ U g p dn,(∀ k∈dn,L.getD k false=true)∧(∀ (k:Nat) o',os[k]?=some o'→L.getD k false=true→∀ j,Qax o' j=true→L.getD j false=true)∧L.size=os.length∧Real w0 H0 m U g a w∧(∀ (n d:Nat) x,V[n]?=some (d,x)→look U.env d=some .any) ∧
  (∀ (n j d:Nat) x,Lt[n]?=some j→V[n]?=some (d,x)→L.getD j false=true→PR g.H g.B (a.tmps.getD d undef) x)∧(∀ (n i:Nat),hv[n]?=some i→(L.getD i false=true↔n<p))∧p≤hv.length ∧
  QnF P Γ Δ (os.map (·.dst)) q os Lt V (hv.drop p) dn U k
theorem QnY {E:Env} {w0:Cx} {H0:Hp} {Δ:Specs2} (hΔ:Sound2 P E Δ) {q:PV→PS→Prop} (hΓ:Sound P E Γ) (hU:Up E) (hE:E w0.K w0.w H0) (hmix:P.follows .mixedOrders=true) {m:Nat} {s:PS} {g:Gh} {a:Act} {w:World} {Q:Exit→Act→World→Prop} {ops:Array Oper} {id:Nat} {k:PS→Prop}
  (hDm:∀ o∈ops.toList,QdB m o.dst=true) {b:Bool} (hok:QiK b ops.toList=true) (h:Real w0 H0 m s g a w) (hr:Qiq b P Γ Δ q ops.toList s k)
  (hQ:∀ s' g' a' w',Real w0 H0 m s' g' a' w'→k s'→Q .normal a' w') (hQp:∀ s g a w v y,Real w0 H0 m s g a w→PR g.H g.B v y→q y s→Q (.panic [{ v,recovered:=false }]) a w) (hQc:∀ c d v a w,Q (.panic c) (Act.put a d v) w→Q (.panic c) a w):(Code.region id ops true).wp P Q a w:=by
 obtain ⟨os,hos⟩:∃ os,os=ops.toList:=⟨_,rfl⟩
 rw [← hos] at hDm hok hr
 have hops:os.toArray=ops:=by rw [hos]
 have hsize:ops.size=os.length:=by rw [hos]; simp
 have hat:∀ i:Nat,ops[i]?=os[i]?:=fun i=>by rw [hos,Array.getElem?_toList]
 unfold QiK at hok
 unfold Qiq at hr
 dsimp only at hok
 generalize hLt:Qb1 b os 0 []=Lt at hok hr
 generalize hhv:QbO os.length Lt=hv at hok hr
 simp only [Bool.and_eq_true,List.all_eq_true] at hok
 obtain ⟨c1,c2,c3,c4,c5,c6⟩:=hok
 split at hr
 · rename_i V hV
   split at hr
   · rename_i hnod
     obtain ⟨hVl,hVat⟩:=QiF hV
     have hmemhv:∀ i,i∈hv↔i<os.length∧memN i Lt=false:=by
      intro i
      rw [← hhv]
      unfold QbO
      rw [List.mem_filter,List.mem_range]
      cases memN i Lt <;> simp
     have hsort:hv.Pairwise (·<·):=by rw [← hhv]; exact List.Pairwise.filter _ List.pairwise_lt_range
     have hmono:∀ (n n' i i':Nat),hv[n]?=some i→hv[n']?=some i'→i<i'→n<n':=by
      intro n n' i i' hn hn' hlt
      obtain ⟨l1,e1⟩:=List.getElem?_eq_some_iff.1 hn
      obtain ⟨l2,e2⟩:=List.getElem?_eq_some_iff.1 hn'
      rcases Nat.lt_trichotomy n n' with hc | hc | hc
      · exact hc
      · subst hc; omega
      · have:=(List.pairwise_iff_getElem.1 hsort) n' n l2 l1 hc
        omega
     have hinjv:∀ (n n' i:Nat),hv[n]?=some i→hv[n']?=some i→n=n':=by
      intro n n' i hn hn'
      obtain ⟨l1,e1⟩:=List.getElem?_eq_some_iff.1 hn
      obtain ⟨l2,e2⟩:=List.getElem?_eq_some_iff.1 hn'
      rcases Nat.lt_trichotomy n n' with hc | hc | hc
      · have:=(List.pairwise_iff_getElem.1 hsort) n n' l1 l2 hc
        omega
      · exact hc
      · have:=(List.pairwise_iff_getElem.1 hsort) n' n l2 l1 hc
        omega
     have part:∀ i:Nat,i<os.length→(∃ n:Nat,Lt[n]?=some i)∨i∈hv:=by
      intro i hi
      cases hm:memN i Lt with
      | true=>exact .inl ⟨_,QbE hm⟩
      | false=>exact .inr ((hmemhv i).2 ⟨hi,hm⟩)
     have hexcl:∀ (n i:Nat),Lt[n]?=some i→i ∉ hv:=by
      intro n i hn hi
      have:=Qcq (List.mem_of_getElem? hn)
      rw [((hmemhv i).1 hi).2] at this; cases this
     have hinj:∀ (i j d:Nat) x y,V[i]?=some (d,x)→V[j]?=some (d,y)→i=j:=by
      intro i j d x y hi hj
      exact QeF hnod i j d (by rw [List.getElem?_map,hi]; rfl) (by rw [List.getElem?_map,hj]; rfl)
     have k3:∀ o∈os,∀ (n j d:Nat) x,Lt[n]?=some j→V[n]?=some (d,x)→QcP o d=true→Qax o j=true:=by
      intro o ho n j d x hn hv hu
      obtain ⟨p,d',x',h1,h2,h3,-⟩:=hVat n j hn
      have h4:=c3 o ho j (List.mem_of_getElem? hn)
      rw [Qap,h1] at h4
      dsimp only at h4
      rw [h2] at h4
      rw [hv] at h3
      cases h3
      dsimp only at h4
      rw [hu] at h4
      simpa using h4
     have hLn:∀ (n d:Nat) x,V[n]?=some (d,x)→∃ j:Nat,Lt[n]?=some j:=by
      intro n d x hn
      have:=(List.getElem?_eq_some_iff.1 hn).1
      exact ⟨_,List.getElem?_eq_getElem (by omega)⟩
     have k4:∀ i:Nat,i∈hv→∀ o,os[i]?=some o→∀ (n d:Nat) x,V[n]?=some (d,x)→o.dst≠some d:=by
      intro i hi o ho n d x hn hc
      obtain ⟨j,hj⟩:=hLn n d x hn
      obtain ⟨p,d',x',h1,h2,h3,-⟩:=hVat n j hj
      rw [hn] at h3
      cases h3
      have h4:=c4 i hi
      rw [Qap,ho] at h4
      dsimp only at h4
      rw [hc] at h4
      have h5:=List.all_eq_true.1 h4 j (List.mem_of_getElem? hj)
      rw [Qap,h1] at h5
      dsimp only at h5
      rw [h2] at h5
      simp at h5
     have hwt:∀ (L:Array Bool) (o:Oper),(∀ e∈o.after,Region.binds .any e=true→L.getD e.on false=true)→∀ j,Qax o j=true→L.getD j false=true:=by
      intro L o hd j hj
      unfold Qax at hj
      obtain ⟨ix,hix,hb⟩:=Array.any_eq_true.1 hj
      obtain ⟨e,he⟩:∃ e,e=o.after[ix]:=⟨_,rfl⟩
      rw [← he] at hb
      replace he:e∈o.after:=he ▸ Array.getElem_mem hix
      rw [Bool.and_eq_true,beq_iff_eq] at hb
      have:=hd e he hb.1
      rw [hb.2] at this; exact this
     -- the next of the chain
     have core:∀ (L:Array Bool) (a:Act) (w:World),LInv P Γ Δ q w0 H0 m os Lt V hv k L a w→∀ (i:Nat) (o:Oper),os[i]?=some o→i∈hv→L.getD i false=false→(∀ e∈o.after,Region.binds .any e=true→L.getD e.on false=true) →
       (Qhl os Lt i=true∨∀ j∈hv,Qhl os Lt j=true→j ∉ Region.ready .any ops L) →
       ∃ g s0 kk,(∀ {s1:PS} {g1:Gh} {a1:Act} {w1:World},Real ⟨w0.K,w,g.B,w0.D⟩ g.H m s1 g1 a1 w1→Real w0 H0 m s1 g1 a1 w1)∧Real ⟨w0.K,w,g.B,w0.D⟩ g.H m s0 g a w∧E w0.K w g.H∧Qa0 P Γ Δ (os.map (·.dst)) q [o] s0 kk ∧
        (∀ (a1:Act) (w1:World),(∀ d,o.dst≠some d→a1.tmps.getD d undef=a.tmps.getD d undef)→(∃ s1 g1,Real ⟨w0.K,w,g.B,w0.D⟩ g.H m s1 g1 a1 w1∧kk s1)→LInv P Γ Δ q w0 H0 m os Lt V hv k (L.setIfInBounds i true) a1 w1):=by
      rintro L a w ⟨U,g,p,dn,hdn,hcl,hLs,hR,hany,hfact,hhl,hpl,hrun⟩ i o hio2 hiv hlf hd hlate
      have hil:i<os.length:=(List.getElem?_eq_some_iff.1 hio2).1
      have hmem:o∈os:=List.mem_of_getElem? hio2
      have hw8:=hwt L o hd
      obtain ⟨n0,hn0l,hn0⟩:=List.getElem_of_mem hiv
      have hn0':hv[n0]?=some i:=by rw [List.getElem?_eq_getElem hn0l,hn0]
      have hge:p≤n0:=by
       have:=hhl n0 i hn0'
       rw [hlf] at this
       have h2:¬ n0<p:=fun hc=>by have:=this.2 hc; cases this
       omega
      obtain rfl:n0=p:=by
       by_cases hp:n0=p
       · exact hp
       · exfalso
         have hlt:n0 - 1<hv.length:=by omega
         have e1:hv[n0 - 1]?=some hv[n0 - 1]:=List.getElem?_eq_getElem hlt
         rcases Qke c2 (n0 - 1) _ i o e1 (by rw [show n0 - 1+1=n0 by omega]; exact hn0') hio2 with e2 | ⟨e2,e2',kx,e3,e4⟩
         · have e3:=(hhl (n0 - 1) _ e1).1 (hw8 _ e2)
           omega
         · rcases e3 with ⟨e5,e6⟩ | ⟨-,e6⟩
           · have e7:=(hhl _ _ e6).1 (hw8 _ e4)
             have hp1:p=n0 - 1:=by omega
             -- the one ahead is ready
             have hj1:=((hmemhv _).1 (List.getElem_mem hlt)).1
             have hjo:os[hv[n0 - 1]]?=some os[hv[n0 - 1]]:=List.getElem?_eq_getElem hj1
             have hjr:hv[n0 - 1]∈Region.ready .any ops L:=by
              refine mem_ready.2 ⟨?_,_,(hat _).trans hjo,fun e he hb=>?_⟩
              · have h8:¬ L.getD hv[n0 - 1] false=true:=fun hc=>by have:=(hhl _ _ e1).1 hc; omega
                rw [Array.getD_eq_getD_getElem?] at h8 ⊢
                rw [Array.getElem?_eq_getElem (by omega)] at h8 ⊢
                simpa using h8
              · have h9:=Qc8 c1 hjo he hb
                unfold Qhl at e2
                rw [Qap,hjo] at e2
                simp only [Bool.and_eq_true] at e2
                have h10:=(Array.all_eq_true_iff_forall_mem.1 e2.2.2.2) e he
                rw [hb] at h10
                have h11:e.on∈hv:=(hmemhv _).2 ⟨by omega,by simpa using h10⟩
                obtain ⟨ne,hnel,hne⟩:=List.getElem_of_mem h11
                have hne':hv[ne]?=some e.on:=by rw [List.getElem?_eq_getElem hnel,hne]
                exact (hhl ne _ hne').2 (by have:=hmono ne (n0 - 1) _ _ hne' e1 h9; omega)
             rcases hlate with h12 | h12
             · rw [h12] at e2'; cases e2'
             · exact h12 _ (List.getElem_mem hlt) e2 hjr
           · cases e6
      rw [List.drop_eq_getElem_cons hn0l,hn0] at hrun
      unfold QnF at hrun
      rw [Qap,hio2] at hrun
      dsimp only at hrun
      obtain ⟨-,hop⟩:=hrun
      have huse:∀ (d:Nat),Operand.tmp d∈Qat o.op→QcP o d=true:=by
       intro d hx
       unfold QcP
       rw [List.any_eq_true]
       exact ⟨_,QfW hx,by simp⟩
      have hR2:Real ⟨w0.K,w,g.B,w0.D⟩ g.H m (QeP (V.filter fun p=>QcP o p.1) U) g a w:=by
       refine ⟨ExtK.refl hR.obs.fro hR.ext.kept,hR.obs,hR.full,fun e y hy=>?_,hR.sz,hR.dfr,fun _ _ h=>h.1⟩
       rcases QcV hy with ⟨n',hn'⟩ | hE'
       · have hm:=List.mem_filter.1 (List.mem_of_getElem? hn')
         obtain ⟨n2,h2l,h2e⟩:=List.getElem_of_mem hm.1
         have hv2:V[n2]?=some (e,y):=by rw [List.getElem?_eq_getElem h2l,h2e]
         obtain ⟨j,hj⟩:=hLn n2 e y hv2
         exact hfact n2 j e y hj hv2 (hw8 j (k3 o hmem n2 j e y hj hv2 hm.2))
       · exact hR.env e y hE'
      have hback:∀ {s1:PS} {g1:Gh} {a1:Act} {w1:World},Real ⟨w0.K,w,g.B,w0.D⟩ g.H m s1 g1 a1 w1→Real w0 H0 m s1 g1 a1 w1:=fun h1 =>
       ⟨hR.ext.turnK h1.ext,h1.obs,h1.full,h1.env,h1.sz,h1.dfr,fun o p hp=>h1.ptr o p ⟨hR.ptr o p hp,hp.2⟩⟩
      refine ⟨g,_,_,hback,hR2,hU.go w0 H0 w g.H hR.ext hE,hop,?_⟩
      rintro a1 w1 hsl ⟨s1,g1,h1,h2⟩
      have hb:=hback h1
      have hset:∀ j,L.getD j false=true→(L.setIfInBounds i true).getD j false=true:=fun j hj=>by
       by_cases hji:j=i
       · subst hji; exact QaF (by omega)
       · rw [Qaj hji]; exact hj
      refine ⟨clrV V s1,g1,n0+1,i::dn,fun k hk=>(List.mem_cons.1 hk).elim (fun e=>e ▸ QaF (by omega)) (fun h=>hset _ (hdn k h)),fun k o' hk hkl j hj=>?_,by simp [hLs],⟨hb.ext,hb.obs,hb.full,fun d x hx=>(Qga hx).elim (fun e=>e ▸ .any) (hb.env d x),hb.sz,hb.dfr,hb.ptr⟩,fun n d x hn=>QfZ hn,fun n j d x hj hv' hl'=>?_,fun n i' hi'=>?_,by omega,h2⟩
      · by_cases hki:k=i
        · subst hki
          rw [hio2] at hk
          cases hk
          exact hset _ (hw8 j hj)
        · rw [Qaj hki] at hkl
          exact hset _ (hcl k o' hk hkl j hj)
      · have hji:j≠i:=fun hc=>hexcl n j hj (hc ▸ hiv)
        rw [Qaj hji] at hl'
        obtain ⟨o',d',x',e1,e2,e3,e4⟩:=hVat n j hj
        rw [hv'] at e3
        cases e3
        rw [hsl d (k4 i hiv o hio2 n d x hv')]
        exact QmG h1.ext.le (fun o p hp=>h1.ptr o p hp) (hfact n j d x hj hv' hl') e4
      · by_cases hnn:n=n0
        · subst hnn
          rw [hn0'] at hi'
          cases hi'
          rw [QaF (by omega)]
          simp
        · have hne:i'≠i:=by
           rintro rfl
           exact hnn (hinjv n n0 _ hi' hn0')
          rw [Qaj hne,hhl n i' hi']
          omega
     refine Qcv (Q:=Q) hmix (fun i o hi e he hb=>Qc8 c1 (by rw [← hat]; exact hi) he hb) (fun L a w=>LInv P Γ Δ q w0 H0 m os Lt V hv k L a w) (hv.filter (Qhl os Lt)) (fun h=>by cases h) (by rw [← hops]; exact c6) (fun i hi=>?_) (fun _=>hQc) (fun w' hw'=>?_) ?_ ?_ ?_
     · have h1:=(List.mem_filter.1 hi).2
       unfold Qhl at h1
       split at h1
       · simp only [Bool.and_eq_true] at h1
         rw [← hops]; exact h1.2.2.1
       · cases h1
     · have hh:Real w0 H0 m s g a w':=by
        rcases hw' with rfl | rfl
        · exact h
        · exact h.drew
       have hz:∀ k:Nat,¬ (Array.replicate ops.size false).getD k false=true:=fun k hl=>by
        rw [Array.getD_eq_getD_getElem?,Array.getElem?_replicate] at hl
        split at hl <;> cases hl
       refine ⟨clrV V s,g,0,[],fun k hk=>by (cases hk),fun k o' _ hl=>absurd hl (hz k),by simp [hsize],?_,fun n d x hn=>QfZ hn,fun n j d x _ _ hl=>?_,fun n i _=>?_,Nat.zero_le _,hr⟩
       · exact ⟨hh.ext,hh.obs,hh.full,fun d x hx=>(Qga hx).elim (fun e=>e ▸ .any) (hh.env d x),hh.sz,hh.dfr,hh.ptr⟩
       · rw [Array.getD_eq_getD_getElem?,Array.getElem?_replicate] at hl
         split at hl <;> cases hl
       · rw [Array.getD_eq_getD_getElem?,Array.getElem?_replicate]
         split <;> simp
     · intro L a w hI hnl i hi hrd _
       obtain ⟨hl,o,hio,hd⟩:=mem_ready.1 hrd
       obtain ⟨U,g,p,dn,hdn,hcl,hLs,hR,hany,hfact,hhl,hpl,hrun⟩:=hI
       have hil:i<os.length:=by omega
       have hio2:os[i]?=some o:=by rw [← hat]; exact hio
       have hmem:o∈os:=List.mem_of_getElem? hio2
       have hlf:L.getD i false=false:=by
        rw [Array.getD_eq_getD_getElem?] at hl ⊢
        rw [Array.getElem?_eq_getElem (by omega)] at hl ⊢
        exact hl
       have hw8:=hwt L o hd
       have hdm:=hDm o hmem
       have huse:∀ (d:Nat),Operand.tmp d∈Qat o.op→QcP o d=true:=by
        intro d hx
        unfold QcP
        rw [List.any_eq_true]
        exact ⟨_,QfW hx,by simp⟩
       rcases part i hil with ⟨n,hn⟩ | hiv
       · -- a light one
         obtain ⟨o',d,x,h1,h2,h3,h4⟩:=hVat n i hn
         rw [hio2] at h1
         cases h1
         have hst:=QnE hrun
         unfold stab at hst
         split at hst
         · rename_i xs hxs
           obtain ⟨hst,hneed⟩:=QfX hst
           obtain ⟨o',q',x',g1,g2,g3⟩:=QpU hxs n i hn
           rw [hio2] at g1
           cases g1
           have haw:Qhd os dn i=false:=by
            cases ha:Qhd os dn i with
            | false=>rfl
            | true =>
             exfalso
             unfold Qhd at ha
             obtain ⟨k,hk,hk2⟩:=List.any_eq_true.1 ha
             rw [Qap] at hk2
             cases hok:os[k]? with
             | none=>rw [hok] at hk2; cases hk2
             | some o' =>
              rw [hok] at hk2
              have:=hcl k o' hok (hdn k hk) i hk2
              rw [hlf] at this; cases this
           have g4:(mskL os dn Lt (xs.map (·.2)))[n]?=(mskL os dn Lt (V.map (·.2)))[n]?:=by rw [hst.out]
           have hnd:=hneed n i q' x' hn g2 haw
           rw [Qk0 hn haw,Qk0 hn haw,List.getElem?_map,g2,List.getElem?_map,h3] at g4
           cases g4
           have hgd:o.guard=none:=by
            have:=c5 i (List.mem_of_getElem? hn)
            rw [Qap,hio2] at this
            simpa using this
           refine Qh5 hio fun K hK=>?_
           rw [if_pos (by simp [Region.wanted,hgd])]
           refine QeE (s:=QeP V U) (ob:=U.ob) (lo:=w0.K) (g:=g) hΓ hU (hU.go _ _ _ _ hR.ext hE) g3 hnd (fun _ _ hx=>hx) hR.obs hR.lo (fun z hz y hy=>?_) (fun z hz=>by cases hz) K ?_
           · cases z with
             | tmp e =>
              rcases QcV (V:=V) (E:=U.env) hy with ⟨n',hn'⟩ | hE'
              · obtain ⟨j,hj⟩:=hLn n' e y hn'
                exact hfact n' j e y hj hn' (hw8 j (k3 o hmem n' j e y hj hn' (huse e hz)))
              · exact hR.env e y hE'
             | const v=>exact Qf6 hy
             | func f=>cases hy; exact .f (.v _ rfl)
             | global k=>cases hy; exact .f (.v _ rfl)
           · intro w' u g' q1 q2 q3 q4 q5 q6
             have hself:(a.put o.dst u).tmps.getD d undef=u:=by
              rw [h2,QaO,if_pos ⟨rfl,by rw [hR.sz]; rw [h2] at hdm; simpa [QdB] using hdm⟩]
             have hother:∀ e,e≠d→(a.put o.dst u).tmps.getD e undef=a.tmps.getD e undef:=fun e he=>by rw [h2,QaO,if_neg (fun hc=>he hc.1)]
             have hset:∀ j,L.getD j false=true→(L.setIfInBounds i true).getD j false=true:=fun j hj=>by
              by_cases hji:j=i
              · subst hji; exact QaF (by omega)
              · rw [Qaj hji]; exact hj
             refine hK _ _ ⟨U,g',p,dn,fun k hk=>hset _ (hdn k hk),fun k o' hk hkl j hj=>?_,by simp [hLs],⟨hR.ext.trans q2,q1,fun o ho=>?_,fun e y hy=>?_,?_,?_,fun o p hp=>q3 _ _ (hR.ptr o p hp)⟩,hany,fun n' j d' x' hj hv' hl'=>?_,fun n' i' hi'=>?_,hpl,hrun⟩
             · by_cases hki:k=i
               · subst hki
                 rw [hio2] at hk
                 cases hk
                 exact hset _ (hw8 j hj)
               · rw [Qaj hki] at hkl
                 exact hset _ (hcl k o' hk hkl j hj)
             · obtain ⟨u,hu⟩:=hR.full o ho
               exact ⟨u,q3 _ _ hu⟩
             · by_cases he:e=d
               · subst he
                 rw [hany n e x h3] at hy
                 cases hy; exact .any
               · rw [hother e he]; exact (hR.env e y hy).mono q2.le q3
             · rw [h2]; simpa [Act.put] using hR.sz
             · rw [h2]; simpa [Act.put] using hR.dfr
             · by_cases hdd:d'=d
               · subst hdd
                 obtain rfl:=hinj n' n d' x' x hv' h3
                 rw [hv'] at h3
                 cases h3
                 rw [hself]; exact q6
               · have hji:j≠i:=by
                  rintro rfl
                  obtain ⟨o'',d'',x'',e1,e2,e3,-⟩:=hVat n' j hj
                  rw [hio2] at e1
                  cases e1
                  rw [h2] at e2
                  cases e2
                  rw [hv'] at e3
                  cases e3
                  exact hdd rfl
                 rw [Qaj hji] at hl'
                 rw [hother d' hdd]
                 exact (hfact n' j d' x' hj hv' hl').mono q2.le q3
             · have hne:i'≠i:=fun hc=>hexcl n i hn (hc ▸ List.mem_of_getElem? hi')
               rw [Qaj hne]
               exact hhl n' i' hi'
         · exact hst.elim
       · obtain ⟨g,s0,kk,hback,hR2,hE2,hop,hfin⟩:=core L a w ⟨U,g,p,dn,hdn,hcl,hLs,hR,hany,hfact,hhl,hpl,hrun⟩ i o hio2 hiv hlf hd (.inr fun j hjv hj hjr=>hnl j (List.mem_filter.2 ⟨hjv,hj⟩) hjr)
         have hw:=Qb9 (w0:=⟨w0.K,w,g.B,w0.D⟩) (H0:=g.H) (Q:=fun e a1 w1=>match e with | .normal=>∃ s1 g1,Real ⟨w0.K,w,g.B,w0.D⟩ g.H m s1 g1 a1 w1∧kk s1 | e=>Q e a1 w1)
          hΔ (fun s1 g1 a1 w1 v y h1 h2 h3=>hQp s1 g1 a1 w1 v y (hback h1) h2 h3) hΓ hU hE2 (ops:=ops) (by rw [← hos]) (by rw [← hos]; exact hDm) [o] (fun o' ho'=>by simp at ho'; subst ho'; exact hdm) _ g a w _ hR2 hop
          (fun s1 g1 a1 w1 h1 h2=>⟨s1,g1,h1,h2⟩)
         unfold wpOp
         rw [hio]
         dsimp only
         unfold wpList at hw
         split
         · rename_i hwt
           rw [if_pos hwt] at hw
           rcases hw with hw | ⟨hw1,hw2⟩
           · exact .inl (QlM hw (fun a1 w1 hs h1=>hfin a1 w1 hs h1) (fun c w1 hc=>hc) (fun hO=>hO))
           · exact .inr ⟨hw1,hw2⟩
         · rename_i hwt
           rw [if_neg hwt] at hw
           refine hfin _ _ (fun d hd=>?_) hw
           cases hdst:o.dst with
           | none=>rfl
           | some e =>
            rw [hdst] at hd
            rw [QaO,if_neg (fun hc=>hd (by rw [hc.1]))]
     · intro L a w hI i hi hrd
       obtain ⟨hiv,hln⟩:=List.mem_filter.1 hi
       obtain ⟨hl,o,hio,hd⟩:=mem_ready.1 hrd
       have hio2:os[i]?=some o:=by rw [← hat]; exact hio
       have hil:i<os.length:=(List.getElem?_eq_some_iff.1 hio2).1
       have hlf:L.getD i false=false:=by
        obtain ⟨U,g,p,dn,-,-,hLs,-⟩:=hI
        rw [Array.getD_eq_getD_getElem?] at hl ⊢
        rw [Array.getElem?_eq_getElem (by omega)] at hl ⊢
        exact hl
       obtain ⟨g,s0,kk,hback,hR2,hE2,hop,hfin⟩:=core L a w hI i o hio2 hiv hlf hd (.inl hln)
       have hk:=hln
       unfold Qhl at hk
       rw [Qap,hio2] at hk
       simp only [Bool.and_eq_true,Option.isNone_iff_eq_none] at hk
       obtain ⟨v,hy,s1,h1,h2⟩:=Qp0 (ops:=ops) hk.1 hk.2.1 (hDm o (List.mem_of_getElem? hio2)) hR2 hop
       refine ⟨o,v,hio,hy,hfin _ _ (fun d hd=>?_) ⟨s1,g,h1,h2⟩⟩
       cases hdst:o.dst with
       | none=>rfl
       | some e =>
        rw [hdst] at hd
        rw [QaO,if_neg (fun hc=>hd (by rw [hc.1]))]
     · rintro L a w ⟨U,g,p,dn,-,-,hLs,hR,hany,hfact,hhl,hpl,hrun⟩ hnil
       have hall:∀ i,i<os.length→L.getD i false=true:=by
        intro i
        induction i using Nat.strongRecOn with
        | _ i ih =>
         intro hi
         cases hc:L.getD i false with
         | true=>rfl
         | false =>
          exfalso
          have hio:ops[i]?=some os[i]:=by rw [hat]; exact List.getElem?_eq_getElem hi
          have:i∈Region.ready .any ops L:=mem_ready.2 ⟨by
           rw [Array.getD_eq_getD_getElem?] at hc ⊢
           rw [Array.getElem?_eq_getElem (by omega)] at hc ⊢
           exact hc,os[i],hio,fun e he hb=>by
           have:=Qc8 c1 (List.getElem?_eq_getElem hi) he hb
           exact ih _ this (by omega)⟩
          rw [hnil] at this; cases this
       obtain rfl:p=hv.length:=by
        by_cases hp:p=hv.length
        · exact hp
        · exfalso
          have hlt:p<hv.length:=by omega
          have e1:hv[p]?=some hv[p]:=List.getElem?_eq_getElem hlt
          have:=(hhl p _ e1).1 (hall _ ((hmemhv _).1 (List.getElem_mem hlt)).1)
          omega
       rw [List.drop_eq_nil_of_le (Nat.le_refl _)] at hrun
       refine hQ (QeP V U) g a w ⟨hR.ext,hR.obs,hR.full,fun d x hx=>?_,hR.sz,hR.dfr,hR.ptr⟩ hrun.2
       rcases QcV hx with ⟨n,hn⟩ | hE'
       · obtain ⟨j,hj⟩:=hLn n d x hn
         obtain ⟨o',d',x',e1,e2,e3,e4⟩:=hVat n j hj
         exact hfact n j d x hj hn (hall j (List.getElem?_eq_some_iff.1 e1).1)
       · exact hR.env d x hE'
   · exact hr.elim
 · exact hr.elim
theorem QkO {Δ:Specs2} {D:List (Option Nat)} {q:PV→PS→Prop} {os:List Oper} {W:List (List Nat)} {Lt:List Nat} {V:List (Nat × PV)} {f:Nat} {l dn:List Nat} {U:PS} {k:PS→Prop} (h:Qjy P Γ Δ D q os W Lt V f l dn U k):Qo1 P Γ os Lt (awW W dn) V U:=by
 cases f with
 | zero=>exact h.elim
 | succ f=>cases l <;> exact h.1
def QuK (P:Program) (Γ:Specs) (Δ:Specs2) (q:PV→PS→Prop) (w0:Cx) (H0:Hp) (m:Nat) (os:List Oper) (Lt:List Nat) (V:List (Nat × PV)) (hv:List Nat) (k:PS→Prop) (L:Array Bool) (a:Act) (w:World):Prop :=
 ∃ U g rm dn f,(∀ k∈dn,L.getD k false=true)∧(∀ (k:Nat) o',os[k]?=some o'→L.getD k false=true→∀ j,Qax o' j=true→L.getD j false=true)∧L.size=os.length∧Real w0 H0 m U g a w∧(∀ (n d:Nat) x,V[n]?=some (d,x)→look U.env d=some .any) ∧
  (∀ (n j d:Nat) x,Lt[n]?=some j→V[n]?=some (d,x)→L.getD j false=true→PR g.H g.B (a.tmps.getD d undef) x)∧(∀ i∈hv,(L.getD i false=true↔i ∉ rm))∧(∀ i∈rm,i∈hv) ∧
  Qjy P Γ Δ (os.map (·.dst)) q os (Qhr os) Lt V f rm dn U k
theorem Qk5 {E:Env} {w0:Cx} {H0:Hp} {Δ:Specs2} (hΔ:Sound2 P E Δ) {q:PV→PS→Prop} (hΓ:Sound P E Γ) (hU:Up E) (hE:E w0.K w0.w H0) (hmix:P.follows .mixedOrders=true) {m:Nat} {s:PS} {g:Gh} {a:Act} {w:World} {Q:Exit→Act→World→Prop} {ops:Array Oper} {id:Nat} {k:PS→Prop}
  (hDm:∀ o∈ops.toList,QdB m o.dst=true) {Lt:List Nat} (hok:QiJ Lt ops.toList=true) (h:Real w0 H0 m s g a w) (hr:Qgz Lt P Γ Δ q ops.toList s k)
  (hQ:∀ s' g' a' w',Real w0 H0 m s' g' a' w'→k s'→Q .normal a' w') (hQp:∀ s g a w v y,Real w0 H0 m s g a w→PR g.H g.B v y→q y s→Q (.panic [{ v,recovered:=false }]) a w) (hQc:∀ c d v a w,Q (.panic c) (Act.put a d v) w→Q (.panic c) a w):(Code.region id ops true).wp P Q a w:=by
 obtain ⟨os,hos⟩:∃ os,os=ops.toList:=⟨_,rfl⟩
 rw [← hos] at hDm hok hr
 have hops:os.toArray=ops:=by rw [hos]
 have hsize:ops.size=os.length:=by rw [hos]; simp
 have hat:∀ i:Nat,ops[i]?=os[i]?:=fun i=>by rw [hos,Array.getElem?_toList]
 unfold QiJ at hok
 unfold Qgz at hr
 simp only [QeQ,QhO] at hr
 dsimp only at hok
 generalize hhv:QbO os.length Lt=hv at hok hr
 simp only [Bool.and_eq_true,List.all_eq_true] at hok
 obtain ⟨c1,c3,c4,c5,c6⟩:=hok
 split at hr
 · rename_i V hV
   split at hr
   · rename_i hnod
     obtain ⟨hVl,hVat⟩:=QiF hV
     have hmemhv:∀ i,i∈hv↔i<os.length∧memN i Lt=false:=by
      intro i
      rw [← hhv]
      unfold QbO
      rw [List.mem_filter,List.mem_range]
      cases memN i Lt <;> simp
     have hsort:hv.Pairwise (·<·):=by rw [← hhv]; exact List.Pairwise.filter _ List.pairwise_lt_range
     have hmono:∀ (n n' i i':Nat),hv[n]?=some i→hv[n']?=some i'→i<i'→n<n':=by
      intro n n' i i' hn hn' hlt
      obtain ⟨l1,e1⟩:=List.getElem?_eq_some_iff.1 hn
      obtain ⟨l2,e2⟩:=List.getElem?_eq_some_iff.1 hn'
      rcases Nat.lt_trichotomy n n' with hc | hc | hc
      · exact hc
      · subst hc; omega
      · have:=(List.pairwise_iff_getElem.1 hsort) n' n l2 l1 hc
        omega
     have hinjv:∀ (n n' i:Nat),hv[n]?=some i→hv[n']?=some i→n=n':=by
      intro n n' i hn hn'
      obtain ⟨l1,e1⟩:=List.getElem?_eq_some_iff.1 hn
      obtain ⟨l2,e2⟩:=List.getElem?_eq_some_iff.1 hn'
      rcases Nat.lt_trichotomy n n' with hc | hc | hc
      · have:=(List.pairwise_iff_getElem.1 hsort) n n' l1 l2 hc
        omega
      · exact hc
      · have:=(List.pairwise_iff_getElem.1 hsort) n' n l2 l1 hc
        omega
     have part:∀ i:Nat,i<os.length→(∃ n:Nat,Lt[n]?=some i)∨i∈hv:=by
      intro i hi
      cases hm:memN i Lt with
      | true=>exact .inl ⟨_,QbE hm⟩
      | false=>exact .inr ((hmemhv i).2 ⟨hi,hm⟩)
     have hexcl:∀ (n i:Nat),Lt[n]?=some i→i ∉ hv:=by
      intro n i hn hi
      have:=Qcq (List.mem_of_getElem? hn)
      rw [((hmemhv i).1 hi).2] at this; cases this
     have hinj:∀ (i j d:Nat) x y,V[i]?=some (d,x)→V[j]?=some (d,y)→i=j:=by
      intro i j d x y hi hj
      exact QeF hnod i j d (by rw [List.getElem?_map,hi]; rfl) (by rw [List.getElem?_map,hj]; rfl)
     have k3:∀ o∈os,∀ (n j d:Nat) x,Lt[n]?=some j→V[n]?=some (d,x)→QcP o d=true→Qax o j=true:=by
      intro o ho n j d x hn hv hu
      obtain ⟨p,d',x',h1,h2,h3,-⟩:=hVat n j hn
      have h4:=c3 o ho j (List.mem_of_getElem? hn)
      rw [Qap,h1] at h4
      dsimp only at h4
      rw [h2] at h4
      rw [hv] at h3
      cases h3
      dsimp only at h4
      rw [hu] at h4
      simpa using h4
     have hLn:∀ (n d:Nat) x,V[n]?=some (d,x)→∃ j:Nat,Lt[n]?=some j:=by
      intro n d x hn
      have:=(List.getElem?_eq_some_iff.1 hn).1
      exact ⟨_,List.getElem?_eq_getElem (by omega)⟩
     have k4:∀ i:Nat,i∈hv→∀ o,os[i]?=some o→∀ (n d:Nat) x,V[n]?=some (d,x)→o.dst≠some d:=by
      intro i hi o ho n d x hn hc
      obtain ⟨j,hj⟩:=hLn n d x hn
      obtain ⟨p,d',x',h1,h2,h3,-⟩:=hVat n j hj
      rw [hn] at h3
      cases h3
      have h4:=c4 i hi
      rw [Qap,ho] at h4
      dsimp only at h4
      rw [hc] at h4
      have h5:=List.all_eq_true.1 h4 j (List.mem_of_getElem? hj)
      rw [Qap,h1] at h5
      dsimp only at h5
      rw [h2] at h5
      simp at h5
     have hwt:∀ (L:Array Bool) (o:Oper),(∀ e∈o.after,Region.binds .any e=true→L.getD e.on false=true)→∀ j,Qax o j=true→L.getD j false=true:=by
      intro L o hd j hj
      unfold Qax at hj
      obtain ⟨ix,hix,hb⟩:=Array.any_eq_true.1 hj
      obtain ⟨e,he⟩:∃ e,e=o.after[ix]:=⟨_,rfl⟩
      rw [← he] at hb
      replace he:e∈o.after:=he ▸ Array.getElem_mem hix
      rw [Bool.and_eq_true,beq_iff_eq] at hb
      have:=hd e he hb.1
      rw [hb.2] at this; exact this
     -- the next of the chain
     have core:∀ (L:Array Bool) (a:Act) (w:World),QuK P Γ Δ q w0 H0 m os Lt V hv k L a w→∀ (i:Nat) (o:Oper),os[i]?=some o→i∈hv→L.getD i false=false→(∀ e∈o.after,Region.binds .any e=true→L.getD e.on false=true) →
       ∃ g s0 kk,(∀ {s1:PS} {g1:Gh} {a1:Act} {w1:World},Real ⟨w0.K,w,g.B,w0.D⟩ g.H m s1 g1 a1 w1→Real w0 H0 m s1 g1 a1 w1)∧Real ⟨w0.K,w,g.B,w0.D⟩ g.H m s0 g a w∧E w0.K w g.H∧Qa0 P Γ Δ (os.map (·.dst)) q [o] s0 kk ∧
        (∀ (a1:Act) (w1:World),(∀ d,o.dst≠some d→a1.tmps.getD d undef=a.tmps.getD d undef)→(∃ s1 g1,Real ⟨w0.K,w,g.B,w0.D⟩ g.H m s1 g1 a1 w1∧kk s1)→QuK P Γ Δ q w0 H0 m os Lt V hv k (L.setIfInBounds i true) a1 w1):=by
      rintro L a w ⟨U,g,rm,dn,f,hdn,hcl,hLs,hR,hany,hfact,hhl,hpl,hrun⟩ i o hio2 hiv hlf hd
      have hil:i<os.length:=(List.getElem?_eq_some_iff.1 hio2).1
      have hmem:o∈os:=List.mem_of_getElem? hio2
      have hw8:=hwt L o hd
      have hirm:i∈rm:=by
       by_cases hc:i∈rm
       · exact hc
       · have:=(hhl i hiv).2 hc
         rw [hlf] at this; cases this
      obtain ⟨f',rm',hmrm,hop⟩:∃ f' rm',(∀ j,j∈rm'↔j∈rm∧j≠i)∧Qa0 P Γ Δ (os.map (·.dst)) q [o] (QeP (V.filter fun p=>QcP o p.1) U) (fun s'=>Qjy P Γ Δ (os.map (·.dst)) q os (Qhr os) Lt V f' rm' (i::dn) (clrV V s') k):=by
       cases f with
       | zero=>exact hrun.elim
       | succ f' =>
        cases rm with
        | nil=>cases hirm
        | cons i0 rm0 =>
         have h0:=hrun.2
         simp only [QeQ] at h0
         have h1:=Qi7 h0 i (List.mem_filter.2 ⟨hirm,by
          rw [Bool.not_eq_true',List.any_eq_false]
          intro j hj hwj
          obtain ⟨o',ho',hw'⟩:=Qsm hwj
          rw [hio2] at ho'
          cases ho'
          exact absurd (hw8 j hw') (by rw [hhl j (hpl j hj)]; exact fun hc=>hc hj)⟩)
         rw [Qap,hio2] at h1
         refine ⟨f',_,fun j=>?_,h1⟩
         rw [List.mem_filter]
         constructor
         · rintro ⟨h4,h5⟩
           refine ⟨h4,fun hc=>?_⟩
           subst hc
           rw [show Nat.beq j j=true from Nat.beq_refl j] at h5
           cases h5
         · rintro ⟨h4,h5⟩
           refine ⟨h4,?_⟩
           cases hb:Nat.beq j i with
           | true=>exact absurd (Nat.eq_of_beq_eq_true hb) h5
           | false=>rfl
      have huse:∀ (d:Nat),Operand.tmp d∈Qat o.op→QcP o d=true:=by
       intro d hx
       unfold QcP
       rw [List.any_eq_true]
       exact ⟨_,QfW hx,by simp⟩
      have hR2:Real ⟨w0.K,w,g.B,w0.D⟩ g.H m (QeP (V.filter fun p=>QcP o p.1) U) g a w:=by
       refine ⟨ExtK.refl hR.obs.fro hR.ext.kept,hR.obs,hR.full,fun e y hy=>?_,hR.sz,hR.dfr,fun _ _ h=>h.1⟩
       rcases QcV hy with ⟨n',hn'⟩ | hE'
       · have hm:=List.mem_filter.1 (List.mem_of_getElem? hn')
         obtain ⟨n2,h2l,h2e⟩:=List.getElem_of_mem hm.1
         have hv2:V[n2]?=some (e,y):=by rw [List.getElem?_eq_getElem h2l,h2e]
         obtain ⟨j,hj⟩:=hLn n2 e y hv2
         exact hfact n2 j e y hj hv2 (hw8 j (k3 o hmem n2 j e y hj hv2 hm.2))
       · exact hR.env e y hE'
      have hback:∀ {s1:PS} {g1:Gh} {a1:Act} {w1:World},Real ⟨w0.K,w,g.B,w0.D⟩ g.H m s1 g1 a1 w1→Real w0 H0 m s1 g1 a1 w1:=fun h1 =>
       ⟨hR.ext.turnK h1.ext,h1.obs,h1.full,h1.env,h1.sz,h1.dfr,fun o p hp=>h1.ptr o p ⟨hR.ptr o p hp,hp.2⟩⟩
      refine ⟨g,_,_,hback,hR2,hU.go w0 H0 w g.H hR.ext hE,hop,?_⟩
      rintro a1 w1 hsl ⟨s1,g1,h1,h2⟩
      have hb:=hback h1
      have hset:∀ j,L.getD j false=true→(L.setIfInBounds i true).getD j false=true:=fun j hj=>by
       by_cases hji:j=i
       · subst hji; exact QaF (by omega)
       · rw [Qaj hji]; exact hj
      refine ⟨clrV V s1,g1,rm',i::dn,f',fun k hk=>(List.mem_cons.1 hk).elim (fun e=>e ▸ QaF (by omega)) (fun h=>hset _ (hdn k h)),fun k o' hk hkl j hj=>?_,by simp [hLs],⟨hb.ext,hb.obs,hb.full,fun d x hx=>(Qga hx).elim (fun e=>e ▸ .any) (hb.env d x),hb.sz,hb.dfr,hb.ptr⟩,fun n d x hn=>QfZ hn,fun n j d x hj hv' hl'=>?_,fun i' hi'=>?_,fun j hj=>hpl j ((hmrm j).1 hj).1,h2⟩
      · by_cases hki:k=i
        · subst hki
          rw [hio2] at hk
          cases hk
          exact hset _ (hw8 j hj)
        · rw [Qaj hki] at hkl
          exact hset _ (hcl k o' hk hkl j hj)
      · have hji:j≠i:=fun hc=>hexcl n j hj (hc ▸ hiv)
        rw [Qaj hji] at hl'
        obtain ⟨o',d',x',e1,e2,e3,e4⟩:=hVat n j hj
        rw [hv'] at e3
        cases e3
        rw [hsl d (k4 i hiv o hio2 n d x hv')]
        exact QmG h1.ext.le (fun o p hp=>h1.ptr o p hp) (hfact n j d x hj hv' hl') e4
      · rw [hmrm]
        by_cases hne:i'=i
        · subst hne
          rw [QaF (by omega)]
          exact ⟨fun _ hc=>hc.2 rfl,fun _=>rfl⟩
        · rw [Qaj hne,hhl i' hi']
          exact ⟨fun hc hm=>hc hm.1,fun hc hm=>hc ⟨hm,hne⟩⟩
     refine Qcv (Q:=Q) hmix (fun i o hi e he hb=>Qc8 c1 (by rw [← hat]; exact hi) he hb) (fun L a w=>QuK P Γ Δ q w0 H0 m os Lt V hv k L a w) [] (fun h=>by cases h) (by rw [← hops]; exact c6) (fun i hi=>by cases hi) (fun h=>absurd rfl h) (fun w' hw'=>?_) ?_ ?_ ?_
     · have hh:Real w0 H0 m s g a w':=by
        rcases hw' with rfl | rfl
        · exact h
        · exact h.drew
       have hz:∀ k:Nat,¬ (Array.replicate ops.size false).getD k false=true:=fun k hl=>by
        rw [Array.getD_eq_getD_getElem?,Array.getElem?_replicate] at hl
        split at hl <;> cases hl
       refine ⟨clrV V s,g,hv,[],_,fun k hk=>by (cases hk),fun k o' _ hl=>absurd hl (hz k),by simp [hsize],?_,fun n d x hn=>QfZ hn,fun n j d x _ _ hl=>?_,fun i hi=>?_,fun i hi=>hi,hr⟩
       · exact ⟨hh.ext,hh.obs,hh.full,fun d x hx=>(Qga hx).elim (fun e=>e ▸ .any) (hh.env d x),hh.sz,hh.dfr,hh.ptr⟩
       · rw [Array.getD_eq_getD_getElem?,Array.getElem?_replicate] at hl
         split at hl <;> cases hl
       · exact ⟨fun hl=>absurd hl (hz i),fun hc=>absurd hi hc⟩
     · intro L a w hI hnl i hi hrd _
       obtain ⟨hl,o,hio,hd⟩:=mem_ready.1 hrd
       obtain ⟨U,g,rm,dn,f,hdn,hcl,hLs,hR,hany,hfact,hhl,hpl,hrun⟩:=hI
       have hil:i<os.length:=by omega
       have hio2:os[i]?=some o:=by rw [← hat]; exact hio
       have hmem:o∈os:=List.mem_of_getElem? hio2
       have hlf:L.getD i false=false:=by
        rw [Array.getD_eq_getD_getElem?] at hl ⊢
        rw [Array.getElem?_eq_getElem (by omega)] at hl ⊢
        exact hl
       have hw8:=hwt L o hd
       have hdm:=hDm o hmem
       have huse:∀ (d:Nat),Operand.tmp d∈Qat o.op→QcP o d=true:=by
        intro d hx
        unfold QcP
        rw [List.any_eq_true]
        exact ⟨_,QfW hx,by simp⟩
       rcases part i hil with ⟨n,hn⟩ | hiv
       · -- a light one
         obtain ⟨o',d,x,h1,h2,h3,h4⟩:=hVat n i hn
         rw [hio2] at h1
         cases h1
         have hst:=QkO hrun
         unfold Qo1 at hst
         split at hst
         · rename_i xs hxs
           obtain ⟨hst,hneed⟩:=QfY hst
           obtain ⟨o',q',x',g1,g2,g3⟩:=QpU hxs n i hn
           rw [hio2] at g1
           cases g1
           have haw:awW (Qhr os) dn i=false:=by
            cases ha:awW (Qhr os) dn i with
            | false=>rfl
            | true =>
             exfalso
             unfold awW at ha
             obtain ⟨k,hk,hk2⟩:=List.any_eq_true.1 ha
             obtain ⟨o',hok,hk3⟩:=Qsm hk2
             have:=hcl k o' hok (hdn k hk) i hk3
             rw [hlf] at this; cases this
           have g4:(mskA (awW (Qhr os) dn) Lt (xs.map (·.2)))[n]?=(mskA (awW (Qhr os) dn) Lt (V.map (·.2)))[n]?:=by rw [hst.out]
           have hnd:=hneed n i q' x' hn g2 haw
           rw [Qk1 hn haw,Qk1 hn haw,List.getElem?_map,g2,List.getElem?_map,h3] at g4
           cases g4
           have hgd:o.guard=none:=by
            have:=c5 i (List.mem_of_getElem? hn)
            rw [Qap,hio2] at this
            simpa using this
           refine Qh5 hio fun K hK=>?_
           rw [if_pos (by simp [Region.wanted,hgd])]
           refine QeE (s:=QeP V U) (ob:=U.ob) (lo:=w0.K) (g:=g) hΓ hU (hU.go _ _ _ _ hR.ext hE) g3 hnd (fun _ _ hx=>hx) hR.obs hR.lo (fun z hz y hy=>?_) (fun z hz=>by cases hz) K ?_
           · cases z with
             | tmp e =>
              rcases QcV (V:=V) (E:=U.env) hy with ⟨n',hn'⟩ | hE'
              · obtain ⟨j,hj⟩:=hLn n' e y hn'
                exact hfact n' j e y hj hn' (hw8 j (k3 o hmem n' j e y hj hn' (huse e hz)))
              · exact hR.env e y hE'
             | const v=>exact Qf6 hy
             | func f=>cases hy; exact .f (.v _ rfl)
             | global k=>cases hy; exact .f (.v _ rfl)
           · intro w' u g' q1 q2 q3 q4 q5 q6
             have hself:(a.put o.dst u).tmps.getD d undef=u:=by
              rw [h2,QaO,if_pos ⟨rfl,by rw [hR.sz]; rw [h2] at hdm; simpa [QdB] using hdm⟩]
             have hother:∀ e,e≠d→(a.put o.dst u).tmps.getD e undef=a.tmps.getD e undef:=fun e he=>by rw [h2,QaO,if_neg (fun hc=>he hc.1)]
             have hset:∀ j,L.getD j false=true→(L.setIfInBounds i true).getD j false=true:=fun j hj=>by
              by_cases hji:j=i
              · subst hji; exact QaF (by omega)
              · rw [Qaj hji]; exact hj
             refine hK _ _ ⟨U,g',rm,dn,f,fun k hk=>hset _ (hdn k hk),fun k o' hk hkl j hj=>?_,by simp [hLs],⟨hR.ext.trans q2,q1,fun o ho=>?_,fun e y hy=>?_,?_,?_,fun o p hp=>q3 _ _ (hR.ptr o p hp)⟩,hany,fun n' j d' x' hj hv' hl'=>?_,fun i' hi'=>?_,hpl,hrun⟩
             · by_cases hki:k=i
               · subst hki
                 rw [hio2] at hk
                 cases hk
                 exact hset _ (hw8 j hj)
               · rw [Qaj hki] at hkl
                 exact hset _ (hcl k o' hk hkl j hj)
             · obtain ⟨u,hu⟩:=hR.full o ho
               exact ⟨u,q3 _ _ hu⟩
             · by_cases he:e=d
               · subst he
                 rw [hany n e x h3] at hy
                 cases hy; exact .any
               · rw [hother e he]; exact (hR.env e y hy).mono q2.le q3
             · rw [h2]; simpa [Act.put] using hR.sz
             · rw [h2]; simpa [Act.put] using hR.dfr
             · by_cases hdd:d'=d
               · subst hdd
                 obtain rfl:=hinj n' n d' x' x hv' h3
                 rw [hv'] at h3
                 cases h3
                 rw [hself]; exact q6
               · have hji:j≠i:=by
                  rintro rfl
                  obtain ⟨o'',d'',x'',e1,e2,e3,-⟩:=hVat n' j hj
                  rw [hio2] at e1
                  cases e1
                  rw [h2] at e2
                  cases e2
                  rw [hv'] at e3
                  cases e3
                  exact hdd rfl
                 rw [Qaj hji] at hl'
                 rw [hother d' hdd]
                 exact (hfact n' j d' x' hj hv' hl').mono q2.le q3
             · have hne:i'≠i:=fun hc=>hexcl n i hn (hc ▸ hi')
               rw [Qaj hne]
               exact hhl i' hi'
         · exact hst.elim
       · obtain ⟨g,s0,kk,hback,hR2,hE2,hop,hfin⟩:=core L a w ⟨U,g,rm,dn,f,hdn,hcl,hLs,hR,hany,hfact,hhl,hpl,hrun⟩ i o hio2 hiv hlf hd
         have hw:=Qb9 (w0:=⟨w0.K,w,g.B,w0.D⟩) (H0:=g.H) (Q:=fun e a1 w1=>match e with | .normal=>∃ s1 g1,Real ⟨w0.K,w,g.B,w0.D⟩ g.H m s1 g1 a1 w1∧kk s1 | e=>Q e a1 w1)
          hΔ (fun s1 g1 a1 w1 v y h1 h2 h3=>hQp s1 g1 a1 w1 v y (hback h1) h2 h3) hΓ hU hE2 (ops:=ops) (by rw [← hos]) (by rw [← hos]; exact hDm) [o] (fun o' ho'=>by simp at ho'; subst ho'; exact hdm) _ g a w _ hR2 hop
          (fun s1 g1 a1 w1 h1 h2=>⟨s1,g1,h1,h2⟩)
         unfold wpOp
         rw [hio]
         dsimp only
         unfold wpList at hw
         split
         · rename_i hwt
           rw [if_pos hwt] at hw
           rcases hw with hw | ⟨hw1,hw2⟩
           · exact .inl (QlM hw (fun a1 w1 hs h1=>hfin a1 w1 hs h1) (fun c w1 hc=>hc) (fun hO=>hO))
           · exact .inr ⟨hw1,hw2⟩
         · rename_i hwt
           rw [if_neg hwt] at hw
           refine hfin _ _ (fun d hd=>?_) hw
           cases hdst:o.dst with
           | none=>rfl
           | some e =>
            rw [hdst] at hd
            rw [QaO,if_neg (fun hc=>hd (by rw [hc.1]))]
     · intro L a w hI i hi hrd
       cases hi
     · rintro L a w ⟨U,g,rm,dn,f,-,-,hLs,hR,hany,hfact,hhl,hpl,hrun⟩ hnil
       have hall:∀ i,i<os.length→L.getD i false=true:=by
        intro i
        induction i using Nat.strongRecOn with
        | _ i ih =>
         intro hi
         cases hc:L.getD i false with
         | true=>rfl
         | false =>
          exfalso
          have hio:ops[i]?=some os[i]:=by rw [hat]; exact List.getElem?_eq_getElem hi
          have:i∈Region.ready .any ops L:=mem_ready.2 ⟨by
           rw [Array.getD_eq_getD_getElem?] at hc ⊢
           rw [Array.getElem?_eq_getElem (by omega)] at hc ⊢
           exact hc,os[i],hio,fun e he hb=>by
           have:=Qc8 c1 (List.getElem?_eq_getElem hi) he hb
           exact ih _ this (by omega)⟩
          rw [hnil] at this; cases this
       have hnl:rm=[]:=by
        cases rm with
        | nil=>rfl
        | cons i l =>
         exfalso
         have hm:=hpl i List.mem_cons_self
         have:=(hhl i hm).1 (hall _ ((hmemhv _).1 hm).1)
         exact this List.mem_cons_self
       subst hnl
       have hk:=(show Qo1 P Γ os Lt (awW (Qhr os) dn) V U∧k (QeP V U) by cases f with | zero=>exact hrun.elim | succ f=>exact hrun)
       refine hQ (QeP V U) g a w ⟨hR.ext,hR.obs,hR.full,fun d x hx=>?_,hR.sz,hR.dfr,hR.ptr⟩ hk.2
       rcases QcV hx with ⟨n,hn⟩ | hE'
       · obtain ⟨j,hj⟩:=hLn n d x hn
         obtain ⟨o',d',x',e1,e2,e3,e4⟩:=hVat n j hj
         exact hfact n j d x hj hn (hall j (List.getElem?_eq_some_iff.1 e1).1)
       · exact hR.env d x hE'
   · exact hr.elim
 · exact hr.elim
end
section
variable {P : Program} {Γ : Specs}
end
def Qr (w0:Cx) (H0:Hp) (m:Nat) (q:PV→PS→Prop) (Q:Exit→PS→Prop):Exit→Act→World→Prop
 | .panic c,a,w=>∃ s g v y,c=[{ v,recovered:=false }]∧Real w0 H0 m s g a w∧PR g.H g.B v y∧q y s
 | .outgrown,_,_=>False
 | e,a,w=>∃ s g,Real w0 H0 m s g a w∧Q e s
def Qd (w0:Cx) (H0:Hp) (m:Nat) (q:PV→PS→Prop) (Q:Exit→PS→Prop):Exit→Act→World→Prop
 | .panic c,a,w=>∃ ob g v y,c=[{ v,recovered:=false }]∧Real w0 H0 m ⟨[],ob⟩ g a w∧PR g.H g.B v y∧q y ⟨[],ob⟩
 | e,a,w=>Qr w0 H0 m q Q e a w
theorem PR.lower {H:Hp} {B:Hd} {v:Value} {x:PV} {n:Nat} (h:PR H B v x):QbH n x=true→PR H (fun o=>if o<n then B o else none) v x:=by
 have key:∀ {l:List PV},Qct n l=true→∀ (i:Nat) x,l[i]?=some x→QbH n x=true:=by
  intro l
  induction l with
  | nil=>intro _ i x hx; simp at hx
  | cons y l ih =>
   intro h i x hx
   simp only [Qct] at h
   split at h
   · rename_i hy
     cases i with
     | zero=>simp at hx; subst hx; exact hy
     | succ i=>exact ih h i x (by simpa using hx)
   · cases h
 induction h with
 | f h=>intro _; exact .f h
 | @bp o off b h=>intro hp; exact .bp (by rw [if_pos (by simpa [QbH] using hp)]; exact h)
 | ep b o val hc h=>intro _; exact .ep b o val hc h
 | @tl o v x h hb=>intro hp; exact .tl h (by rw [if_pos (by simpa [QbH] using hp)]; exact hb)
 | @wr o v hb h1=>intro hp; exact .wr (by rw [if_pos (by simpa [QbH] using hp)]; exact hb) h1
 | @wp o k i b n cap hb hi=>intro hp; exact .wp (by rw [if_pos (by simpa [QbH] using hp)]; exact hb) hi
 | any=>intro _; exact .any
 | agg hn h ih=>intro hp; exact .agg hn fun i v x hv hx=>ih i v x hv hx (key (by simpa [QbH] using hp) i x hx)
 | tup hn h ih=>intro hp; exact .tup hn fun i v x hv hx=>ih i v x hv hx (key (by simpa [QbH] using hp) i x hx)
 | fn hm h1 hn h2 ih1 ih2 =>
  intro hp
  unfold QbH at hp
  split at hp
  · rename_i hl; exact .fn hm (fun i v x hv hx=>ih1 i v x hv hx (key hl i x hx)) hn fun i v x hv hx=>ih2 i v x hv hx (key hp i x hx)
  · cases hp
 | ifc h ih=>intro hp; exact .ifc (ih (by simpa [QbH] using hp))
theorem Qe1 {n:Nat}:∀ {l:List PV},Qct n l=true→∀ (i:Nat) x,l[i]?=some x→QbH n x=true
 | [],_,i,x,h=>by simp at h
 | y::l,h,i,x,hx=>by
  simp only [Qct] at h
  split at h
  · rename_i hy
    cases i with
    | zero=>simp at hx; subst hx; exact hy
    | succ i=>exact Qe1 h i x (by simpa using hx)
  · cases h
theorem QpM {H:Hp} {B:Hd} {n:Nat} {v:Value} {y x:PV} (h:PR H B v y) (hn:newT n y x=true) (he:QdA x):∃ o lf,x=.tl o lf∧n≤o∧v=.slice none 0 0∧Rd H (.slice none 0 0) lf:=by
 unfold newT at hn
 split at hn
 · rename_i o kd l
   have hv:=h.val
   subst hv
   have he:l=[]:=he
   subst he
   exact ⟨o,_,rfl,Nat.le_of_ble_eq_true hn,rfl,.sl (f:=.is kd []) rfl trivial (Nat.le_refl _) (by unfold maxLen; omega) (fun _=>rfl) 0 0 (fun _ _=>undef) (fun hc=>absurd hc (Nat.lt_irrefl 0)) (fun i hi=>absurd hi (Nat.not_lt_zero i)) (fun i hi=>absurd hi (Nat.not_lt_zero i)) (fun i hi=>absurd hi (Nat.not_lt_zero i))⟩
 · rename_i o k l
   have hv:=h.val
   subst hv
   have he:l=[]:=he
   subst he
   exact ⟨o,_,rfl,Nat.le_of_ble_eq_true hn,rfl,.sl (f:=.row k []) rfl trivial (Nat.le_refl _) (by unfold maxLen; omega) (fun _=>rfl) 0 0 (fun _ _=>undef) (fun hc=>absurd hc (Nat.lt_irrefl 0)) (fun i hi=>absurd hi (Nat.not_lt_zero i)) (fun i hi=>absurd hi (Nat.not_lt_zero i)) (fun i hi=>absurd hi (Nat.not_lt_zero i))⟩
 · rename_i o sh l
   have hv:=h.val
   subst hv
   have he:l=[]:=he
   subst he
   exact ⟨o,_,rfl,Nat.le_of_ble_eq_true hn,rfl,.slf (f:=.dt sh []) (n:=0) (fun _=>rfl) rfl trivial (Nat.le_refl _) (by unfold maxLen; omega) (fun _=>rfl) 0 0 (fun _ _=>undef) (fun hc=>absurd hc (Nat.lt_irrefl 0)) (fun i hi=>absurd hi (Nat.not_lt_zero i)) (fun i hi=>absurd hi (Nat.not_lt_zero i)) (fun i hi=>absurd hi (Nat.not_lt_zero i))⟩
 · cases hn
theorem Qgg {n:Nat} {H:Hp} {B B1:Hd} (hle:B.le B1) (hnew:∀ o,n≤o→B1 o=some (.slice none 0 0)):∀ {vs:List Value} {l m:List PV},Qje n l m→PRs H B vs l→PRs H B1 vs m
 | vs,[],[],_,h=>⟨h.1,fun i v x hv hx=>by cases hx⟩
 | vs,[],_::_,h,_=>h.elim
 | vs,_::_,[],h,_=>h.elim
 | [],_::_,_::_,_,hv=>by have:=hv.1; simp at this
 | v::vs,x::l,y::m,h,hv=>by
  have hv0:=hv.2 0 _ _ rfl rfl
  have hvs:PRs H B vs l:=⟨by have:=hv.1; simpa using this,fun i v x hv' hx=>hv.2 (i+1) v x (by simpa using hv') (by simpa using hx)⟩
  unfold Qje at h
  split at h
  · rename_i hn
    obtain ⟨o,lf,rfl,h3,h4,h5⟩:=QpM hv0 hn h.1
    subst h4
    exact .cons (.tl h5 (hnew o h3)) (Qgg hle hnew h.2 hvs)
  · exact .cons ((h.1.out _ _ _ hv0).mono (Hp.le_refl _) hle) (Qgg hle hnew h.2 hvs)
theorem Qci {n:Nat}:∀ {t s:List PO},Qcf n t s→∀ (o:Nat) x,t[o]?=some x→(x=.gone∧o<s.length)∨(∃ l m,x=.cells l∧s[o]?=some (.cells m)∧Qje n m l)∨(∃ e k,x=.tail e k∧s[o]?=some (.tail e k))∨(∃ e k,x=.tail e k∧s.length≤o)∨(∃ e y,x=.own e y∧s[o]?=some (.own e y))∨(∃ t has get ks vs t' has' get' ks' vs',x=.map t has get ks vs∧s[o]?=some (.map t' has' get' ks' vs')∧MapW t' has' get' ks' vs' t has get ks vs)∨∃ T y z,x=.bld T y∧s[o]?=some (.bld T z)∧SubB z y
 | [],s,_,o,x,h=>by simp at h
 | .cells l::t,.cells m::s,h,o,x,hx=>by
  cases o with
  | zero=>simp at hx; subst hx; exact .inr (.inl ⟨l,m,rfl,rfl,h.1⟩)
  | succ o=>simpa using Qci h.2 o x (by simpa using hx)
 | .tail e k::t,.tail e' k'::s,h,o,x,hx=>by
  unfold Qcf at h
  split at h
  · rename_i he
    rw [Bool.and_eq_true] at he
    obtain rfl:e=e':=Nat.eq_of_beq_eq_true he.1
    obtain rfl:=Nat.eq_of_beq_eq_true he.2
    cases o with
    | zero=>simp at hx; subst hx; exact .inr (.inr (.inl ⟨e,k,rfl,rfl⟩))
    | succ o=>simpa using Qci h o x (by simpa using hx)
  · exact h.elim
 | .tail e k::t,[],h,o,x,hx=>by
  cases o with
  | zero=>simp at hx; subst hx; exact .inr (.inr (.inr (.inl ⟨e,k,rfl,by simp⟩)))
  | succ o =>
   have h':Qcf n t []:=h
   simpa using Qci h' o x (by simpa using hx)
 | .gone::t,y::s,h,o,x,hx=>by
  have h':Qcf n t s:=by cases y <;> exact h
  cases o with
  | zero=>simp at hx; subst hx; exact .inl ⟨rfl,by simp⟩
  | succ o=>simpa using Qci h' o x (by simpa using hx)
 | .cells _::_,[],h,_,_,_=>h.elim
 | .cells _::_,.own ..::_,h,_,_,_=>h.elim
 | .cells _::_,.tail ..::_,h,_,_,_=>h.elim
 | .cells _::_,.gone::_,h,_,_,_=>h.elim
 | .tail ..::_,.cells ..::_,h,_,_,_=>h.elim
 | .tail ..::_,.own ..::_,h,_,_,_=>h.elim
 | .tail ..::_,.gone::_,h,_,_,_=>h.elim
 | .own ..::_,[],h,_,_,_=>h.elim
 | .own e x::t,.own e' x'::s,h,o,y,hx=>by
  unfold Qcf at h
  split at h
  · rename_i he
    obtain rfl:e=e':=Nat.eq_of_beq_eq_true he
    obtain ⟨rfl,h⟩:=h
    cases o with
    | zero=>simp at hx; subst hx; exact .inr (.inr (.inr (.inr (.inl ⟨_,_,rfl,rfl⟩))))
    | succ o=>simpa using Qci h o y (by simpa using hx)
  · exact h.elim
 | .map t has get ks vs::T,.map t' has' get' ks' vs'::s,h,o,x,hx=>by
  cases o with
  | zero=>simp at hx; subst hx; exact .inr (.inr (.inr (.inr (.inr (.inl ⟨_,_,_,_,_,_,_,_,_,_,rfl,rfl,h.1⟩)))))
  | succ o=>simpa using Qci h.2 o x (by simpa using hx)
 | .bld T y::t,.bld T' z::s,h,o,x,hx=>by
  unfold Qcf at h
  split at h
  · rename_i he
    obtain rfl:T=T':=Nat.eq_of_beq_eq_true he
    cases o with
    | zero=>simp at hx; subst hx; exact .inr (.inr (.inr (.inr (.inr (.inr ⟨_,_,_,rfl,rfl,h.1⟩)))))
    | succ o=>simpa using Qci h.2 o x (by simpa using hx)
  · exact h.elim
 | .bld ..::_,[],h,_,_,_=>h.elim
 | .bld ..::_,.cells _::_,h,_,_,_=>h.elim
 | .bld ..::_,.own ..::_,h,_,_,_=>h.elim
 | .bld ..::_,.tail ..::_,h,_,_,_=>h.elim
 | .bld ..::_,.gone::_,h,_,_,_=>h.elim
 | .bld ..::_,.map ..::_,h,_,_,_=>h.elim
 | .map ..::_,.bld ..::_,h,_,_,_=>h.elim
 | .cells _::_,.bld ..::_,h,_,_,_=>h.elim
 | .tail ..::_,.bld ..::_,h,_,_,_=>h.elim
 | .own ..::_,.bld ..::_,h,_,_,_=>h.elim
 | .map ..::_,[],h,_,_,_=>h.elim
 | .map ..::_,.cells _::_,h,_,_,_=>h.elim
 | .map ..::_,.own ..::_,h,_,_,_=>h.elim
 | .map ..::_,.tail ..::_,h,_,_,_=>h.elim
 | .map ..::_,.gone::_,h,_,_,_=>h.elim
 | .cells _::_,.map ..::_,h,_,_,_=>h.elim
 | .tail ..::_,.map ..::_,h,_,_,_=>h.elim
 | .own ..::_,.map ..::_,h,_,_,_=>h.elim
 | .own ..::_,.cells _::_,h,_,_,_=>h.elim
 | .own ..::_,.tail ..::_,h,_,_,_=>h.elim
 | .own ..::_,.gone::_,h,_,_,_=>h.elim
 | .gone::_,[],h,_,_,_=>h.elim
theorem Qe0 {n:Nat}:∀ {t:List PO},Qcs n t=true→∀ (o:Nat) x,t[o]?=some x→Qct n (poL x)=true
 | [],_,o,l,h=>by simp at h
 | x::t,h,o,y,hx=>by
  have key:Qct n (poL x)=true∧Qcs n t=true:=by
   cases x with
   | cells m =>
    simp only [Qcs] at h
    split at h
    · exact ⟨by assumption,h⟩
    · cases h
   | map _ _ _ _ m =>
    simp only [Qcs] at h
    split at h
    · exact ⟨by assumption,h⟩
    · cases h
   | bld T y =>
    simp only [Qcs] at h
    split at h
    · exact ⟨by simp only [poL,Qct]; simp [*],h⟩
    · cases h
   | own=>exact ⟨rfl,h⟩
   | tail=>exact ⟨rfl,h⟩
   | gone=>exact ⟨rfl,h⟩
  cases o with
  | zero=>simp at hx; subst hx; exact key.1
  | succ o=>exact Qe0 key.2 o y (by simpa using hx)
theorem Qh6 {s:PS}:∀ {l:List (Nat × PV)},QoB s l→∀ d x,look l d=some x→∃ y,look s.env d=some y∧(SubB y x∨(newT s.ob.length y x=true∧QdA x))
 | [],_,d,x,h=>by simp [look] at h
 | (e,z)::l,h,d,x,hx=>by
  simp only [QoB] at h
  split at h
  · rename_i y hy
    rw [QaC] at hx
    split at h
    · rename_i hn
      split at hx
      · rename_i he; cases hx; subst he; exact ⟨y,hy,.inr ⟨hn,h.1⟩⟩
      · exact Qh6 h.2 d x hx
    · split at hx
      · rename_i he; cases hx; subst he; exact ⟨y,hy,.inl h.1⟩
      · exact Qh6 h.2 d x hx
  · exact h.elim
theorem Qki {n:Nat}:∀ {l:List (Nat × PV)},QfB n l=true→∀ d x,look l d=some x→QbH n x=true
 | [],_,d,x,h=>by simp [look] at h
 | (e,z)::l,h,d,x,hx=>by
  simp only [QfB] at h
  split at h
  · rename_i hz
    rw [QaC] at hx
    split at hx
    · cases hx; exact hz
    · exact Qki h d x hx
  · cases h
theorem Real.weak0 {n0:Nat} {w0:Cx} {H0:Hp} {m:Nat} {s T:PS} {g:Gh} {a:Act} {w:World} (hn0:∀ o u,w0.B o=some u→o<n0) (h:Real w0 H0 m s g a w) (hw:Weak0 n0 T s):∃ g',Real w0 H0 m T g' a w:=by
 unfold Weak0 at hw
 split at hw
 · rename_i hb
   rw [Bool.and_eq_true,Bool.and_eq_true] at hb
   obtain ⟨hb1,hb2,hb3⟩:=hb
   have hb3:=Nat.le_of_ble_eq_true hb3
   obtain ⟨hO,hE⟩:=hw
   have hob:=Qci hO
   let B1:Hd:=fun o=>if o<s.ob.length then g.B o else some (.slice none 0 0)
   have hB1:g.B.le B1:=fun o u hu=>(if_pos (h.obs.dom o u hu)).trans hu
   have hBle:∀ o u,(if o<T.ob.length then B1 o else none)=some u→o<T.ob.length∧((o<s.ob.length∧g.B o=some u)∨(s.ob.length≤o∧u=.slice none 0 0)):=by
    intro o u hu
    split at hu
    · rename_i ho
      refine ⟨ho,?_⟩
      by_cases hc:o<s.ob.length
      · exact .inl ⟨hc,(if_pos hc).symm.trans hu⟩
      · have:some (Value.slice none 0 0)=some u:=(if_neg hc).symm.trans hu
        cases this
        exact .inr ⟨by omega,rfl⟩
    · cases hu
   refine ⟨⟨g.H,fun o=>if o<T.ob.length then B1 o else none⟩,h.ext,⟨h.obs.fro,fun o u b hu hb=>?_,fun o x u hx hu=>?_,fun o o' u u' b hne hu hu' hb hb'=>?_,fun o u hu=>(hBle o u hu).1,fun o u b hu hb=>by
    rcases (hBle o u hu).2 with ⟨_,h1⟩ | ⟨_,rfl⟩
    · exact h.obs.kept o u b h1 hb
    · cases hb⟩,fun o ho=>?_,fun d x hx=>?_,h.sz,h.dfr,fun o p hp=>(if_pos (Nat.lt_of_lt_of_le (hn0 _ _ hp.1) hb3)).trans (hB1 _ _ (h.ptr o p hp))⟩
   · rcases (hBle o u hu).2 with ⟨_,h1⟩ | ⟨_,rfl⟩
     · exact h.obs.lt o u b h1 hb
     · cases hb
   · obtain ⟨hlt,hu'⟩:=hBle o u hu
     rcases hob o x hx with ⟨rfl,_⟩ | ⟨l,m',rfl,hs,hwl⟩ | ⟨e,k,rfl,hs⟩ | ⟨e,k,rfl,hs⟩ | ⟨e,y,rfl,hs⟩ | ⟨t,has,get,ks,vs,t',has',get',ks',vs',rfl,hs,hmw⟩ | ⟨T,y,z,rfl,hs,hsub⟩
     · trivial
     · have hos:=(List.getElem?_eq_some_iff.1 hs).1
       rcases hu' with ⟨_,hu'⟩ | ⟨hc,_⟩
       · obtain ⟨b,vs,rfl,h1,h2,h3,h4,h5⟩:=h.obs.hold o _ u hs hu'
         have h6:=Qgg (B1:=B1) hB1 (fun o ho=>if_neg (by omega)) hwl ⟨h2,h3⟩
         have hbl:=Qe0 hb2 o _ hx
         exact ⟨b,vs,rfl,h1,h6.1,fun i v x hv hx=>(h6.2 i v x hv hx).lower (Qe1 hbl i x hx),h4,h5⟩
       · omega
     · have hos:=(List.getElem?_eq_some_iff.1 hs).1
       rcases hu' with ⟨_,hu'⟩ | ⟨hc,_⟩
       · exact h.obs.hold o _ u hs hu'
       · omega
     · rcases hu' with ⟨hc,_⟩ | ⟨_,rfl⟩
       · omega
       · exact .inl rfl
     · have hos:=(List.getElem?_eq_some_iff.1 hs).1
       rcases hu' with ⟨_,hu'⟩ | ⟨hc,_⟩
       · exact h.obs.hold o _ u hs hu'
       · omega
     · have hos:=(List.getElem?_eq_some_iff.1 hs).1
       rcases hu' with ⟨_,hu'⟩ | ⟨hc,_⟩
       · obtain ⟨b,es,clock,l,rfl,h1,h2,h3,h4,h5⟩:=h.obs.hold o _ u hs hu'
         obtain ⟨ht,hm⟩:=hmw.out
         subst ht
         have hbl:=Qe0 hb2 o _ hx
         refine ⟨b,es,clock,l,rfl,h1,h2,h3,h4,fun key=>?_⟩
         have h6:OR g.H g.B ((asc t' l key 0).map (·.2)) (Qbc t' has get ks vs key):=by
          have h7:=h5 key
          have h8:=hm key
          generalize (asc t' l key 0).map (·.2)=r at h7
          cases hq:Qbc t' has' get' ks' vs' key with
          | none =>
           rw [hq] at h7 h8
           cases hq2:Qbc t' has get ks vs key with
           | none=>cases r with
            | none=>trivial
            | some v=>exact h7.elim
           | some y=>simp only [hq2] at h8; exact h8.elim
          | some x =>
           rw [hq] at h7 h8
           cases hq2:Qbc t' has get ks vs key with
           | none=>simp only [hq2] at h8; exact h8.elim
           | some y =>
            simp only [hq2] at h8
            cases r with
            | none=>exact h7.elim
            | some v=>exact h8.out _ _ _ h7
         exact QdW (Hp.le_refl _) key _ rfl (fun i x hx=>⟨x,hx,fun v hv=>(hv.mono (Hp.le_refl _) hB1).lower (Qe1 hbl i x hx)⟩) h6
       · omega
     · have hos:=(List.getElem?_eq_some_iff.1 hs).1
       rcases hu' with ⟨_,hu'⟩ | ⟨hc,_⟩
       · obtain ⟨b,p,v,rfl,h1,h2,h3,h4,h5⟩:=h.obs.hold o _ u hs hu'
         exact ⟨b,p,v,rfl,h1,h2,((hsub.out _ _ _ h3).mono (Hp.le_refl _) hB1).lower (Qe1 (Qe0 hb2 o _ hx) 0 _ rfl),h4,h5⟩
       · omega
   · rcases (hBle o u hu).2 with ⟨_,h1⟩ | ⟨_,rfl⟩
     · rcases (hBle o' u' hu').2 with ⟨_,h2⟩ | ⟨_,rfl⟩
       · exact h.obs.apart o o' u u' b hne h1 h2 hb hb'
       · cases hb'
     · cases hb
   · by_cases hc:o<s.ob.length
     · obtain ⟨u,hu⟩:=h.full o hc
       exact ⟨u,(if_pos ho).trans ((if_pos hc).trans hu)⟩
     · exact ⟨_,(if_pos ho).trans (if_neg hc)⟩
   · obtain ⟨y,hy,hs⟩:=Qh6 hE d x hx
     have hbl:=Qki hb1 d x hx
     rcases hs with hs | ⟨h1,h2⟩
     · exact ((hs.out _ _ _ (h.env d y hy)).mono (Hp.le_refl _) hB1).lower hbl
     · obtain ⟨o,lf,rfl,h3,h4,h5⟩:=QpM (h.env d y hy) h1 h2
       refine PR.lower (B:=B1) ?_ hbl
       rw [h4]
       exact .tl h5 (if_neg (by omega))
 · exact hw.elim
section
variable {P : Program} {Γ : Specs} {Λ : Loops} {m n0 : Nat} {w0 : Cx} {H0 : Hp}
theorem QdM {w0:Cx} {H0:Hp} {m:Nat} {a:Act} {w:World}:∀ (t:List PO) (o:Nat) {s:PS} {g:Gh},Real w0 H0 m s g a w→∃ g',Real w0 H0 m (Qdi o t s) g' a w
 | [],o,s,g,h=>⟨g,h⟩
 | y::t,o,s,g,h=>by
  cases y with
  | tail e k =>
   rw [Qdi]
   split
   · split
     · rename_i ht
       obtain ⟨g1,h1,-,-⟩:=Qgj h ht
       exact QdM t (o+1) h1
     · exact ⟨g,h⟩
   · exact QdM t (o+1) h
  | _=>exact QdM t (o+1) h
theorem Real.weak {n0:Nat} {w0:Cx} {H0:Hp} {m:Nat} {s T:PS} {g:Gh} {a:Act} {w:World} (hn0:∀ o u,w0.B o=some u→o<n0) (h:Real w0 H0 m s g a w) (hw:Weak n0 T s):∃ g',Real w0 H0 m T g' a w:=by
 obtain ⟨g1,h1⟩:=QdM T.ob 0 h
 exact h1.weak0 hn0 hw
theorem Qbr {E:Env} {Δ:Specs2} (hΔ:Sound2 P E Δ) {q:PV→PS→Prop} (hn0:∀ o u,w0.B o=some u→o<n0) (hΓ:Sound P E Γ) (hU:Up E) (hE:E w0.K w0.w H0) (hmix:P.follows .mixedOrders=true):∀ (c:Code) (Q:Exit→PS→Prop) (s:PS),PW P Γ Δ Λ m n0 q c Q s →
  ∀ (g:Gh) (a:Act) (w:World),Real w0 H0 m s g a w→c.wp P (Qr w0 H0 m q Q) a w
 | .skip,Q,s,h,g,a,w,hR=>wp_skip ⟨s,g,hR,h⟩
 | .label _,Q,s,h,g,a,w,hR=>wp_label ⟨s,g,hR,h⟩
 | .ret,Q,s,h,g,a,w,hR=>wp_ret ⟨s,g,hR,h⟩
 | .exit id,Q,s,h,g,a,w,hR=>wp_exit ⟨s,g,hR,h⟩
 | .seq x y,Q,s,h,g,a,w,hR=>by
  unfold PW at h
  split at h
  · rename_i L hL
    refine wp_seq (wp_mono (Qbr hΔ hn0 hΓ hU hE hmix x _ s h.1 g a w hR) fun e a' w' hq=>?_)
    cases e with
    | normal =>
     obtain ⟨s',g',h1,z,h2,h3⟩:=hq
     obtain ⟨g'',h4⟩:=h1.weak hn0 h2
     exact Qbr hΔ hn0 hΓ hU hE hmix y Q _ (h.2 z h3) g'' a' w' h4
    | exit i=>exact hq
    | goto i=>exact hq
    | ret=>exact hq
    | panic c=>exact hq
    | outgrown=>exact hq
  · refine wp_seq (wp_mono (Qbr hΔ hn0 hΓ hU hE hmix x _ s h g a w hR) fun e a' w' hq=>?_)
    cases e with
    | normal=>obtain ⟨s',g',h1,h2⟩:=hq; exact Qbr hΔ hn0 hΓ hU hE hmix y Q s' h2 g' a' w' h1
    | exit i=>exact hq
    | goto i=>exact hq
    | ret=>exact hq
    | panic c=>exact hq
    | outgrown=>exact hq
 | .block id x,Q,s,h,g,a,w,hR=>by
  refine wp_block (wp_mono (Qbr hΔ hn0 hΓ hU hE hmix x _ s h g a w hR) fun e a' w' hq=>?_)
  cases e with
  | normal=>exact hq
  | exit i =>
   obtain ⟨s',g',h1,h2⟩:=hq
   unfold Exit.inBlock
   dsimp only at h2 ⊢
   by_cases hi:i=id
   · rw [if_pos hi]
     rw [show Nat.beq i id=true by rw [hi]; simp] at h2
     exact ⟨s',g',h1,h2⟩
   · rw [if_neg hi]
     rw [show Nat.beq i id=false by cases hb:Nat.beq i id; rfl; exact absurd (Nat.eq_of_beq_eq_true hb) hi] at h2
     exact ⟨s',g',h1,h2⟩
  | goto i=>exact hq
  | ret=>exact hq
  | panic c=>exact hq
  | outgrown=>exact hq
 | .cond (.tmp d) x y,Q,s,h,g,a,w,hR=>by
  unfold PW at h
  split at h
  · rename_i t ht
    have hv:=QkV hR ht
    rcases Qbf h with ⟨rfl,h1⟩ | ⟨rfl,h1⟩
    · exact wp_cond_true hv (Qbr hΔ hn0 hΓ hU hE hmix x Q _ h1 g a w (hR.look hv))
    · exact wp_cond_false hv (Qbr hΔ hn0 hΓ hU hE hmix y Q _ h1 g a w (hR.look hv))
  · exact h.elim
 | .cond (.const (.bool t)) x y,Q,s,h,g,a,w,hR=>by
  cases t
  · exact wp_cond_false rfl (Qbr hΔ hn0 hΓ hU hE hmix y Q s h g a w hR)
  · exact wp_cond_true rfl (Qbr hΔ hn0 hΓ hU hE hmix x Q s h g a w hR)
 | .region id ops false,Q,s,h,g,a,w,hR=>by
  unfold PW at h
  have hqp:∀ s g a w v y,Real w0 H0 m s g a w→PR g.H g.B v y→q y s→Qr w0 H0 m q Q (.panic [{ v,recovered:=false }]) a w:=fun s g a w v y h1 h2 h3=>⟨s,g,v,y,rfl,h1,h2,h3⟩
  have hn:∀ s' g' a' w',Real w0 H0 m s' g' a' w'→Q .normal s'→Qr w0 H0 m q Q .normal a' w':=fun s' g' a' w' hr hq=>⟨s',g',hr,hq⟩
  split at h
  · rename_i h1
    rw [List.all_eq_true] at h1
    obtain ⟨g,hR⟩:=QjE hR ops.toList
    exact wp_region_list (Qb9 hΔ hqp hΓ hU hE rfl h1 ops.toList h1 _ g a w _ hR h hn)
  · exact h.elim
 | .region id ops true,Q,s,h,g,a,w,hR=>by
  unfold PW at h
  split at h
  · rename_i h1
    rw [List.all_eq_true] at h1
    obtain ⟨g,hR⟩:=QjE hR ops.toList
    split at h
    · rename_i h2
      have h3:=Qob (id:=id) (Q:=Qd w0 H0 m q Q) hΔ hΓ hU hE hmix h2 nE_le Qrr h1 hR h (fun s' g' a' w' hr hq=>⟨s',g',hr,hq⟩) (fun s g a w v y h1 h2 h3=>⟨s.ob,g,v,y,rfl,h1.noEnv,h2,h3⟩) (by
       rintro c d v a w ⟨ob,g,u,y,rfl,h1,h2,h3⟩
       refine ⟨ob,g,u,y,rfl,⟨h1.ext,h1.obs,h1.full,fun d x hx=>(by cases hx),?_,?_,h1.ptr⟩,h2,h3⟩
       · have:=h1.sz
         cases d <;> simpa [Act.put] using this
       · have:=h1.dfr
         cases d <;> simpa [Act.put] using this)
      refine wp_mono (by simpa using h3) fun e a' w' hq=>?_
      cases e with
      | panic c=>obtain ⟨ob,g,v,y,q1,q2,q3,q4⟩:=hq; exact ⟨_,g,v,y,q1,q2,q3,q4⟩
      | normal=>exact hq
      | exit i=>exact hq
      | goto i=>exact hq
      | ret=>exact hq
      | outgrown=>exact hq
    · split at h
      · rename_i h2
        exact Qsj (Q:=Qr w0 H0 m q Q) hΔ hΓ hU hE hmix h1 (Bool.and_eq_true_iff.1 h2).1 hR h (fun s' g' a' w' hr hq=>⟨s',g',hr,hq⟩) (fun s g a w v y h1 h2 h3=>⟨s,g,v,y,rfl,h1,h2,h3⟩)
      · split at h
        · rename_i h2
          have h3:=QnY (id:=id) (Q:=Qd w0 H0 m q Q) hΔ hΓ hU hE hmix h1 (Bool.and_eq_true_iff.1 h2).1 hR h (fun s' g' a' w' hr hq=>⟨s',g',hr,hq⟩) (fun s g a w v y h1 h2 h3=>⟨s.ob,g,v,y,rfl,h1.noEnv,h2,h3⟩) (by
           rintro c d v a w ⟨ob,g,u,y,rfl,h1,h2,h3⟩
           refine ⟨ob,g,u,y,rfl,⟨h1.ext,h1.obs,h1.full,fun d x hx=>(by cases hx),?_,?_,h1.ptr⟩,h2,h3⟩
           · have:=h1.sz
             cases d <;> simpa [Act.put] using this
           · have:=h1.dfr
             cases d <;> simpa [Act.put] using this)
          refine wp_mono h3 fun e a' w' hq=>?_
          cases e with
          | panic c=>obtain ⟨ob,g,v,y,q1,q2,q3,q4⟩:=hq; exact ⟨_,g,v,y,q1,q2,q3,q4⟩
          | normal=>exact hq
          | exit i=>exact hq
          | goto i=>exact hq
          | ret=>exact hq
          | outgrown=>exact hq
        · split at h
          · rename_i h2
            have h3:=Qk5 (id:=id) (Q:=Qd w0 H0 m q Q) hΔ hΓ hU hE hmix h1 (Bool.and_eq_true_iff.1 h2).1 hR h (fun s' g' a' w' hr hq=>⟨s',g',hr,hq⟩) (fun s g a w v y h1 h2 h3=>⟨s.ob,g,v,y,rfl,h1.noEnv,h2,h3⟩) (by
             rintro c d v a w ⟨ob,g,u,y,rfl,h1,h2,h3⟩
             refine ⟨ob,g,u,y,rfl,⟨h1.ext,h1.obs,h1.full,fun d x hx=>(by cases hx),?_,?_,h1.ptr⟩,h2,h3⟩
             · have:=h1.sz
               cases d <;> simpa [Act.put] using this
             · have:=h1.dfr
               cases d <;> simpa [Act.put] using this)
            refine wp_mono h3 fun e a' w' hq=>?_
            cases e with
            | panic c=>obtain ⟨ob,g,v,y,q1,q2,q3,q4⟩:=hq; exact ⟨_,g,v,y,q1,q2,q3,q4⟩
            | normal=>exact hq
            | exit i=>exact hq
            | goto i=>exact hq
            | ret=>exact hq
            | outgrown=>exact hq
          · exact h.elim
  · exact h.elim
 | .loop c,Q,s,h,g,a,w,hR=>by
  unfold PW at h
  split at h
  · rename_i L hLL
    obtain ⟨x0,hw0,hI0,hR0,hround⟩:=h
    obtain ⟨g1,hR1⟩:=hR.weak hn0 hw0
    refine wp_loop_ghost (fun n a w=>∃ y g,Real w0 H0 m (L.T y) g a w∧L.I y∧L.R x0 y∧L.μ y=n) (L.μ x0) ⟨x0,g1,hR1,hI0,hR0,rfl⟩ fun n a w ⟨y,g2,hR2,hI2,hr2,hn⟩=>?_
    refine wp_mono (Qbr hΔ hn0 hΓ hU hE hmix c _ _ (hround y hI2 hr2) g2 a w hR2) fun e a' w' hq=>?_
    cases e with
    | normal =>
     obtain ⟨s',g',h1,y',h3,h4,h7,h5⟩:=hq
     obtain ⟨g'',h6⟩:=h1.weak hn0 h3
     exact ⟨L.μ y',by rw [← hn]; exact h5,y',g'',h6,h4,h7,rfl⟩
    | exit i=>exact hq
    | goto i=>exact hq
    | ret=>exact hq
    | panic c=>exact hq
    | outgrown=>exact hq
  · exact h.elim
 | .cond (.const (.int ..)) ..,_,_,h,_,_,_,_=>h.elim
 | .cond (.const (.float ..)) ..,_,_,h,_,_,_,_=>h.elim
 | .cond (.const (.complex ..)) ..,_,_,h,_,_,_,_=>h.elim
 | .cond (.const (.string ..)) ..,_,_,h,_,_,_,_=>h.elim
 | .cond (.const (.pointer ..)) ..,_,_,h,_,_,_,_=>h.elim
 | .cond (.const (.slice ..)) ..,_,_,h,_,_,_,_=>h.elim
 | .cond (.const (.map ..)) ..,_,_,h,_,_,_,_=>h.elim
 | .cond (.const (.chan ..)) ..,_,_,h,_,_,_,_=>h.elim
 | .cond (.const (.func ..)) ..,_,_,h,_,_,_,_=>h.elim
 | .cond (.const .nilFunc) ..,_,_,h,_,_,_,_=>h.elim
 | .cond (.const (.iface ..)) ..,_,_,h,_,_,_,_=>h.elim
 | .cond (.const .nilIface) ..,_,_,h,_,_,_,_=>h.elim
 | .cond (.const (.agg ..)) ..,_,_,h,_,_,_,_=>h.elim
 | .cond (.const (.tuple ..)) ..,_,_,h,_,_,_,_=>h.elim
 | .cond (.global _) ..,_,_,h,_,_,_,_=>h.elim
 | .cond (.func _) ..,_,_,h,_,_,_,_=>h.elim
 | .rangeFunc ..,_,_,h,_,_,_,_=>h.elim
 | .scope _,_,_,h,_,_,_,_=>h.elim
 | .goto _,_,_,h,_,_,_,_=>h.elim
 | .refuse _,_,_,h,_,_,_,_=>h.elim
end
def resV (P:Program) (s:PS):ResultVar→Option PV
 | .tmp t=>look s.env t
 | .cell d t=>match look s.env d with
  | some x=>QpV P s t x
  | none=>none
def resL (P:Program) (s:PS):List ResultVar→Option (List PV)
 | []=>some []
 | r::rs=>match resV P s r,resL P s rs with
  | some x,some l=>some (x::l)
  | _,_=>none
def resP (P:Program) (s:PS) (rs:List ResultVar):Option PV:=match resL P s rs with
 | some [x]=>some x
 | some l=>some (.tup l)
 | none=>none
structure Sub (x y:PV):Prop where
 out:∀ (H:Hp) (v:Value),PR H B0 v x→PR H B0 v y
theorem Sub.refl (x:PV):Sub x x:=⟨fun _ _ h=>h⟩
inductive Subs:List PV→List PV→Prop
 | nil:Subs [] []
 | cons {x y:PV} {l m:List PV} (h:Sub x y) (hs:Subs l m):Subs (x::l) (y::m)
theorem Subs.prs {H:Hp}:∀ {vs:List Value} {l m:List PV},Subs l m→PRs H B0 vs l→PRs H B0 vs m
 | vs,_,_,.nil,h=>h
 | [],_,_,.cons h hs,hv=>by have:=hv.1; simp at this
 | v::vs,_,_,.cons h hs,hv =>
  .cons (h.out _ _ (hv.2 0 _ _ rfl rfl)) (hs.prs ⟨by have:=hv.1; simpa using this,fun i v x hv' hx=>hv.2 (i+1) v x (by simpa using hv') (by simpa using hx)⟩)
def flatR:PV→PV
 | .tup l=>.tup (Qde l)
 | x=>flat x
theorem PR.flatR {H:Hp} {B:Hd} {v:Value} {x:PV} (h:PR H B v x):PR H B v (flatR x):=by
 cases x with
 | tup l=>cases h with
  | tup hn h=>exact .tup (by rw [QcI]; exact hn) (QeR fun i v x hv hx=>(h i v x hv hx).flat)
 | _=>exact h.flat
def noQ:PV→PS→Prop:=fun _ _=>False
def Ends (P:Program) (rs:List ResultVar) (r:PV):Exit→PS→Prop
 | .normal,s=>match resP P (frzAll s s.ob.length) rs with | some x=>Qdt (flatR x)=true∧Sub (flatR x) r | none=>False
 | .ret,s=>match resP P (frzAll s s.ob.length) rs with | some x=>Qdt (flatR x)=true∧Sub (flatR x) r | none=>False
 | _,_=>False
def entry:Nat→List PV→List (Nat × PV)
 | _,[]=>[]
 | i,x::l=>(i,x)::entry (i+1) l
section
variable {P : Program} {s : PS} {g : Gh} {a : Act} {w : World} {w0 : Cx} {H0 : Hp} {m : Nat}
def Qmh (ts:Array Value):ResultVar→Sem Value
 | .tmp t=>pure (ts.getD t undef)
 | .cell d t=>do loadVar t (← asAddr (ts.getD d undef))
theorem Qri (hR:Real w0 H0 m s g a w) {r:ResultVar} {x:PV} (h:resV P s r=some x) :
  ∃ v,(Qmh a.tmps r).run P w=.ok v w∧PR g.H g.B v x:=by
 cases r with
 | tmp t=>exact ⟨_,rfl,hR.env t x h⟩
 | cell d t =>
  unfold resV at h
  dsimp only at h
  split at h
  · rename_i y hy
    have hp:=hR.env d y hy
    obtain ⟨u,h1,h2⟩:=QhK (P:=P) (ob:=s.ob) (fun _ _ h=>h) hR.obs hp h
    refine ⟨u,?_,h2⟩
    have hptr:∃ ad,a.tmps.getD d undef=.pointer (some ad):=by
     unfold QpV at h
     generalize a.tmps.getD d undef=v at hp
     split at h
     · cases hp; exact ⟨_,rfl⟩
     · cases hp; exact ⟨_,rfl⟩
     · cases hp; exact ⟨_,rfl⟩
     · cases h
    obtain ⟨ad,had⟩:=hptr
    unfold Qmh
    dsimp only
    rw [had] at h1 ⊢
    exact h1
  · cases h
theorem Qir (hR:Real w0 H0 m s g a w):∀ {rs:List ResultVar} {l:List PV},resL P s rs=some l →
  ∃ vs,(rs.mapM (Qmh a.tmps)).run P w=.ok vs w∧PRs g.H g.B vs l
 | [],l,h=>by simp only [resL,Option.some.injEq] at h; subst h; exact ⟨[],rfl,.nil⟩
 | r::rs,l,h=>by
  unfold resL at h
  split at h
  · rename_i x l' hx hl
    cases h
    obtain ⟨v,h1,h2⟩:=Qri hR hx
    obtain ⟨vs,h3,h4⟩:=Qir hR hl
    refine ⟨v::vs,?_,.cons h2 h4⟩
    simp only [List.mapM_cons,Sem.run_bind,h1,Result.andThen_ok,h3,Sem.run_pure]
  · cases h
theorem QgD (hR:Real w0 H0 m s g a w) {fn:Func} {x:PV} (h:resP P s fn.results.toList=some x):∃ v,(results fn a.tmps).run P w=.ok v w∧PR g.H g.B v x:=by
 unfold resP at h
 have e:results fn a.tmps=(do let vs ← fn.results.mapM (Qmh a.tmps); pure (if h:vs.size=1 then vs[0] else .tuple vs)):=rfl
 rw [e,Array.mapM_eq_mapM_toList]
 split at h
 · rename_i y hl
   cases h
   obtain ⟨vs,h1,h2⟩:=Qir hR hl
   have hlen:=h2.1
   obtain ⟨v,rfl⟩:∃ v,vs=[v]:=by
    cases vs with
    | nil=>simp at hlen
    | cons v vs=>cases vs with
     | nil=>exact ⟨v,rfl⟩
     | cons=>simp at hlen
   refine ⟨v,?_,h2.2 0 v x rfl rfl⟩
   simp only [Sem.run_bind,Sem.run_map,h1,Result.andThen_ok,Sem.run_pure]
   rfl
 · rename_i l hno hl
   cases h
   obtain ⟨vs,h1,h2⟩:=Qir hR hl
   have hn:¬ vs.length=1:=by
    intro hc
    rw [h2.1] at hc
    obtain ⟨y,rfl⟩:=List.length_eq_one_iff.1 hc
    exact hno y rfl
   refine ⟨.tuple vs.toArray,?_,.tup (by simpa using h2.1) fun i v x hv hx=>h2.2 i v x (by simpa using hv) hx⟩
   simp only [Sem.run_bind,Sem.run_map,h1,Result.andThen_ok,Sem.run_pure]
   rw [dif_neg (by simpa using hn)]
 · cases h
theorem Qfo:∀ (l:List PV) (i d:Nat) (x:PV),look (entry i l) d=some x→i≤d∧l[d - i]?=some x
 | [],i,d,x,h=>by simp [entry,look] at h
 | y::l,i,d,x,h=>by
  unfold entry at h
  rw [QaC] at h
  split at h
  · rename_i he
    cases h; subst he
    simp
  · obtain ⟨h1,h2⟩:=Qfo l (i+1) d x h
    refine ⟨by omega,?_⟩
    rw [show d - i=(d - (i+1))+1 by omega]
    exact h2
theorem QiY {E:Env} {Γ:Specs} {Δ:Specs2} (hΔ:Sound2 P E Δ) {Λ:Loops} {f:FuncId} {fn:Func} {c:Code} (hf:P.funcs[f]?=some fn) (hb:fn.body=some c) (hmix:P.follows .mixedOrders=true) (hU:Up E) (hΓ:Sound P E Γ) {xs:List PV} {r:PV} (hlen:xs.length≤fn.ntmps) (hpw:PW P Γ Δ Λ fn.ntmps 0 noQ c (Ends P fn.results.toList r) ⟨entry 0 xs,[]⟩)
  (w:World) (H:Hp) (vs:List Value) (hfro:Fro H w) (hE:E (fun b=>b<w.heap.size) w H) (hvs:PRs H B0 vs xs):Calls P f vs.toArray w fun e w'=>∃ H' v,e=.returned v∧Ext w H w' H'∧PR H' B0 v r:=by
 refine calls_of_wp hf hb ?_
 have hsize:(vs.toArray++Array.replicate (fn.ntmps - vs.toArray.size) undef).size=fn.ntmps:=by
  simp [hvs.1]; omega
 have hR:Real (Cx.of w) H fn.ntmps ⟨entry 0 xs,[]⟩ ⟨H,B0⟩ { tmps:=vs.toArray++Array.replicate (fn.ntmps - vs.toArray.size) undef,defers:=[] } w:=by
  refine ⟨ExtK.refl hfro fun _ h=>h,⟨hfro,fun o u b hu=>(by cases hu),fun o x u hx=>(by simp at hx),fun o o' u u' b _ hu=>(by cases hu),fun o u hu=>(by cases hu),fun o u b hu=>(by cases hu)⟩,fun o ho=>(by simp at ho),fun d x hx=>?_,hsize,rfl,fun o p hp=>by cases hp.1⟩
  obtain ⟨_,h2⟩:=Qfo xs 0 d x hx
  rw [Nat.sub_zero] at h2
  obtain ⟨v,h3,h4⟩:=hvs.at h2
  have hd:=(List.getElem?_eq_some_iff.1 h3).1
  have:(vs.toArray++Array.replicate (fn.ntmps - vs.toArray.size) undef).getD d undef=v:=by
   rw [Array.getD_eq_getD_getElem?,Array.getElem?_append_left (by simpa using hd)]
   simp [h3]
  rw [this]; exact h4
 refine wp_mono (Qbr hΔ (fun o u hu=>by cases hu) hΓ hU hE hmix c _ _ hpw _ _ _ hR) fun e a' w' hq=>?_
 have key:∀ s g,Real (Cx.of w) H fn.ntmps s g a' w'→(match resP P (frzAll s s.ob.length) fn.results.toList with | some x=>Qdt (flatR x)=true∧Sub (flatR x) r | none=>False) →
   a'.defers=[]∧∃ v,(results fn a'.tmps).run P w'=.ok v w'∧∃ H' v',Ending.returned v=.returned v'∧Ext w H w' H'∧PR H' B0 v' r:=by
  intro s g hR0 hE
  obtain ⟨g,hR'⟩:=hR0.frzAll s.ob.length
  split at hE
  · rename_i x hx
    obtain ⟨v,h1,h2⟩:=QgD hR' hx
    exact ⟨hR'.dfr,v,h1,g.H,v,rfl,hR'.ext.ext,hE.2.out _ _ (h2.flatR.pure hE.1)⟩
  · exact hE.elim
 cases e with
 | normal=>obtain ⟨s,g,h1,h2⟩:=hq; exact key s g h1 h2
 | ret=>obtain ⟨s,g,h1,h2⟩:=hq; exact key s g h1 h2
 | exit i=>obtain ⟨s,g,h1,h2⟩:=hq; exact h2.elim
 | goto i=>obtain ⟨s,g,h1,h2⟩:=hq; exact h2.elim
 | panic c=>obtain ⟨_,_,_,_,_,_,_,h⟩:=hq; exact h.elim
 | outgrown=>exact hq.elim
theorem Qg6 {E:Env} {Γ:Specs} {Δ:Specs2} (hΔ:Sound2 P E Δ) {f:FuncId} {fn:Func} {c:Code} {sp:Spec} (hf:P.funcs[f]?=some fn) (hb:fn.body=some c) (hmix:P.follows .mixedOrders=true) (hU:Up E) (hΓ:Sound P E Γ)
  (h:∀ xs p r,sp xs=some (p,r)→(∀ q,p=some q→q)→∃ ys Λ,Subs xs ys∧ys.length≤fn.ntmps∧PW P Γ Δ Λ fn.ntmps 0 noQ c (Ends P fn.results.toList r.out) ⟨entry 0 ys,[]⟩):Contract P E f sp:=by
 intro xs p r hsp hp w H vs hfro hE hvs
 obtain ⟨ys,Λ,h1,h2,h3⟩:=h xs p r hsp hp
 exact QiY hΔ hf hb hmix hU hΓ h2 h3 w H vs hfro hE (h1.prs hvs)
end
def spL:List (FuncId × Spec)→Specs
 | [],_=>none
 | (f,sp)::l,g=>match Nat.beq f g with | true=>some sp | false=>spL l g
def AllC (P:Program) (E:Env):List (FuncId × Spec)→Prop
 | []=>True
 | (f,sp)::l=>Contract P E f sp∧AllC P E l
theorem QcC {P:Program} {E:Env}:∀ {l:List (FuncId × Spec)},AllC P E l→Sound P E (spL l)
 | [],_,f,sp,h=>by cases h
 | (g,sp')::l,hl,f,sp,h=>by
  unfold spL at h
  split at h
  · rename_i he
    cases h
    rw [← Nat.eq_of_beq_eq_true he]; exact hl.1
  · exact QcC hl.2 f sp h
theorem Qag {p q:Prop} (h:p=q) (hp:p):q:=h ▸ hp
def QtR:Loops:=fun _=>none
def lpL:List (Nat × Ann)→Loops
 | [],_=>none
 | (i,x)::l,j=>match Nat.beq i j with | true=>some x | false=>lpL l j
theorem Contract.weaken {P:Program} {E:Env} {f:FuncId} {sp sp':Spec} (h:Contract P E f sp) (hw:∀ xs p r,sp' xs=some (p,r)→(∀ q,p=some q→q)→∃ ys p' r',Subs xs ys∧sp ys=some (p',r')∧(∀ q,p'=some q→q)∧Sub r'.out r.out):Contract P E f sp':=by
 intro xs p r hs hp w H vs hf hE hvs
 obtain ⟨ys,p',r',h1,h2,h3,h4⟩:=hw xs p r hs hp
 refine (h ys p' r' h2 h3 w H vs hf hE (h1.prs hvs)).mono ?_
 rintro e w' ⟨H',v,h5,h6,h7⟩
 exact ⟨H',v,h5,h6,h4.out _ _ h7⟩
theorem Qao {P:Program} {E:Env} {f:FuncId} {fn:Func} {sp:Spec} {m:Nat} (L:List (FuncId × Spec)) (hm:fn.ntmps=m) (hf:P.funcs[f]?=some fn) (hb:fn.body=some (fn.body.getD .skip)) (hmix:P.follows .mixedOrders=true) (hU:Up E) (hL:AllC P E L)
  (h:∀ xs p r,sp xs=some (p,r)→(∀ q,p=some q→q)→∃ ys,Subs xs ys∧Nat.ble ys.length m=true∧PW P (spL L) noD QtR m 0 noQ (fn.body.getD .skip) (Ends P fn.results.toList r.out) ⟨entry 0 ys,[]⟩):Contract P E f sp:=by
 subst hm
 exact Qg6 QgP hf hb hmix hU (QcC hL) fun xs p r h1 h2=>by
  obtain ⟨ys,h3,h4,h5⟩:=h xs p r h1 h2
  exact ⟨ys,_,h3,Nat.le_of_ble_eq_true h4,h5⟩
theorem Qa9 {P:Program} {E:Env} {f:FuncId} {fn:Func} {sp:Spec} {m:Nat} (L:List (FuncId × Spec)) (hm:fn.ntmps=m) (hf:P.funcs[f]?=some fn) (hb:fn.body=some (fn.body.getD .skip)) (hmix:P.follows .mixedOrders=true) (hU:Up E) (hL:AllC P E L)
  (h:∀ xs p r,sp xs=some (p,r)→(∀ q,p=some q→q)→∃ ys l,Subs xs ys∧Nat.ble ys.length m=true∧PW P (spL L) noD (lpL l) m 0 noQ (fn.body.getD .skip) (Ends P fn.results.toList r.out) ⟨entry 0 ys,[]⟩):Contract P E f sp:=by
 subst hm
 exact Qg6 QgP hf hb hmix hU (QcC hL) fun xs p r h1 h2=>by
  obtain ⟨ys,l,h3,h4,h5⟩:=h xs p r h1 h2
  exact ⟨ys,_,h3,Nat.le_of_ble_eq_true h4,h5⟩
def Lf.deep (x:Lf):Prop:=match x.view with
 | some (_,n,get)=>∀ (i:Nat),i<n→∀ (j:Nat) (f:Lf),(get i)[j]?=some f→f.good
 | none=>True
mutual
def QrL:PV→Prop
 | .f x=>x.good∧x.deep
 | .agg l=>QjT l
 | _=>True
def QjT:List PV→Prop
 | []=>True
 | x::l=>QrL x∧QjT l
end
theorem QiO:∀ {l:List PV},(∀ (i:Nat) (x:PV),l[i]?=some x→QrL x)→QjT l
 | [],_=>trivial
 | x::l,h=>⟨h 0 x rfl,QiO fun i y hy=>h (i+1) y (by simpa using hy)⟩
theorem Rd.good' {H:Hp} {v:Value} {x:Lf} (h:Rd H v x):x.good:=by
 cases h with
 | v=>trivial
 | zn=>trivial
 | sl _ hg=>exact hg
theorem Rd.deep {H:Hp} {v:Value} {x:Lf} (h:Rd H v x):x.deep:=by
 unfold Lf.deep
 split
 · rename_i k n get hv
   obtain ⟨_,_,val,_,_,_,_,h2,_⟩:=Qfy h hv
   exact fun i hi j f hf=>(h2 i hi j f hf).good'
 · trivial
theorem PR.good {H:Hp} {B:Hd} {v:Value} {x:PV} (h:PR H B v x):QrL x:=by
 induction h with
 | f h=>exact ⟨h.good',h.deep⟩
 | bp h=>trivial
 | ep b o val hc h=>trivial
 | tl h hb=>trivial
 | wr hb h1=>trivial
 | wp hb hi=>trivial
 | any=>trivial
 | agg hn h ih =>
  refine QiO fun i x hx=>?_
  have hi:=(List.getElem?_eq_some_iff.1 hx).1
  exact ih i _ x (Array.getElem?_eq_getElem (by omega)) hx
 | tup hn h ih=>trivial
 | fn=>trivial
 | ifc=>trivial
theorem PRs.good {H:Hp} {B:Hd} {vs:List Value} {l:List PV} (h:PRs H B vs l):QjT l:=by
 refine QiO fun i x hx=>?_
 obtain ⟨v,_,hr⟩:=h.at hx
 exact hr.good
set_option maxHeartbeats 1000000 in
theorem Qaf {P:Program} {E:Env} {f:FuncId} {fn:Func} {sp:Spec} {m:Nat} (L:List (FuncId × Spec)) (hm:fn.ntmps=m) (hf:P.funcs[f]?=some fn) (hb:fn.body=some (fn.body.getD .skip)) (hmix:P.follows .mixedOrders=true) (hU:Up E) (hL:AllC P E L)
  (h:∀ xs p r,sp xs=some (p,r)→(∀ q,p=some q→q)→∃ ys l,Subs xs ys∧Nat.ble ys.length m=true∧(QjT xs→QjT ys→PW P (spL L) noD (lpL l) m 0 noQ (fn.body.getD .skip) (Ends P fn.results.toList r.out) ⟨entry 0 ys,[]⟩)):Contract P E f sp:=by
 intro xs p r hsp hp w H vs hfro hE hvs
 obtain ⟨ys,l,h1,h2,h3⟩:=h xs p r hsp hp
 subst hm
 have hv:=h1.prs hvs
 exact QiY QgP hf hb hmix hU (QcC hL) (Nat.le_of_ble_eq_true h2) (h3 hvs.good hv.good) w H vs hfro hE hv
def Lf.short (x:Lf):Prop:=match x.view with
 | some (_,n,_)=>n≤maxLen
 | none=>True
def Lf.short2 (x:Lf):Prop:=match x.view with
 | some (_,n,get)=>n≤maxLen∧∀ i,i<n→∀ (j:Nat) (y:Lf),(get i)[j]?=some y→y.short
 | none=>True
theorem Rd.short {H:Hp} {v:Value} {x:Lf} (h:Rd H v x):x.short:=by
 cases h with
 | v x h1=>trivial
 | zn z=>trivial
 | sl hv hg hc hm h0 b o val hb hcell hk hrec =>
  unfold Lf.short
  rw [hv]
  have:=Lf.full_le hv hg
  show _≤maxLen
  omega
theorem Rd.short2 {H:Hp} {v:Value} {x:Lf} (h:Rd H v x):x.short2:=by
 cases h with
 | v x h1=>trivial
 | zn z=>trivial
 | sl hv hg hc hm h0 b o val hb hcell hk hrec =>
  unfold Lf.short2
  rw [hv]
  have:=Lf.full_le hv hg
  refine ⟨show _≤maxLen by omega,fun i hi j y hy=>(hrec i (by omega) j y hy).short⟩
mutual
def QlZ:PV→Prop
 | .f x=>x.short2
 | .agg l=>Qfu l
 | _=>True
def Qfu:List PV→Prop
 | []=>True
 | x::l=>QlZ x∧Qfu l
end
theorem Qgr:∀ {l:List PV},(∀ (i:Nat) (x:PV),l[i]?=some x→QlZ x)→Qfu l
 | [],_=>trivial
 | x::l,h=>⟨h 0 x rfl,Qgr fun i y hy=>h (i+1) y (by simpa using hy)⟩
theorem PR.short {H:Hp} {B:Hd} {v:Value} {x:PV} (h:PR H B v x):QlZ x:=by
 induction h with
 | f h=>exact h.short2
 | bp h=>trivial
 | ep b o val hc h=>trivial
 | tl h hb=>trivial
 | wr hb h1=>trivial
 | wp hb hi=>trivial
 | any=>trivial
 | agg hn h ih =>
  refine Qgr fun i x hx=>?_
  have hi:=(List.getElem?_eq_some_iff.1 hx).1
  exact ih i _ x (Array.getElem?_eq_getElem (by omega)) hx
 | tup hn h ih=>trivial
 | fn=>trivial
 | ifc=>trivial
theorem PRs.short {H:Hp} {B:Hd} {vs:List Value} {l:List PV} (h:PRs H B vs l):Qfu l:=by
 refine Qgr fun i x hx=>?_
 obtain ⟨v,_,hr⟩:=h.at hx
 exact hr.short
def spL2:List (FuncId × Spec2)→Specs2
 | [],_=>none
 | (f,sp)::l,g=>match Nat.beq f g with | true=>some sp | false=>spL2 l g
def Qsk (P:Program) (E:Env):List (FuncId × Spec2)→Prop
 | []=>True
 | (f,sp)::l=>Contract2 P E f sp∧Qsk P E l
theorem Qfc {P:Program} {E:Env}:∀ {l:List (FuncId × Spec2)},Qsk P E l→Sound2 P E (spL2 l)
 | [],_,f,sp,h=>by cases h
 | (g,sp')::l,hl,f,sp,h=>by
  unfold spL2 at h
  split at h
  · rename_i he
    cases h
    rw [← Nat.eq_of_beq_eq_true he]; exact hl.1
  · exact Qfc hl.2 f sp h
theorem Qan {P:Program} {E:Env} {f:FuncId} {fn:Func} {sp:Spec} {m:Nat} (L:List (FuncId × Spec)) (L2:List (FuncId × Spec2)) (hm:fn.ntmps=m) (hf:P.funcs[f]?=some fn) (hb:fn.body=some (fn.body.getD .skip)) (hmix:P.follows .mixedOrders=true) (hU:Up E) (hL:AllC P E L) (hL2:Qsk P E L2)
  (h:∀ xs p r,sp xs=some (p,r)→(∀ q,p=some q→q)→∃ ys l,Subs xs ys∧Nat.ble ys.length m=true∧(QjT ys→Qfu ys→PW P (spL L) (spL2 L2) (lpL l) m 0 noQ (fn.body.getD .skip) (Ends P fn.results.toList r.out) ⟨entry 0 ys,[]⟩)):Contract P E f sp:=by
 intro xs p r hsp hp w H vs hfro hE hvs
 obtain ⟨ys,l,h1,h2,h3⟩:=h xs p r hsp hp
 subst hm
 have hv:=h1.prs hvs
 exact QiY (Qfc hL2) hf hb hmix hU (QcC hL) (Nat.le_of_ble_eq_true h2) (h3 hv.good hv.short) w H vs hfro hE hv
def EndO (n0:Nat) (o:Bool × PV × List PO) (t:Bool) (x:PV) (s:PS):Prop:=o.1=t∧Weak n0 ⟨[(0,o.2.1)],o.2.2⟩ ⟨[(0,x)],s.ob⟩
structure EndU (n0:Nat) (o:Bool × PV × List PO) (t:Bool) (x:PV) (ob:List PO):Prop where
 out:EndO n0 o t x ⟨[],ob⟩
theorem Qhu {n:Nat}:∀ l:List PV,Qje n l l
 | []=>trivial
 | x::l=>by
  have hn:newT n x x=false:=by
   cases x with
   | f y=>unfold newT; split <;> first | rfl | (rename_i h; cases h) | (rename_i h _; cases h)
   | tl o y=>rfl
   | _=>rfl
  unfold Qje
  rw [hn]
  exact ⟨.refl _,Qhu l⟩
theorem MapW.refl (t:Kt) (has:t.T→Bool) (get:t.T→List Lf) (ks:List t.T) (vs:List PV):MapW t has get ks vs t has get ks vs:=⟨rfl,fun key=>by
 show Qmy (Qbc t has get ks vs key) (Qbc t has get ks vs key)
 cases Qbc t has get ks vs key with
 | none=>trivial
 | some x=>exact SubB.refl x⟩
theorem QbI {n:Nat} (r:List PO):∀ l:List PO,Qcf n l (l++r)
 | []=>trivial
 | .cells l::t=>⟨Qhu l,QbI r t⟩
 | .gone::t=>QbI r t
 | .tail e k::t=>by
  show Qcf n (.tail e k::t) (.tail e k::(t++r))
  unfold Qcf
  rw [show (Nat.beq e e && Nat.beq k k)=true by simp]
  exact QbI r t
 | .own e x::t=>by
  show Qcf n (.own e x::t) (.own e x::(t++r))
  unfold Qcf
  rw [show Nat.beq e e=true by simp]
  exact ⟨rfl,QbI r t⟩
 | .map t has get ks vs::T=>⟨.refl t has get ks vs,QbI r T⟩
 | .bld T y::t=>by
  show Qcf n (.bld T y::t) (.bld T y::(t++r))
  unfold Qcf
  rw [show Nat.beq T T=true by simp]
  exact ⟨SubB.refl y,QbI r t⟩
theorem endU {n0:Nat} {o:Bool × PV × List PO} {t:Bool} {x y:PV} {ob ob' r:List PO} (h:o=(t,y,ob)) (hx:SubB x y) (hn:newT ob'.length x y=false) (hb:(QbH ob.length y && (Qcs ob.length ob && Nat.ble n0 ob.length))=true) (hob:ob'=ob++r):EndU n0 o t x ob':=by
 subst h hob
 refine ⟨rfl,?_⟩
 unfold Weak
 rw [Qdh]
 rotate_left
 · intro i e k hi e' x hc
   have hl:=(List.getElem?_eq_some_iff.1 hi).1
   dsimp only at hi hc hl
   rw [Nat.zero_add,List.getElem?_append_left hl,hi] at hc
   cases hc
 unfold Weak0
 have hb':(QfB ob.length [(0,y)] && (Qcs ob.length ob && Nat.ble n0 ob.length))=true:=by
  simp only [Bool.and_eq_true] at hb ⊢
  refine ⟨?_,hb.2⟩
  unfold QfB
  rw [hb.1]; rfl
 dsimp only
 rw [hb']
 refine ⟨QbI r ob,?_⟩
 show (match newT (ob++r).length x y with | true=>QdA y∧True | false=>SubB x y∧True)
 rw [hn]
 exact ⟨hx,trivial⟩
def endS (P:Program) (rs:List ResultVar) (n0:Nat) (o:Bool × PV × List PO) (s:PS):Prop:=match resP P s rs with
 | some x=>EndU n0 o true (flatR x) s.ob
 | none=>False
def Ends2 (P:Program) (rs:List ResultVar) (n0:Nat) (o:Bool × PV × List PO):Exit→PS→Prop
 | .normal,s=>endS P rs n0 o (frzAll s s.ob.length)
 | .ret,s=>endS P rs n0 o (frzAll s s.ob.length)
 | _,_=>False
section
variable {P : Program} {s : PS} {g : Gh} {a : Act} {w : World} {w0 : Cx} {H0 : Hp} {m : Nat}
theorem Qj0 (hR:Real w0 H0 m s g a w) {n0:Nat} (hn0:∀ o u,w0.B o=some u→o<n0) {o:Bool × PV × List PO} {t:Bool} {x:PV} {v:Value} (hx:PR g.H g.B v x) (h:EndO n0 o t x s) :
  o.1=t∧∃ g',ExtK w0 H0 w g'.H∧Obs w0.K o.2.2 g' w∧(∀ i,i<o.2.2.length→∃ u,g'.B i=some u)∧(∀ i p,FixB w0.B i p→g'.B i=some p)∧PR g'.H g'.B v o.2.1:=by
 obtain ⟨h1,h2⟩:=h
 have hR':Real w0 H0 1 ⟨[(0,x)],s.ob⟩ g { tmps:=#[v],defers:=w0.D } w:=by
  refine ⟨hR.ext,hR.obs,hR.full,fun d y hy=>?_,rfl,rfl,hR.ptr⟩
  rw [QaC] at hy
  split at hy
  · rename_i hd; cases hy; subst hd; exact hx
  · cases hy
 obtain ⟨g',h3⟩:=hR'.weak hn0 h2
 exact ⟨h1,g',h3.ext,h3.obs,h3.full,h3.ptr,h3.env 0 _ (by show look ((0,o.2.1)::[]) 0=_; rw [QaC,if_pos rfl])⟩
theorem QqA {E:Env} {Γ:Specs} {Δ:Specs2} (hΔ:Sound2 P E Δ) {Λ:Loops} {f:FuncId} {fn:Func} {c:Code} (hf:P.funcs[f]?=some fn) (hb:fn.body=some c) (hmix:P.follows .mixedOrders=true) (hU:Up E) (hΓ:Sound P E Γ) {xs:List PV} {ob:List PO} {o:Bool × PV × List PO} (hlen:xs.length≤fn.ntmps)
  (hpw:PW P Γ Δ Λ fn.ntmps ob.length (fun y s=>EndU ob.length o false y s.ob) c (Ends2 P fn.results.toList ob.length o) ⟨entry 0 xs,ob⟩)
  (K:Nat→Prop) (w:World) (g:Gh) (vs:List Value) (hK:∀ b,K b→b<w.heap.size) (hO:Obs K ob g w) (hfull:∀ i,i<ob.length→∃ u,g.B i=some u) (hE:E K w g.H) (hvs:PRs g.H g.B vs xs) :
  Calls P f vs.toArray w fun e w'=>∃ g' v,ExtK ⟨K,w,g.B,[]⟩ g.H w' g'.H∧Obs K o.2.2 g' w'∧(∀ i,i<o.2.2.length→∃ u,g'.B i=some u)∧(∀ i p,FixB g.B i p→g'.B i=some p)∧PR g'.H g'.B v o.2.1 ∧
   e=(match o.1 with | true=>.returned v | false=>.panicked [{ v,recovered:=false }]):=by
 refine calls_of_wp hf hb ?_
 have hsize:(vs.toArray++Array.replicate (fn.ntmps - vs.toArray.size) undef).size=fn.ntmps:=by
  simp [hvs.1]; omega
 have hR:Real ⟨K,w,g.B,[]⟩ g.H fn.ntmps ⟨entry 0 xs,ob⟩ g { tmps:=vs.toArray++Array.replicate (fn.ntmps - vs.toArray.size) undef,defers:=[] } w:=by
  refine ⟨ExtK.refl hO.fro hK,hO,hfull,fun d x hx=>?_,hsize,rfl,fun o p hp=>hp.1⟩
  obtain ⟨_,h2⟩:=Qfo xs 0 d x hx
  rw [Nat.sub_zero] at h2
  obtain ⟨v,h3,h4⟩:=hvs.at h2
  have hd:=(List.getElem?_eq_some_iff.1 h3).1
  have:(vs.toArray++Array.replicate (fn.ntmps - vs.toArray.size) undef).getD d undef=v:=by
   rw [Array.getD_eq_getD_getElem?,Array.getElem?_append_left (by simpa using hd)]
   simp [h3]
  rw [this]; exact h4
 have hn0:∀ o u,(⟨K,w,g.B,[]⟩:Cx).B o=some u→o<ob.length:=fun o u hu=>hO.dom o u hu
 refine wp_mono (Qbr hΔ hn0 hΓ hU hE hmix c _ _ hpw _ _ _ hR) fun e a' w' hq=>?_
 have key:∀ s g1,Real ⟨K,w,g.B,[]⟩ g.H fn.ntmps s g1 a' w'→endS P fn.results.toList ob.length o (frzAll s s.ob.length) →
   a'.defers=[]∧∃ v,(results fn a'.tmps).run P w'=.ok v w'∧∃ g' v',ExtK ⟨K,w,g.B,[]⟩ g.H w' g'.H∧Obs K o.2.2 g' w'∧(∀ i,i<o.2.2.length→∃ u,g'.B i=some u)∧(∀ i p,FixB g.B i p→g'.B i=some p)∧PR g'.H g'.B v' o.2.1 ∧
   Ending.returned v=(match o.1 with | true=>.returned v' | false=>.panicked [{ v:=v',recovered:=false }]):=by
  intro s g1 hR0 hE
  obtain ⟨g2,hR'⟩:=hR0.frzAll s.ob.length
  unfold endS at hE
  split at hE
  · rename_i x hx
    obtain ⟨v,h1,h2⟩:=QgD hR' hx
    obtain ⟨h3,g',h4,h5,h6,h7,h8⟩:=Qj0 hR' hn0 h2.flatR hE.out
    exact ⟨hR'.dfr,v,h1,g',v,h4,h5,h6,h7,h8,by rw [h3]⟩
  · exact hE.elim
 cases e with
 | normal=>obtain ⟨s,g,h1,h2⟩:=hq; exact key s g h1 h2
 | ret=>obtain ⟨s,g,h1,h2⟩:=hq; exact key s g h1 h2
 | exit i=>obtain ⟨s,g,h1,h2⟩:=hq; exact h2.elim
 | goto i=>obtain ⟨s,g,h1,h2⟩:=hq; exact h2.elim
 | panic c =>
  obtain ⟨ob',g1,v,y,rfl,h1,h2,h3⟩:=hq
  obtain ⟨h3,g',h4,h5,h6,h7,h8⟩:=Qj0 h1 hn0 h2 h3.out
  exact ⟨h1.dfr,g',v,h4,h5,h6,h7,h8,by rw [h3]⟩
 | outgrown=>exact hq.elim
end
inductive SubsB:List PV→List PV→Prop
 | nil:SubsB [] []
 | cons {x y:PV} {l m:List PV} (h:SubB x y) (hs:SubsB l m):SubsB (x::l) (y::m)
theorem SubsB.prs {H:Hp} {B:Hd}:∀ {vs:List Value} {l m:List PV},SubsB l m→PRs H B vs l→PRs H B vs m
 | vs,_,_,.nil,h=>h
 | [],_,_,.cons h hs,hv=>by have:=hv.1; simp at this
 | v::vs,_,_,.cons h hs,hv =>
  .cons (h.out _ _ _ (hv.2 0 _ _ rfl rfl)) (hs.prs ⟨by have:=hv.1; simpa using this,fun i v x hv' hx=>hv.2 (i+1) v x (by simpa using hv') (by simpa using hx)⟩)
theorem contract2 {P:Program} {E:Env} {f:FuncId} {fn:Func} {sp:Spec2} {m:Nat} (L:List (FuncId × Spec)) (L2:List (FuncId × Spec2)) (hm:fn.ntmps=m) (hf:P.funcs[f]?=some fn) (hb:fn.body=some (fn.body.getD .skip)) (hmix:P.follows .mixedOrders=true) (hU:Up E) (hL:AllC P E L) (hL2:Qsk P E L2)
  (h:∀ xs ob o,sp xs ob=some o→o.ok→∃ ys l,SubsB xs ys∧Nat.ble ys.length m=true∧(QjT ys→Qfu ys→PW P (spL L) (spL2 L2) (lpL l) m ob.length (fun y s=>EndU ob.length o.fin false y s.ob) (fn.body.getD .skip) (Ends2 P fn.results.toList ob.length o.fin) ⟨entry 0 ys,ob⟩)):Contract2 P E f sp:=by
 intro xs ob o hsp hok K w g vs hK hO hfull hE hvs
 obtain ⟨ys,l,h1,h2,h3⟩:=h xs ob o hsp hok
 subst hm
 have hv:=h1.prs hvs
 exact QqA (Qfc hL2) hf hb hmix hU (QcC hL) (Nat.le_of_ble_eq_true h2) (h3 hv.good hv.short) K w g vs hK hO hfull hE hv
abbrev etaT (t:Tw):Tw:=.mk t.kind t.name t.neg t.digits t.kids
abbrev rfB (x:PV):Prop:=SubB x x
abbrev rfS (x:PV):Prop:=Sub x x
abbrev dP (s:Sh) (l:List s.T):PV:=.f (.dt s l)
abbrev uV (k:Int):PV:=.f (.v (.int .u8 k))
abbrev nlP:PV:=.f (.v (.slice none 0 0))
end Go.Proofs.YtmbmbcamecfnkaaGreatDoor
