/- The layer kind: well formed types. -/
import Derived.Test.YtijfaigpilfpaaaGreatDoorHo
import Derived.Test.YtijfaigpilfpaaaGreatDoorHh
set_option linter.unusedSimpArgs false
namespace Go.Proofs.YtijfaigpilfpaaaGreatDoor
open Go.RowKit
set_option linter.unusedVariables false
set_option maxRecDepth 100000
mutual
def Yw.wt:Yw→Nat
 | .mk _ _ t p r=>t.size+wtP p+wtY r
def wtQ:ByteArray × Yw→Nat
 | (_,y)=>y.wt
def wtP:List (ByteArray × Yw)→Nat
 | []=>0
 | x::l=>wtQ x+wtP l
def wtY:List Yw→Nat
 | []=>0
 | y::l=>y.wt+wtY l
end
theorem Yw.wt_eq (t:Yw):t.wt=t.ref.size+wtP t.params+wtY t.result:=by cases t; rw [Yw.wt]; rfl
theorem wtQ_eq (x:ByteArray × Yw):wtQ x=x.2.wt:=by obtain ⟨s,y⟩:=x; rw [wtQ]
theorem Qrr:∀ {l:List (ByteArray × Yw)} {x:ByteArray × Yw},x∈l→x.2.wt≤wtP l
 | y::l,x,h=>by
  rw [wtP,wtQ_eq]
  rcases List.mem_cons.1 h with rfl | h
  · omega
  · have:=Qrr h; omega
theorem Qrq:∀ {l:List Yw} {x:Yw},x∈l→x.wt≤wtY l
 | y::l,x,h=>by
  rw [wtY]
  rcases List.mem_cons.1 h with rfl | h
  · omega
  · have:=Qrq h; omega
theorem Yw.size_pos (t:Yw):1≤t.size:=by rw [t.size_eq]; omega
theorem QnB:∀ {l:List (ByteArray × Yw)} {i:Nat},i<l.length→i+(l.getD i Sh.prm.nil).2.size≤szP l
 | x::l,0,_=>by
  rw [szP,QkP]
  show 0+x.2.size≤_
  omega
 | x::l,i+1,h=>by
  have h1:=QnB (l:=l) (i:=i) (by simpa using h)
  have h2:=x.2.size_pos
  rw [szP,QkP]
  show i+1+(l.getD i Sh.prm.nil).2.size≤_
  omega
theorem Qrw:∀ {l:List (ByteArray × Yw)},l.length≤szP l
 | []=>Nat.le_refl _
 | x::l=>by
  have h1:=Qrw (l:=l)
  have h2:=x.2.size_pos
  rw [szP,QkP,List.length_cons]
  omega
theorem QnK:∀ {l:List (ByteArray × Yw)} {S:List Srt},(scL S l).length≤S.length+l.length
 | [],S=>Nat.le_refl _
 | x::l,S=>by
  have h1:=QnK (l:=l) (S:=Qdk S x)
  have h2:(Qdk S x).length≤S.length+1:=by
   unfold Qdk
   split
   · omega
   · rw [List.length_append]; exact Nat.le_refl _
  show (scL (Qdk S x) l).length≤_
  rw [List.length_cons]
  omega
theorem QkM {l:List (ByteArray × Yw)} {i:Nat} (h:i<l.length):l.take (i+1)=l.take i++[l.getD i Sh.prm.nil]:=by
 rw [List.take_add_one,List.getElem?_eq_getElem h,List.getD_eq_getElem?_getD,List.getElem?_eq_getElem h]; rfl
theorem Qk1 {l:List (ByteArray × Yw)} {S:List Srt} {i:Nat} (h:i<l.length):scL S (l.take (i+1))=Qdk (scL S (l.take i)) (l.getD i Sh.prm.nil):=by
 rw [QkM h,scL,List.foldl_append]; rfl
def inY (y:Yw) (l:List (ByteArray × Yw)) (i:Nat):Yw:=(l.take i).foldl (fun y x=>if x.2.fn=true then y else x.2) y
theorem QlE {l:List (ByteArray × Yw)} {y:Yw} {i:Nat} (h:i<l.length):inY y l (i+1)=if (l.getD i Sh.prm.nil).2.fn=true then inY y l i else (l.getD i Sh.prm.nil).2:=by
 rw [inY,QkM h,List.foldl_append]; rfl
section
variable {D : List Dat} {K : List Kap}
theorem QfI:∀ {l:List (ByteArray × Yw)} {S:List Srt},(∀ j,j<l.length→formedY D K (scL S (l.take j)) (l.getD j Sh.prm.nil).2=0)→formedP D K S l=.ok (scL S l)
 | [],S,_=>by rw [formedP]; rfl
 | x::l,S,h=>by
  have h0:formedY D K S x.2=0:=h 0 (by simp)
  rw [formedP,Qek,if_neg (fun hc=>hc h0)]
  exact QfI fun j hj=>h (j+1) (by simpa using hj)
theorem QfH:∀ {l:List (ByteArray × Yw)} {S:List Srt} {i:Nat},i<l.length→(∀ j,j<i→formedY D K (scL S (l.take j)) (l.getD j Sh.prm.nil).2=0)→formedY D K (scL S (l.take i)) (l.getD i Sh.prm.nil).2≠0→formedP D K S l=.error (formedY D K (scL S (l.take i)) (l.getD i Sh.prm.nil).2)
 | x::l,S,0,_,_,h=>by
  rw [formedP,Qek]
  exact if_pos h
 | x::l,S,i+1,hi,hk,h=>by
  have h0:formedY D K S x.2=0:=hk 0 (by omega)
  rw [formedP,Qek,if_neg (fun hc=>hc h0)]
  exact QfH (S:=Qdk S x) (by simpa using hi) (fun j hj=>hk (j+1) (by omega)) h
theorem Qka {S:List Srt} {l:List Yw} (hl:l.length=1):formedR D K S l=formedY D K S (l.getD 0 Sh.ty.nil):=by
 match l,hl with
 | [y],_=>rw [formedR]; rfl
end
section
variable {D : List Dat} {K : List Kap} {S : List Srt} {y : Yw}
theorem QlL (h:Qbf y=true):formedY D K S y=QaF D K S y:=by rw [QbM,if_pos h]
theorem QqQ (h:Qbf y=false) (h1:funsY y=false):formedY D K S y=30:=by rw [QbM,if_neg (by rw [h]; decide),if_pos h1]
theorem QqP (h:Qbf y=false) (h1:funsY y=true) (h2:6<y.params.length):formedY D K S y=24:=by rw [QbM,if_neg (by rw [h]; decide),if_neg (by rw [h1]; decide),if_pos h2]
theorem QqO (h:Qbf y=false) (h1:funsY y=true) (h2:¬ 6<y.params.length) (h3:Qca [] (y.params.map (·.1))=true):formedY D K S y=22:=by rw [QbM,if_neg (by rw [h]; decide),if_neg (by rw [h1]; decide),if_neg h2,if_pos h3]
theorem QqN (h:Qbf y=false) (h1:funsY y=true) (h2:¬ 6<y.params.length) (h3:Qca [] (y.params.map (·.1))=false) {e:Int} (h4:formedP D K S y.params=.error e):formedY D K S y=e:=by rw [QbM,if_neg (by rw [h]; decide),if_neg (by rw [h1]; decide),if_neg h2,if_neg (by rw [h3]; decide),h4]
theorem QqM (h:Qbf y=false) (h1:funsY y=true) (h2:¬ 6<y.params.length) (h3:Qca [] (y.params.map (·.1))=false) {S':List Srt} (h4:formedP D K S y.params=.ok S'):formedY D K S y=formedY D K S' (y.result.getD 0 Sh.ty.nil):=by
 rw [QbM,if_neg (by rw [h]; decide),if_neg (by rw [h1]; decide),if_neg h2,if_neg (by rw [h3]; decide),h4]
 exact Qka (QaJ h1)
end
noncomputable def sFormedN (n:Nat):Spec
 | [x]=>match kwOf x with
  | some w=>some (some (w.y.size<n∧w.y.fit∧fitK w.K∧w.y.wt≤100000000∧w.S.length+w.y.size≤100000000),.nm Int (formedY w.D w.K w.S w.y) iV)
  | none=>none
 | _=>none
set_option maxHeartbeats 8000000 in
theorem Ql9 {E:Env} (hU:Up E):∀ n,Contract Tryz.prog E 95 (sFormedN n)
 | 0=>by
  intro xs p r hs hp
  unfold sFormedN at hs
  split at hs
  · split at hs
    · cases hs
      exact absurd (hp _ rfl).1 (Nat.not_lt_zero _)
    · cases hs
  · cases hs
 | n+1=>by
  refine Qac [(41,Qiu),(50,sFunsY),(153,Qha),(154,QnP),(155,Qg7),(95,sFormedN n)] [] Tryz.ntmps95 Tryz.func95 (by kernel_rfl) (by kernel_rfl) hU ⟨Qpw hU,Qr3 hU,Qre hU,cTwice hU,Qpr hU,Ql9 hU n,trivial⟩ trivial ?_
  intro xs p r hs hp
  unfold sFormedN at hs
  split at hs
  · rename_i x
    split at hs
    · rename_i w hw
      cases hs
      obtain ⟨hn,hf,hK,hwt,hS⟩:=hp _ rfl
      have f2:=(Yw.fit_eq w.y).1 hf
      refine ⟨[kwP w],[(11,.s ⟨Nat,fun i=>⟨[(1,.bp 0 0),(3,.bp 1 0),(32,.f (.dt .prm w.y.params)),(33,iV w.y.params.length),(34,iV i)],[.cells (Qae (kwC w)),.cells (Qae (kwC ⟨inY w.y w.y.params i,w.D,w.K,scL w.S (w.y.params.take i)⟩))]⟩,fun i=>i≤w.y.params.length∧w.y.params.length≤6∧∀ j,j<i→formedY w.D w.K (scL w.S (w.y.params.take j)) (w.y.params.getD j Sh.prm.nil).2=0,fun i=>w.y.params.length - i⟩)],.cons (QiL hw).sub .nil,rfl,fun _ hsh=>?_⟩
      have h0:=hS
      refine Qab (p:=let A3:=Yw.mk w.y.fn w.y.sort (etaT w.y.ref) w.y.params w.y.result; let A4:=fun (x7:Nat)=>(inY w.y w.y.params x7); let A6:=fun (z5:Nat)=>(w.y.params.getD (↑z5:Int).toNat Sh.prm.nil); let A8:=w.y.result.getD (Int.toNat (0:Int)) Sh.ty.nil; let A9:=fun (x7:Nat)=>(x7≤w.y.params.length∧w.y.params.length≤6∧∀ (j:Nat),j<x7→formedY w.D w.K (scL w.S (List.take j w.y.params)) (w.y.params.getD j Sh.prm.nil).snd=(0:Int)); let A10:=iV (formedY w.D w.K w.S w.y); let A11:=(↑w.y.params.length:Int); let A12:=fun (z5:Nat)=>(List.take z5 w.y.params); let A13:=fun (x4:Nat)=>(inY w.y w.y.params x4); let A14:=fun (z5:Nat)=>(inY w.y w.y.params z5); let A15:=dP Sh.prm w.y.params; let A0:=fun (z5:Nat)=>(Yw.mk (A6 z5).snd.fn (A6 z5).snd.sort (etaT ((A6 z5).snd.ref)) (A6 z5).snd.params (A6 z5).snd.result); let A1:=Yw.mk (Yw.fn A8) (Yw.sort A8) (etaT (Yw.ref A8)) (Yw.params A8) (Yw.result A8); let A2:=rfB (bV w.y.fn)∧rfB (sV w.y.sort)∧rfB (uV w.y.ref.kind)∧rfB (sV w.y.ref.name)∧rfB (bV w.y.ref.neg)∧rfB (PV.f (Lf.lr w.y.ref.digits w.y.ref.digits.length))∧rfB (dP Sh.tm w.y.ref.kids)∧rfB A15∧rfB (dP Sh.ty w.y.result)∧rfB (dP Sh.dat w.D)∧rfB (dP Sh.kap w.K)∧rfB (dP Sh.srt w.S)∧True; let A5:=fun (z5:Nat)=>(Yw.mk (A0 z5).fn (A0 z5).sort (etaT ((A0 z5).ref)) (A0 z5).params (A0 z5).result); let A7:=Yw.mk A1.fn A1.sort (etaT (A1.ref)) A1.params A1.result; ∀ (z1:Bool),z1=Qbf A3→ifB z1 ((A3.fit∧fitK w.K∧A3.ref.size≤100000000∧w.S.length≤100000000)∧∀ (z2:Int),z2=QaF w.D w.K w.S A3→true=true∧Sub (iV z2) A10) (A3.ref.fitT∧∀ (z2:Bool),z2=funsY A3→ifB (!z2) (true=true∧Sub (iV 30) A10) (ifB (decide (A11 > (6:Int))) (true=true∧Sub (iV 24) A10) (A3.params.length≤100000000∧∀ (z3:Bool),z3=Qca [] (List.map (fun (x:ByteArray × Yw)=>x.fst) A3.params)→ifB z3 (true=true∧Sub (iV 22) A10) (∃ (x4:Nat),((A2∧(SubB (bV w.y.fn) (bV ((A13 x4).fn))∧SubB (sV w.y.sort) (sV ((A13 x4).sort))∧SubB (uV w.y.ref.kind) (uV ((A13 x4).ref.kind))∧SubB (sV w.y.ref.name) (sV ((A13 x4).ref.name))∧SubB (bV w.y.ref.neg) (bV ((A13 x4).ref.neg))∧SubB (PV.f (Lf.lr w.y.ref.digits w.y.ref.digits.length)) (PV.f (Lf.lr (A13 x4).ref.digits (A13 x4).ref.digits.length))∧SubB (dP Sh.tm w.y.ref.kids) (dP Sh.tm (A13 x4).ref.kids)∧SubB A15 (dP Sh.prm (A13 x4).params)∧SubB (dP Sh.ty w.y.result) (dP Sh.ty (A13 x4).result)∧rfB (dP Sh.dat w.D)∧rfB (dP Sh.kap w.K)∧SubB (dP Sh.srt w.S) (dP Sh.srt (scL w.S (List.take x4 w.y.params)))∧True)∧True)∧rfB (PV.bp 0 0)∧rfB (PV.bp 1 0)∧rfB A15∧rfB (iV A11)∧SubB (iV 0) (iV (↑x4:Int))∧True)∧(x4≤w.y.params.length∧w.y.params.length≤6∧∀ (j:Nat),j<x4→formedY w.D w.K (scL w.S (List.take j w.y.params)) (w.y.params.getD j Sh.prm.nil).snd=(0:Int))∧True∧∀ (z5:Nat),(z5≤w.y.params.length∧w.y.params.length≤6∧∀ (j:Nat),j<z5→formedY w.D w.K (scL w.S (List.take j w.y.params)) (w.y.params.getD j Sh.prm.nil).snd=(0:Int))→True→ifB (decide ((↑z5:Int)<A11)) (((0:Int)≤(↑z5:Int)∧(↑z5:Int)<A11)∧((scL w.S (A12 z5)).length≤100000000∧0≤100000000)∧((A5 z5).size<n∧(A5 z5).fit∧fitK w.K∧(A5 z5).wt≤100000000∧(scL w.S (A12 z5)++[]).length+(A5 z5).size≤100000000)∧∀ (z6:Int),z6=formedY w.D w.K (scL w.S (A12 z5)++[]) (A5 z5)→ifB (z6 != (0:Int)) (true=true∧Sub (iV z6) A10) (ifB (!(A6 z5).snd.fn) (((scL w.S (A12 z5)).length≤100000000∧1≤100000000)∧∃ (x7:Nat),((A2∧(SubB (bV ((A0 z5).fn)) (bV ((A4 x7).fn))∧SubB (sV ((A0 z5).sort)) (sV ((A4 x7).sort))∧SubB (uV ((A0 z5).ref.kind)) (uV ((A4 x7).ref.kind))∧SubB (sV ((A0 z5).ref.name)) (sV ((A4 x7).ref.name))∧SubB (bV ((A0 z5).ref.neg)) (bV ((A4 x7).ref.neg))∧SubB (PV.f (Lf.lr (A0 z5).ref.digits (A0 z5).ref.digits.length)) (PV.f (Lf.lr (A4 x7).ref.digits (A4 x7).ref.digits.length))∧SubB (dP Sh.tm (A0 z5).ref.kids) (dP Sh.tm (A4 x7).ref.kids)∧SubB (dP Sh.prm (A0 z5).params) (dP Sh.prm (A4 x7).params)∧SubB (dP Sh.ty (A0 z5).result) (dP Sh.ty (A4 x7).result)∧rfB (dP Sh.dat w.D)∧rfB (dP Sh.kap w.K)∧SubB (dP Sh.srt (scL w.S (A12 z5)++[Srt.mk (A6 z5).fst (A6 z5).snd.sort])) (dP Sh.srt (scL w.S (List.take x7 w.y.params)))∧True)∧True)∧rfB (PV.bp 0 0)∧rfB (PV.bp 1 0)∧rfB A15∧rfB (iV A11)∧SubB (iV (IntKind.i64.wrap ((↑z5:Int)+(1:Int)))) (iV (↑x7:Int))∧True)∧(A9 x7)∧True∧(w.y.params.length - x7).succ.le (w.y.params.length - z5)) (∃ (x7:Nat),((A2∧(SubB (bV ((A14 z5).fn)) (bV ((A4 x7).fn))∧SubB (sV ((A14 z5).sort)) (sV ((A4 x7).sort))∧SubB (uV ((A14 z5).ref.kind)) (uV ((A4 x7).ref.kind))∧SubB (sV ((A14 z5).ref.name)) (sV ((A4 x7).ref.name))∧SubB (bV ((A14 z5).ref.neg)) (bV ((A4 x7).ref.neg))∧SubB (PV.f (Lf.lr (A14 z5).ref.digits (A14 z5).ref.digits.length)) (PV.f (Lf.lr (A4 x7).ref.digits (A4 x7).ref.digits.length))∧SubB (dP Sh.tm (A14 z5).ref.kids) (dP Sh.tm (A4 x7).ref.kids)∧SubB (dP Sh.prm (A14 z5).params) (dP Sh.prm (A4 x7).params)∧SubB (dP Sh.ty (A14 z5).result) (dP Sh.ty (A4 x7).result)∧rfB (dP Sh.dat w.D)∧rfB (dP Sh.kap w.K)∧SubB (dP Sh.srt (scL w.S (A12 z5))) (dP Sh.srt (scL w.S (List.take x7 w.y.params)))∧True)∧True)∧rfB (PV.bp 0 0)∧rfB (PV.bp 1 0)∧rfB A15∧rfB (iV A11)∧SubB (iV (IntKind.i64.wrap ((↑z5:Int)+(1:Int)))) (iV (↑x7:Int))∧True)∧(A9 x7)∧True∧(w.y.params.length - x7).succ.le (w.y.params.length - z5)))) (((0:Int)≤(0:Int)∧(0:Int)<(↑w.y.result.length:Int))∧((scL w.S (A12 z5)).length≤100000000∧0≤100000000)∧(A7.size<n∧A7.fit∧fitK w.K∧A7.wt≤100000000∧(scL w.S (A12 z5)++[]).length+A7.size≤100000000)∧∀ (z6:Int),z6=formedY w.D w.K (scL w.S (A12 z5)++[]) A7→true=true∧Sub (iV z6) A10)))))) ?kr ?_
      case kr=>kernel_rfl
      conv=>zeta
      refine fun z1=>fun hz1=>Qaa.2 ⟨fun hb0=>⟨?s0,fun z2=>fun hz2=>⟨rfl,?m0⟩⟩,fun hb0=>⟨?s1,fun z2=>fun hz2=>Qaa.2 ⟨fun hb1=>⟨rfl,?m1⟩,fun hb1=>Qaa.2 ⟨fun hb2=>⟨rfl,?m2⟩,fun hb2=>⟨?s2,fun z3=>fun hz3=>Qaa.2 ⟨fun hb3=>⟨rfl,?m3⟩,fun hb3=>⟨?x0,⟨⟨⟨⟨.refl _,⟨.refl _,⟨.refl _,⟨.refl _,⟨.refl _,⟨.refl _,⟨.refl _,⟨.refl _,⟨.refl _,⟨.refl _,⟨.refl _,⟨.refl _,trivial⟩⟩⟩⟩⟩⟩⟩⟩⟩⟩⟩⟩,⟨⟨?m4,⟨?m5,⟨?m6,⟨?m7,⟨?m8,⟨?m9,⟨?m10,⟨?m11,⟨?m12,⟨.refl _,⟨.refl _,⟨?m13,trivial⟩⟩⟩⟩⟩⟩⟩⟩⟩⟩⟩⟩,trivial⟩⟩,⟨.refl _,⟨.refl _,⟨.refl _,⟨?m14,⟨?m15,trivial⟩⟩⟩⟩⟩⟩,⟨?s3,⟨trivial,fun z5=>fun hq4=>fun _=>Qaa.2 ⟨fun hb5=>⟨?s4,⟨?s5,⟨?s6,fun z6=>fun hz6=>Qaa.2 ⟨fun hb6=>⟨rfl,?m16⟩,fun hb6=>Qaa.2 ⟨fun hb7=>⟨?s7,⟨?x1,⟨⟨⟨⟨.refl _,⟨.refl _,⟨.refl _,⟨.refl _,⟨.refl _,⟨.refl _,⟨.refl _,⟨.refl _,⟨.refl _,⟨.refl _,⟨.refl _,⟨.refl _,trivial⟩⟩⟩⟩⟩⟩⟩⟩⟩⟩⟩⟩,⟨⟨?m17,⟨?m18,⟨?m19,⟨?m20,⟨?m21,⟨?m22,⟨?m23,⟨?m24,⟨?m25,⟨.refl _,⟨.refl _,⟨?m26,trivial⟩⟩⟩⟩⟩⟩⟩⟩⟩⟩⟩⟩,trivial⟩⟩,⟨.refl _,⟨.refl _,⟨.refl _,⟨.refl _,⟨?m27,trivial⟩⟩⟩⟩⟩⟩,⟨?s8,⟨trivial,?m28⟩⟩⟩⟩⟩,fun hb7=>⟨?x2,⟨⟨⟨⟨.refl _,⟨.refl _,⟨.refl _,⟨.refl _,⟨.refl _,⟨.refl _,⟨.refl _,⟨.refl _,⟨.refl _,⟨.refl _,⟨.refl _,⟨.refl _,trivial⟩⟩⟩⟩⟩⟩⟩⟩⟩⟩⟩⟩,⟨⟨?m29,⟨?m30,⟨?m31,⟨?m32,⟨?m33,⟨?m34,⟨?m35,⟨?m36,⟨?m37,⟨.refl _,⟨.refl _,⟨?m38,trivial⟩⟩⟩⟩⟩⟩⟩⟩⟩⟩⟩⟩,trivial⟩⟩,⟨.refl _,⟨.refl _,⟨.refl _,⟨.refl _,⟨?m39,trivial⟩⟩⟩⟩⟩⟩,⟨?s9,⟨trivial,?m40⟩⟩⟩⟩⟩⟩⟩⟩⟩,fun hb5=>⟨?s10,⟨?s11,⟨?s12,fun z6=>fun hz6=>⟨rfl,?m41⟩⟩⟩⟩⟩⟩⟩⟩⟩⟩⟩⟩⟩⟩⟩
      all_goals try simp only [etaT] at *
      case x0=>exact 0
      case x1=>exact z5+1
      case x2=>exact z5+1
      all_goals try simp only [Tw.eta,Yw.eta,List.append_nil,Bool.not_eq_true',Bool.not_eq_false',decide_eq_true_eq,decide_eq_false_iff_not,Int.toNat_natCast,Int.toNat_zero,Int.ofNat_lt,gt_iff_lt,bne_iff_ne,ne_eq,bne_eq_false_iff_eq] at *
      all_goals subst hz1
      all_goals have e1:=w.y.size_eq
      all_goals have e2:=w.y.wt_eq
      all_goals have e3:=w.y.size_pos
      case s0=>exact ⟨hf,hK,by omega,by omega⟩
      case m0=>exact (Qad (hz2.trans (QlL hb0).symm)).sub
      case s1=>exact f2.1.2.1
      all_goals subst hz2
      case m1=>exact (Qad (QqQ hb0 hb1).symm).sub
      case m2=>exact (Qad (QqP hb0 hb1 (by omega)).symm).sub
      case s2=>exact f2.2.1.1
      all_goals subst hz3
      case m3=>exact (Qad (QqO hb0 hb1 (by omega) hb3).symm).sub
      case m4=>exact .refl _
      case m5=>exact .refl _
      case m6=>exact .refl _
      case m7=>exact .refl _
      case m8=>exact .refl _
      case m9=>exact .refl _
      case m10=>exact .refl _
      case m11=>exact .refl _
      case m12=>exact .refl _
      case m13=>exact .refl _
      case m14=>exact .refl _
      case m15=>exact .refl _
      case s3=>exact ⟨Nat.zero_le _,by omega,fun j hj=>absurd hj (Nat.not_lt_zero j)⟩
      all_goals have hr:=QaJ hb1
      all_goals have hsl:=QnK (l:=w.y.params.take z5) (S:=w.S)
      all_goals have htl:(w.y.params.take z5).length≤z5:=by rw [List.length_take]; omega
      all_goals have hpl:=Qrw (l:=w.y.params)
      case s10=>omega
      case s11=>omega
      case s12 =>
       have hi:=gotD Sh.ty.nil (show 0<w.y.result.length by omega)
       have h5:=Qdz hi
       have h6:=Qrq hi
       exact ⟨by omega,QbC f2.2.2.2 hi,hK,by omega,by omega⟩
      case m41 =>
       obtain rfl:z5=w.y.params.length:=by omega
       rw [List.take_length] at hz6
       have h4:=QfI (D:=w.D) (K:=w.K) hq4.2.2
       exact (Qad (hz6.trans (QqM hb0 hb1 (by omega) hb3 h4).symm)).sub
      all_goals have hz:z5<w.y.params.length:=by omega
      case m16=>exact (Qad (hz6.trans (QqN hb0 hb1 (by omega) hb3 ((QfH hz hq4.2.2 (fun h=>hb6 (hz6.trans h))))).symm)).sub
      case s6 =>
       have hi:=gotD Sh.prm.nil hz
       have h5:=QnB hz
       have h6:=Qrr hi
       exact ⟨by omega,(Qb8 f2.2.2.1 hi).2,hK,by omega,by omega⟩
      all_goals first
       | omega
       | exact (by omega:w.y.params.length - (z5+1)<w.y.params.length - z5)
       | exact Qad (by rw [wJ _ (by omega) (by omega)]; rfl)
       | (rw [QlE hz,if_neg (by rw [hb7]; decide)]; exact .refl _)
       | (rw [QlE hz,if_pos hb7]; exact .refl _)
       | (rw [Qk1 hz,Qdk,if_neg (by rw [hb7]; decide)]; exact .refl _)
       | (rw [Qk1 hz,Qdk,if_pos hb7]; exact .refl _)
       | exact ⟨by omega,by omega,fun j hj=>(by
         by_cases hjz:j=z5
         · rw [hjz,← hz6]; exact hb6
         · exact hq4.2.2 j (by omega))⟩
    · cases hs
  · cases hs
end Go.Proofs.YtijfaigpilfpaaaGreatDoor
