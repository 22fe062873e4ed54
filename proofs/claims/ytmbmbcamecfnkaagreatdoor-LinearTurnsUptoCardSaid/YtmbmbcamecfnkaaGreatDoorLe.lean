/- Sums of atoms: the keys, rising, and how many times each is there (where the two library calls are told). -/
import Derived.Test.YtmbmbcamecfnkaaGreatDoorLb
import Derived.Test.YtmbmbcamecfnkaaGreatDoorHt
import Derived.Sort.Walk0
namespace Go.Proofs.YtmbmbcamecfnkaaGreatDoor
open Go.RowKit
set_option linter.unusedVariables false
set_option linter.unusedSimpArgs false
set_option maxRecDepth 100000
noncomputable def lzOf (K:Nat) (has:Kt.T .str→Bool) (get:Kt.T .str→List Lf):Lz:=Classical.epsilon fun A=>canL A∧has=hasL A∧get=getL K A
theorem qC_inj {K:Nat} {q r:Rat} (h:qC K q=qC K r):q=r:=by
 unfold qC at h
 simp only [List.cons.injEq,Lf.zn.injEq,Int.natCast_inj] at h
 exact Rat.ext h.1 h.2.2.1
theorem Qbe {K:Nat} {A:Lz} (h:canL A):lzOf K (hasL A) (getL K A)=A:=by
 have h1:canL (lzOf K (hasL A) (getL K A))∧hasL A=hasL (lzOf K (hasL A) (getL K A))∧getL K A=getL K (lzOf K (hasL A) (getL K A)):=Classical.epsilon_spec (p:=fun B=>canL B∧hasL A=hasL B∧getL K A=getL K B) ⟨A,h,rfl,rfl⟩
 exact Qmz h1.1 h fun s=>(qC_inj (congrFun h1.2.2 s)).symm
theorem Qqa {A B:Lz} (ha:canL A) (hb:canL B) {s:ByteArray} (h:valL A s=valL B s):hasL A s=hasL B s:=by
 rw [Bool.eq_iff_iff,QeO ha,QeO hb,h]
theorem Qt5 {A:Lz} (ha:canL A) {s:ByteArray} (h:valL A s=0):hasL A s=false:=by
 cases hh:hasL A s with
 | false=>rfl
 | true=>exact absurd h ((QeO ha s).1 hh)
theorem Qru {K:Nat}:MapW .str (fun _=>false) (fun _=>[]) [] [] .str (hasL []) (getL K []) [] []:=⟨rfl,fun _=>trivial⟩
theorem qC_sub {K k j:Nat} {r:Rat} (h1:ZB r.num K) (h2:ZB r.den K):SubB (.agg [.f (.zn r.num),.f (.zd r.num k),.f (.zn r.den),.f (.zd r.den j)]) (.agg (Qda (qC K r))) :=
 Qht (.cons (.refl _) (.cons (Qai rfl h1) (.cons (.refl _) (.cons (Qai rfl h2) .nil))))
theorem Qrt {K k j:Nat} {A:Lz} {s:ByteArray} {q r:Rat} (hc:canL A) (hr:valL A s+q=r) (h0:r≠0) (h1:ZB r.num K) (h2:ZB r.den K) :
  MapW .str (hasL A) (getL K A) [s] [.agg [.f (.zn r.num),.f (.zd r.num k),.f (.zn r.den),.f (.zd r.den j)]] .str (hasL (addL A s q)) (getL K (addL A s q)) [] []:=⟨rfl,fun key=>by
 show Qmy (match Kt.eq .str key s with | true=>some _ | false=>(match hasL A key with | true=>some (Qbm (getL K A key)) | false=>none)) (match hasL (addL A s q) key with | true=>some (Qbm (getL K (addL A s q) key)) | false=>none)
 have hv:=Qd5 (A:=A) (s:=s) (q:=q) key hc
 by_cases hk:key=s
 · subst hk
   rw [if_pos rfl,hr] at hv
   rw [Kt.eq_self key,(QeO (Qb2 hc) key).2 (by rw [hv]; exact h0)]
   show SubB _ (.agg (Qda (qC K (valL (addL A key q) key))))
   rw [hv]
   exact qC_sub h1 h2
 · rw [if_neg hk,Rat.add_zero] at hv
   rw [show Kt.eq .str key s=false from decide_eq_false hk,Qqa (Qb2 hc) hc hv]
   have e:getL K (addL A s q) key=getL K A key:=by unfold getL; rw [hv]
   rw [e]
   cases hasL A key with
   | true=>exact SubB.refl _
   | false=>trivial⟩
theorem Qrv {K:Nat} {A:Lz} {s:ByteArray} {q:Rat} {v:PV} (hc:canL A) (hr:valL A s+q=0) :
  MapW .str (hasD .str (hasL A) (getL K A) [s] [v] s) (getA .str (hasL A) (getL K A) [s] [v]) [] [] .str (hasL (addL A s q)) (getL K (addL A s q)) [] []:=⟨rfl,fun key=>by
 show Qmy (match hasD .str (hasL A) (getL K A) [s] [v] s key with | true=>some (Qbm (getA .str (hasL A) (getL K A) [s] [v] key)) | false=>none) (match hasL (addL A s q) key with | true=>some (Qbm (getL K (addL A s q) key)) | false=>none)
 have hv:=Qd5 (A:=A) (s:=s) (q:=q) key hc
 by_cases hk:key=s
 · subst hk
   rw [if_pos rfl,hr] at hv
   have e1:hasD .str (hasL A) (getL K A) [key] [v] key key=false:=by unfold hasD; rw [Kt.eq_self key]
   rw [e1,Qt5 (Qb2 hc) hv]
   trivial
 · rw [if_neg hk,Rat.add_zero] at hv
   have ek:Kt.eq .str key s=false:=decide_eq_false hk
   have em:Qbc .str (hasL A) (getL K A) [s] [v] key=match hasL A key with | true=>some (Qbm (getL K A key)) | false=>none:=by
    show (match Kt.eq .str key s with | true=>some v | false=>_)=_
    rw [ek]; rfl
   have e1:hasD .str (hasL A) (getL K A) [s] [v] s key=hasL A key:=by
    unfold hasD
    rw [ek,em]
    cases hasL A key <;> rfl
   have e:getL K (addL A s q) key=getL K A key:=by unfold getL; rw [hv]
   rw [e1,Qqa (Qb2 hc) hc hv,e]
   cases hh:hasL A key with
   | true =>
    have e2:getA .str (hasL A) (getL K A) [s] [v] key=getL K A key:=by
     unfold getA
     rw [em,hh]
     show (match QcW (Qbm (getL K A key)) with | some l=>l | none=>[])=_
     rw [Qc3]
    rw [e2]
    exact SubB.refl _
   | false=>trivial⟩
theorem Qnn {z:Int} {k k':Nat} (h:k≤k'):SubB (.f (.zd z k)) (.f (.zd z k')):=⟨fun H B v hv=>.f (Qkq hv.rd h)⟩
def Qmb:Spec2
 | [],[]=>some (.ret (.bp 1 0) [.map .str (hasL []) (getL 5000 []) [] [],.cells [.f (.zn 0),.f (.zd 0 5000),.f (.zn 1),.f (.zd 1 5000),.wr 0]])
 | _,_=>none
theorem zb0L {K:Nat}:ZB 0 K:=by
 show (0:Int).natAbs<_
 exact Nat.pow_pos (by omega)
theorem zb1L {K:Nat} (h:1≤K):ZB 1 K:=by
 show (1:Int).natAbs<_
 exact Nat.one_lt_pow (by omega) (by omega)
theorem Qs0 {E:Env} (hU:Up E):Contract2 Tryz.prog E 66 Qmb:=by
 refine contract2 [(67,Qcx)] [] Tryz.ntmps66 Tryz.func66 (by kernel_rfl) (by kernel_rfl) hU ⟨Qi0 hU,trivial⟩ trivial ?_
 intro xs ob o hs hok
 unfold Qmb at hs
 split at hs
 · cases hs
   refine ⟨[],[],.nil,rfl,fun _ hsh=>?_⟩
   have h0:=hU
   refine Qag (p:=0≤95000∧∀ (z1:Rat),(z1=match Qak false [] with | true=>(↑(zV false []):Rat) | false=>(0:Rat))→EndU 0 (Out.ret (PV.bp 1 0) [PO.map Kt.str (hasL []) (getL 5000 []) [] [],PO.cells [PV.f (Lf.zn (0:Int)),PV.f (Lf.zd (0:Int) 5000),PV.f (Lf.zn (1:Int)),PV.f (Lf.zd (1:Int) 5000),PV.wr 0]]).fin true (PV.bp 1 0) [PO.map Kt.str (fun (x:Kt.str.T)=>false) (fun (x:Kt.str.T)=>[]) [] [],PO.cells [PV.f (Lf.zn z1.num),PV.f (Lf.zd z1.num 3),PV.f (Lf.zn (↑z1.den:Int)),PV.f (Lf.zd (↑z1.den:Int) 6),PV.wr 0]]) ?kr ?_
   case kr=>kernel_rfl
   refine ⟨?s0,fun z1=>fun hz1=>?m0⟩
   case s0=>omega
   case m0 =>
    have hz:z1=0:=by rw [hz1]; rfl
    clear hz1
    subst hz
    refine Qd9 rfl (.refl _) rfl rfl rfl ?_
    repeat' first | exact SubB.refl _ | exact Qai rfl zb0L | exact Qai rfl (zb1L (by omega)) | exact trivial | exact Qru | refine And.intro ?_ ?_
 · cases hs
noncomputable def sAtom:Spec2
 | [.bp 0 0,.f (.v (.string key)),.agg [.f (.zn c),.f (.zd c' k2),.f (.zn d),.f (.zd d' j2)]],[.cells [.f (.zn a),.f (.zd b k3),.f (.zn e),.f (.zd f j3),.wr 1],.map .str has get [] []] =>
  some (.need (isQ c c' d d'∧(k2≤15000∧j2≤15000)∧∃ A,canL A∧fitL 5000 A∧has=hasL A∧get=getL 5000 A∧fitL 5000 (addL A key (Rat.divInt c d))) (.nm Lz (addL (lzOf 5000 has get) key (Rat.divInt c d)) fun B=>.ret (.tup []) [.cells [.f (.zn a),.f (.zd b k3),.f (.zn e),.f (.zd f j3),.wr 1],.map .str (hasL B) (getL 5000 B) [] []]))
 | _,_=>none
set_option maxHeartbeats 4000000 in
theorem cAtom {E:Env} (hU:Up E):Contract2 Tryz.prog E 68 sAtom:=by
 refine contract2 [(143,Qjx (fun a b=>a+b) 0 (3,3) bPl),(144,Qo8)] [] Tryz.ntmps68 Tryz.func68 (by kernel_rfl) (by kernel_rfl) hU ⟨cAddQ hU,cZero6 hU,trivial⟩ trivial ?_
 intro xs ob o hs hok
 unfold sAtom at hs
 split at hs
 · rename_i key c c' k2 d d' j2 a b k3 e f j3 has get
   cases hs
   obtain ⟨⟨i1,⟨n1,n2⟩,A,hc,hf,rfl,rfl,hf2⟩,-⟩:=hok
   obtain ⟨q,rfl,rfl,rfl,rfl,e1⟩:=Qdy i1
   rw [e1] at hf2 ⊢
   rw [Qbe hc]
   refine ⟨[.bp 0 0,.f (.v (.string key)),.agg [.f (.zn q.num),.f (.zd q.num 15000),.f (.zn q.den),.f (.zd q.den 15000)]],[
    (1000002,.s ⟨Unit,fun _=>⟨[(0,.bp 0 0),(1,sV key),(6,.bp 3 0)],[.cells [.f (.zn a),.f (.zd b k3),.f (.zn e),.f (.zd f j3),.wr 1],.map .str (hasL A) (getL 5000 A) [] [],.cells [.f (.zn q.num),.f (.zd q.num 15000),.f (.zn q.den),.f (.zd q.den 15000)],.cells (QaU (qC 5000 (valL A key+q)))]⟩,fun _=>True,fun _=>0⟩)],.cons (.refl _) (.cons (.refl _) (.cons (Qht (.cons (.refl _) (.cons (Qnn n1) (.cons (.refl _) (.cons (Qnn n2) .nil))))) .nil)),rfl,fun _ hsh=>?_⟩
   have h0:=hU
   have E1:List.foldl (fun (a:Rat) e=>a+ofE e) (0:Rat) [rawE 5000 (valL A key),rawE 15000 q]=valL A key+q:=by
    show (0:Rat)+ofE (rawE 5000 (valL A key))+ofE (rawE 15000 q)=_
    rw [QgO,QgO,Rat.zero_add]
   have E2:valL A key=0→List.foldl (fun (a:Rat) e=>a+ofE e) (0:Rat) [((false,[],0),(false,[],0)),rawE 15000 q]=valL A key+q:=fun hv=>by
    show (0:Rat)+Qaw false [] false []+ofE (rawE 15000 q)=_
    rw [Qjm,QgO,hv,Rat.add_zero]
   have V0:hasL A key=false→valL A key=0:=fun hh=>Classical.byContradiction fun hn=>by rw [(QeO hc key).2 hn] at hh; cases hh
   have ZR:ZB (valL A key+q).num 5000∧ZB (valL A key+q).den 5000:=by
    have h:=Qua (zb1L (by omega)) hf2 (Qb2 hc) key
    rw [Qd5 key hc,if_pos rfl] at h
    exact h
   refine Qag (p:=let A4:=(↑q.den:Int); let A5:=Lf.zd q.num 15000; let A6:= ((zNeg q.num,digs 1000000000 q.num.natAbs,15000),zNeg A4,digs 1000000000 A4.natAbs,15000); let A7:=Lf.zd A4 15000; let A8:= ((zNeg (valL A key).num,digs 1000000000 (valL A key).num.natAbs,5000),zNeg (↑(valL A key).den:Int),digs 1000000000 (↑(valL A key).den:Int).natAbs,5000); let A9:=Out.need (isQ q.num q.num A4 A4∧(k2≤15000∧j2≤15000)∧∃ (A_1:Lz),canL A_1∧fitL 5000 A_1∧hasL A=hasL A_1∧getL 5000 A=getL 5000 A_1∧fitL 5000 (addL A_1 key q)) (Out.nm Lz (addL A key q) fun (B:Lz)=>Out.ret (PV.tup []) [PO.cells [PV.f (Lf.zn a),PV.f (Lf.zd b k3),PV.f (Lf.zn e),PV.f (Lf.zd f j3),PV.wr 1],PO.map Kt.str (hasL B) (getL 5000 B) [] []]); let A10:=valL A key+q; let A11:=fun (s:Kt.str.T)=>List.any A fun (x:ByteArray × Rat)=>decide (x.fst=s); let A12:=fun (a:Rat) (e:QE)=>a+ofE e; let A13:=45084≤95000∧20049≤95000∧2≤1000000; let A14:=30084≤95000∧15049≤95000∧2≤1000000; let A15:=(↑A10.den:Int); let A16:=rfB (PV.f (Lf.zn a))∧rfB (PV.f (Lf.zd b k3))∧rfB (PV.f (Lf.zn e))∧rfB (PV.f (Lf.zd f j3))∧rfB (PV.wr 1)∧True; let A17:=fun (s:Kt.str.T)=>qC 5000 (valL A s); let A18:=rfB (PV.f (Lf.zn q.num))∧rfB (PV.f A5)∧rfB (PV.f (Lf.zn A4))∧rfB (PV.f A7)∧True; let A19:= ((false,[],0),false,[],0); let A20:=PV.agg (List.take Tryz.prog.types[52].size (List.drop 0 (QaU (qC 5000 A10)))); let A0:=fun (z1:Rat)=>((A16∧MapW Kt.str A11 A17 [] [] Kt.str A11 A17 [] []∧A18∧(SubB (PV.f (Lf.zn z1.num)) (PV.f (Lf.zn A10.num))∧SubB (PV.f (Lf.zd z1.num 45084)) (PV.f (Lf.zd A10.num 5000))∧SubB (PV.f (Lf.zn (↑z1.den:Int))) (PV.f (Lf.zn A15))∧SubB (PV.f (Lf.zd (↑z1.den:Int) 20049)) (PV.f (Lf.zd A15 5000))∧True)∧True)∧rfB (PV.bp 0 0)∧rfB (sV key)∧rfB (PV.bp 3 0)∧True); let A1:=fun (z1:Rat)=>((A16∧MapW Kt.str A11 A17 [] [] Kt.str A11 A17 [] []∧A18∧(SubB (PV.f (Lf.zn z1.num)) (PV.f (Lf.zn A10.num))∧SubB (PV.f (Lf.zd z1.num 30084)) (PV.f (Lf.zd A10.num 5000))∧SubB (PV.f (Lf.zn (↑z1.den:Int))) (PV.f (Lf.zn A15))∧SubB (PV.f (Lf.zd (↑z1.den:Int) 15049)) (PV.f (Lf.zd A15 5000))∧True)∧True)∧rfB (PV.bp 0 0)∧rfB (sV key)∧rfB (PV.bp 3 0)∧True); let A2:=SameL [PV.any,PV.any,PV.agg [PV.f (Lf.zn q.num),PV.f A5,PV.f (Lf.zn A4),PV.f A7]] [PV.any,PV.any,PV.agg [PV.f (Lf.zn q.num),PV.f A5,PV.f (Lf.zn A4),PV.f A7]]∧SameL [PV.any,PV.any,PV.any] [PV.any,PV.any,PV.any]∧A13∧∀ (z1:Rat),z1=List.foldl A12 (0:Rat) [A8,A6]→SameL [PV.any,PV.any,PV.any] [PV.any,PV.any,PV.any]∧SameL [PV.any,PV.any,PV.any] [PV.any,PV.any,PV.any]∧∃ (x2:Unit),(A0 z1)∧True; let A3:=SameL [PV.any,PV.any,PV.agg [PV.f (Lf.zn q.num),PV.f A5,PV.f (Lf.zn A4),PV.f A7]] [PV.any,PV.any,PV.agg [PV.f (Lf.zn q.num),PV.f A5,PV.f (Lf.zn A4),PV.f A7]]∧SameL [PV.any,PV.any,PV.any] [PV.any,PV.any,PV.any]∧A14∧∀ (z1:Rat),z1=List.foldl A12 (0:Rat) [A19,A6]→SameL [PV.any,PV.any,PV.any] [PV.any,PV.any,PV.any]∧SameL [PV.any,PV.any,PV.any] [PV.any,PV.any,PV.any]∧∃ (x2:Unit),(A1 z1)∧True; (SameL [PV.bp 0 0,sV key,PV.agg [PV.f (Lf.zn q.num),PV.f A5,PV.f (Lf.zn A4),PV.f A7]] [PV.bp 0 0,sV key,PV.agg [PV.f (Lf.zn q.num),PV.f A5,PV.f (Lf.zn A4),PV.f A7]]∧(SameL [PV.any,sV key,PV.agg [PV.f (Lf.zn q.num),PV.f A5,PV.f (Lf.zn A4),PV.f A7]] [PV.any,sV key,PV.agg [PV.f (Lf.zn q.num),PV.f A5,PV.f (Lf.zn A4),PV.f A7]]∧(SameL [PV.any,sV key,PV.agg [PV.f (Lf.zn q.num),PV.f A5,PV.f (Lf.zn A4),PV.f A7]] [PV.any,sV key,PV.agg [PV.f (Lf.zn q.num),PV.f A5,PV.f (Lf.zn A4),PV.f A7]]∧(SameL [PV.any,sV key,PV.agg [PV.f (Lf.zn q.num),PV.f A5,PV.f (Lf.zn A4),PV.f A7]] [PV.any,sV key,PV.agg [PV.f (Lf.zn q.num),PV.f A5,PV.f (Lf.zn A4),PV.f A7]]∧ifB (hasL A key) (SameL [PV.any,PV.any,PV.agg [PV.f (Lf.zn q.num),PV.f A5,PV.f (Lf.zn A4),PV.f A7]] [PV.any,PV.any,PV.agg [PV.f (Lf.zn q.num),PV.f A5,PV.f (Lf.zn A4),PV.f A7]]∧(SameL [PV.any,PV.any,PV.any] [PV.any,PV.any,PV.any]∧(A13∧∀ (z1:Rat),z1=List.foldl A12 (0:Rat) [A8,A6]→SameL [PV.any,PV.any,PV.any] [PV.any,PV.any,PV.any]∧SameL [PV.any,PV.any,PV.any] [PV.any,PV.any,PV.any]∧SameL [PV.any,PV.any,PV.any] [PV.any,PV.any,PV.any]∧∃ (x2:Unit),(A0 z1)∧True)∧SameL [PV.any,PV.any,PV.any] [PV.any,PV.any,PV.any]∧A13∧∀ (z1:Rat),z1=List.foldl A12 (0:Rat) [A8,A6]→SameL [PV.any,PV.any,PV.any] [PV.any,PV.any,PV.any]∧SameL [PV.any,PV.any,PV.any] [PV.any,PV.any,PV.any]∧∃ (x2:Unit),(A0 z1)∧True)∧SameL [PV.any,PV.any,PV.agg [PV.f (Lf.zn q.num),PV.f A5,PV.f (Lf.zn A4),PV.f A7]] [PV.any,PV.any,PV.agg [PV.f (Lf.zn q.num),PV.f A5,PV.f (Lf.zn A4),PV.f A7]]∧SameL [PV.any,PV.any,PV.any] [PV.any,PV.any,PV.any]∧A13∧∀ (z1:Rat),z1=List.foldl A12 (0:Rat) [A8,A6]→SameL [PV.any,PV.any,PV.any] [PV.any,PV.any,PV.any]∧SameL [PV.any,PV.any,PV.any] [PV.any,PV.any,PV.any]∧∃ (x2:Unit),(A0 z1)∧True) (SameL [PV.any,PV.any,PV.agg [PV.f (Lf.zn q.num),PV.f A5,PV.f (Lf.zn A4),PV.f A7]] [PV.any,PV.any,PV.agg [PV.f (Lf.zn q.num),PV.f A5,PV.f (Lf.zn A4),PV.f A7]]∧(SameL [PV.any,PV.any,PV.any] [PV.any,PV.any,PV.any]∧(A14∧∀ (z1:Rat),z1=List.foldl A12 (0:Rat) [A19,A6]→SameL [PV.any,PV.any,PV.any] [PV.any,PV.any,PV.any]∧SameL [PV.any,PV.any,PV.any] [PV.any,PV.any,PV.any]∧SameL [PV.any,PV.any,PV.any] [PV.any,PV.any,PV.any]∧∃ (x2:Unit),(A1 z1)∧True)∧SameL [PV.any,PV.any,PV.any] [PV.any,PV.any,PV.any]∧A14∧∀ (z1:Rat),z1=List.foldl A12 (0:Rat) [A19,A6]→SameL [PV.any,PV.any,PV.any] [PV.any,PV.any,PV.any]∧SameL [PV.any,PV.any,PV.any] [PV.any,PV.any,PV.any]∧∃ (x2:Unit),(A1 z1)∧True)∧SameL [PV.any,PV.any,PV.agg [PV.f (Lf.zn q.num),PV.f A5,PV.f (Lf.zn A4),PV.f A7]] [PV.any,PV.any,PV.agg [PV.f (Lf.zn q.num),PV.f A5,PV.f (Lf.zn A4),PV.f A7]]∧SameL [PV.any,PV.any,PV.any] [PV.any,PV.any,PV.any]∧A14∧∀ (z1:Rat),z1=List.foldl A12 (0:Rat) [A19,A6]→SameL [PV.any,PV.any,PV.any] [PV.any,PV.any,PV.any]∧SameL [PV.any,PV.any,PV.any] [PV.any,PV.any,PV.any]∧∃ (x2:Unit),(A1 z1)∧True)∧SameL [PV.any,sV key,PV.agg [PV.f (Lf.zn q.num),PV.f A5,PV.f (Lf.zn A4),PV.f A7]] [PV.any,sV key,PV.agg [PV.f (Lf.zn q.num),PV.f A5,PV.f (Lf.zn A4),PV.f A7]]∧ifB (hasL A key) A2 A3)∧SameL [PV.any,sV key,PV.agg [PV.f (Lf.zn q.num),PV.f A5,PV.f (Lf.zn A4),PV.f A7]] [PV.any,sV key,PV.agg [PV.f (Lf.zn q.num),PV.f A5,PV.f (Lf.zn A4),PV.f A7]]∧SameL [PV.any,sV key,PV.agg [PV.f (Lf.zn q.num),PV.f A5,PV.f (Lf.zn A4),PV.f A7]] [PV.any,sV key,PV.agg [PV.f (Lf.zn q.num),PV.f A5,PV.f (Lf.zn A4),PV.f A7]]∧ifB (hasL A key) A2 A3)∧SameL [PV.any,sV key,PV.agg [PV.f (Lf.zn q.num),PV.f A5,PV.f (Lf.zn A4),PV.f A7]] [PV.any,sV key,PV.agg [PV.f (Lf.zn q.num),PV.f A5,PV.f (Lf.zn A4),PV.f A7]]∧SameL [PV.any,sV key,PV.agg [PV.f (Lf.zn q.num),PV.f A5,PV.f (Lf.zn A4),PV.f A7]] [PV.any,sV key,PV.agg [PV.f (Lf.zn q.num),PV.f A5,PV.f (Lf.zn A4),PV.f A7]]∧SameL [PV.any,sV key,PV.agg [PV.f (Lf.zn q.num),PV.f A5,PV.f (Lf.zn A4),PV.f A7]] [PV.any,sV key,PV.agg [PV.f (Lf.zn q.num),PV.f A5,PV.f (Lf.zn A4),PV.f A7]]∧ifB (hasL A key) A2 A3)∧SameL [PV.bp 0 0,sV key,PV.agg [PV.f (Lf.zn q.num),PV.f A5,PV.f (Lf.zn A4),PV.f A7]] [PV.bp 0 0,sV key,PV.agg [PV.f (Lf.zn q.num),PV.f A5,PV.f (Lf.zn A4),PV.f A7]]∧SameL [PV.any,sV key,PV.agg [PV.f (Lf.zn q.num),PV.f A5,PV.f (Lf.zn A4),PV.f A7]] [PV.any,sV key,PV.agg [PV.f (Lf.zn q.num),PV.f A5,PV.f (Lf.zn A4),PV.f A7]]∧SameL [PV.any,sV key,PV.agg [PV.f (Lf.zn q.num),PV.f A5,PV.f (Lf.zn A4),PV.f A7]] [PV.any,sV key,PV.agg [PV.f (Lf.zn q.num),PV.f A5,PV.f (Lf.zn A4),PV.f A7]]∧SameL [PV.any,sV key,PV.agg [PV.f (Lf.zn q.num),PV.f A5,PV.f (Lf.zn A4),PV.f A7]] [PV.any,sV key,PV.agg [PV.f (Lf.zn q.num),PV.f A5,PV.f (Lf.zn A4),PV.f A7]]∧ifB (hasL A key) A2 A3)∧∀ (z1:Unit),True→True∧ifB (decide ((digs 1000000000 A10.num.natAbs).length=0)) (EndU 2 A9.fin true (PV.tup []) [PO.cells [PV.f (Lf.zn a),PV.f (Lf.zd b k3),PV.f (Lf.zn e),PV.f (Lf.zd f j3),PV.wr 1],PO.map Kt.str (hasD Kt.str (hasL A) (getL 5000 A) [key] [flat A20] key) (getA Kt.str (hasL A) (getL 5000 A) [key] [flat A20]) [] [],PO.cells [PV.f (Lf.zn q.num),PV.f A5,PV.f (Lf.zn A4),PV.f A7],PO.cells [PV.f (Lf.zn A10.num),PV.f (Lf.zd A10.num 5000),PV.f (Lf.zn A15),PV.f (Lf.zd A15 5000)]]) (EndU 2 A9.fin true (PV.tup []) [PO.cells [PV.f (Lf.zn a),PV.f (Lf.zd b k3),PV.f (Lf.zn e),PV.f (Lf.zd f j3),PV.wr 1],PO.map Kt.str (hasL A) (getL 5000 A) [key] [PV.agg [PV.f (Lf.zn A10.num),PV.f (Lf.zd A10.num 5000),PV.f (Lf.zn A15),PV.f (Lf.zd A15 5000)]],PO.cells [PV.f (Lf.zn q.num),PV.f A5,PV.f (Lf.zn A4),PV.f A7],PO.cells [PV.f (Lf.zn A10.num),PV.f (Lf.zd A10.num 5000),PV.f (Lf.zn A15),PV.f (Lf.zd A15 5000)]])) ?kr ?_
   case kr=>kernel_rfl
   conv=>zeta
   refine ⟨⟨⟨rfl⟩,⟨⟨⟨rfl⟩,⟨⟨⟨rfl⟩,⟨⟨⟨rfl⟩,⟨Qae.2 ⟨fun hb0=>⟨⟨rfl⟩,⟨⟨⟨rfl⟩,⟨⟨?s0,fun z1=>fun hz1=>⟨⟨rfl⟩,⟨⟨rfl⟩,⟨⟨rfl⟩,⟨?x0,⟨⟨⟨⟨.refl _,⟨.refl _,⟨.refl _,⟨.refl _,⟨.refl _,trivial⟩⟩⟩⟩⟩,⟨.refl _ _ _ _ _,⟨⟨.refl _,⟨.refl _,⟨.refl _,⟨.refl _,trivial⟩⟩⟩⟩,⟨⟨?m0,⟨?m1,⟨?m2,⟨?m3,trivial⟩⟩⟩⟩,trivial⟩⟩⟩⟩,⟨.refl _,⟨.refl _,⟨.refl _,trivial⟩⟩⟩⟩,trivial⟩⟩⟩⟩⟩⟩,⟨⟨rfl⟩,⟨?s1,fun z1=>fun hz1=>⟨⟨rfl⟩,⟨⟨rfl⟩,⟨?x1,⟨⟨⟨⟨.refl _,⟨.refl _,⟨.refl _,⟨.refl _,⟨.refl _,trivial⟩⟩⟩⟩⟩,⟨.refl _ _ _ _ _,⟨⟨.refl _,⟨.refl _,⟨.refl _,⟨.refl _,trivial⟩⟩⟩⟩,⟨⟨?m4,⟨?m5,⟨?m6,⟨?m7,trivial⟩⟩⟩⟩,trivial⟩⟩⟩⟩,⟨.refl _,⟨.refl _,⟨.refl _,trivial⟩⟩⟩⟩,trivial⟩⟩⟩⟩⟩⟩⟩⟩,⟨⟨rfl⟩,⟨⟨rfl⟩,⟨?s2,fun z1=>fun hz1=>⟨⟨rfl⟩,⟨⟨rfl⟩,⟨?x2,⟨⟨⟨⟨.refl _,⟨.refl _,⟨.refl _,⟨.refl _,⟨.refl _,trivial⟩⟩⟩⟩⟩,⟨.refl _ _ _ _ _,⟨⟨.refl _,⟨.refl _,⟨.refl _,⟨.refl _,trivial⟩⟩⟩⟩,⟨⟨?m8,⟨?m9,⟨?m10,⟨?m11,trivial⟩⟩⟩⟩,trivial⟩⟩⟩⟩,⟨.refl _,⟨.refl _,⟨.refl _,trivial⟩⟩⟩⟩,trivial⟩⟩⟩⟩⟩⟩⟩⟩⟩,fun hb0=>⟨⟨rfl⟩,⟨⟨⟨rfl⟩,⟨⟨?s3,fun z1=>fun hz1=>⟨⟨rfl⟩,⟨⟨rfl⟩,⟨⟨rfl⟩,⟨?x3,⟨⟨⟨⟨.refl _,⟨.refl _,⟨.refl _,⟨.refl _,⟨.refl _,trivial⟩⟩⟩⟩⟩,⟨.refl _ _ _ _ _,⟨⟨.refl _,⟨.refl _,⟨.refl _,⟨.refl _,trivial⟩⟩⟩⟩,⟨⟨?m12,⟨?m13,⟨?m14,⟨?m15,trivial⟩⟩⟩⟩,trivial⟩⟩⟩⟩,⟨.refl _,⟨.refl _,⟨.refl _,trivial⟩⟩⟩⟩,trivial⟩⟩⟩⟩⟩⟩,⟨⟨rfl⟩,⟨?s4,fun z1=>fun hz1=>⟨⟨rfl⟩,⟨⟨rfl⟩,⟨?x4,⟨⟨⟨⟨.refl _,⟨.refl _,⟨.refl _,⟨.refl _,⟨.refl _,trivial⟩⟩⟩⟩⟩,⟨.refl _ _ _ _ _,⟨⟨.refl _,⟨.refl _,⟨.refl _,⟨.refl _,trivial⟩⟩⟩⟩,⟨⟨?m16,⟨?m17,⟨?m18,⟨?m19,trivial⟩⟩⟩⟩,trivial⟩⟩⟩⟩,⟨.refl _,⟨.refl _,⟨.refl _,trivial⟩⟩⟩⟩,trivial⟩⟩⟩⟩⟩⟩⟩⟩,⟨⟨rfl⟩,⟨⟨rfl⟩,⟨?s5,fun z1=>fun hz1=>⟨⟨rfl⟩,⟨⟨rfl⟩,⟨?x5,⟨⟨⟨⟨.refl _,⟨.refl _,⟨.refl _,⟨.refl _,⟨.refl _,trivial⟩⟩⟩⟩⟩,⟨.refl _ _ _ _ _,⟨⟨.refl _,⟨.refl _,⟨.refl _,⟨.refl _,trivial⟩⟩⟩⟩,⟨⟨?m20,⟨?m21,⟨?m22,⟨?m23,trivial⟩⟩⟩⟩,trivial⟩⟩⟩⟩,⟨.refl _,⟨.refl _,⟨.refl _,trivial⟩⟩⟩⟩,trivial⟩⟩⟩⟩⟩⟩⟩⟩⟩⟩,⟨⟨rfl⟩,Qae.2 ⟨fun hb1=>⟨⟨rfl⟩,⟨⟨rfl⟩,⟨?s6,fun z1=>fun hz1=>⟨⟨rfl⟩,⟨⟨rfl⟩,⟨?x6,⟨⟨⟨⟨.refl _,⟨.refl _,⟨.refl _,⟨.refl _,⟨.refl _,trivial⟩⟩⟩⟩⟩,⟨.refl _ _ _ _ _,⟨⟨.refl _,⟨.refl _,⟨.refl _,⟨.refl _,trivial⟩⟩⟩⟩,⟨⟨?m24,⟨?m25,⟨?m26,⟨?m27,trivial⟩⟩⟩⟩,trivial⟩⟩⟩⟩,⟨.refl _,⟨.refl _,⟨.refl _,trivial⟩⟩⟩⟩,trivial⟩⟩⟩⟩⟩⟩⟩,fun hb1=>⟨⟨rfl⟩,⟨⟨rfl⟩,⟨?s7,fun z1=>fun hz1=>⟨⟨rfl⟩,⟨⟨rfl⟩,⟨?x7,⟨⟨⟨⟨.refl _,⟨.refl _,⟨.refl _,⟨.refl _,⟨.refl _,trivial⟩⟩⟩⟩⟩,⟨.refl _ _ _ _ _,⟨⟨.refl _,⟨.refl _,⟨.refl _,⟨.refl _,trivial⟩⟩⟩⟩,⟨⟨?m28,⟨?m29,⟨?m30,⟨?m31,trivial⟩⟩⟩⟩,trivial⟩⟩⟩⟩,⟨.refl _,⟨.refl _,⟨.refl _,trivial⟩⟩⟩⟩,trivial⟩⟩⟩⟩⟩⟩⟩⟩⟩⟩⟩,⟨⟨rfl⟩,⟨⟨rfl⟩,Qae.2 ⟨fun hb2=>⟨⟨rfl⟩,⟨⟨rfl⟩,⟨?s8,fun z1=>fun hz1=>⟨⟨rfl⟩,⟨⟨rfl⟩,⟨?x8,⟨⟨⟨⟨.refl _,⟨.refl _,⟨.refl _,⟨.refl _,⟨.refl _,trivial⟩⟩⟩⟩⟩,⟨.refl _ _ _ _ _,⟨⟨.refl _,⟨.refl _,⟨.refl _,⟨.refl _,trivial⟩⟩⟩⟩,⟨⟨?m32,⟨?m33,⟨?m34,⟨?m35,trivial⟩⟩⟩⟩,trivial⟩⟩⟩⟩,⟨.refl _,⟨.refl _,⟨.refl _,trivial⟩⟩⟩⟩,trivial⟩⟩⟩⟩⟩⟩⟩,fun hb2=>⟨⟨rfl⟩,⟨⟨rfl⟩,⟨?s9,fun z1=>fun hz1=>⟨⟨rfl⟩,⟨⟨rfl⟩,⟨?x9,⟨⟨⟨⟨.refl _,⟨.refl _,⟨.refl _,⟨.refl _,⟨.refl _,trivial⟩⟩⟩⟩⟩,⟨.refl _ _ _ _ _,⟨⟨.refl _,⟨.refl _,⟨.refl _,⟨.refl _,trivial⟩⟩⟩⟩,⟨⟨?m36,⟨?m37,⟨?m38,⟨?m39,trivial⟩⟩⟩⟩,trivial⟩⟩⟩⟩,⟨.refl _,⟨.refl _,⟨.refl _,trivial⟩⟩⟩⟩,trivial⟩⟩⟩⟩⟩⟩⟩⟩⟩⟩⟩⟩,⟨⟨rfl⟩,⟨⟨rfl⟩,⟨⟨rfl⟩,Qae.2 ⟨fun hb3=>⟨⟨rfl⟩,⟨⟨rfl⟩,⟨?s10,fun z1=>fun hz1=>⟨⟨rfl⟩,⟨⟨rfl⟩,⟨?x10,⟨⟨⟨⟨.refl _,⟨.refl _,⟨.refl _,⟨.refl _,⟨.refl _,trivial⟩⟩⟩⟩⟩,⟨.refl _ _ _ _ _,⟨⟨.refl _,⟨.refl _,⟨.refl _,⟨.refl _,trivial⟩⟩⟩⟩,⟨⟨?m40,⟨?m41,⟨?m42,⟨?m43,trivial⟩⟩⟩⟩,trivial⟩⟩⟩⟩,⟨.refl _,⟨.refl _,⟨.refl _,trivial⟩⟩⟩⟩,trivial⟩⟩⟩⟩⟩⟩⟩,fun hb3=>⟨⟨rfl⟩,⟨⟨rfl⟩,⟨?s11,fun z1=>fun hz1=>⟨⟨rfl⟩,⟨⟨rfl⟩,⟨?x11,⟨⟨⟨⟨.refl _,⟨.refl _,⟨.refl _,⟨.refl _,⟨.refl _,trivial⟩⟩⟩⟩⟩,⟨.refl _ _ _ _ _,⟨⟨.refl _,⟨.refl _,⟨.refl _,⟨.refl _,trivial⟩⟩⟩⟩,⟨⟨?m44,⟨?m45,⟨?m46,⟨?m47,trivial⟩⟩⟩⟩,trivial⟩⟩⟩⟩,⟨.refl _,⟨.refl _,⟨.refl _,trivial⟩⟩⟩⟩,trivial⟩⟩⟩⟩⟩⟩⟩⟩⟩⟩⟩⟩⟩,⟨⟨rfl⟩,⟨⟨rfl⟩,⟨⟨rfl⟩,⟨⟨rfl⟩,Qae.2 ⟨fun hb4=>⟨⟨rfl⟩,⟨⟨rfl⟩,⟨?s12,fun z1=>fun hz1=>⟨⟨rfl⟩,⟨⟨rfl⟩,⟨?x12,⟨⟨⟨⟨.refl _,⟨.refl _,⟨.refl _,⟨.refl _,⟨.refl _,trivial⟩⟩⟩⟩⟩,⟨.refl _ _ _ _ _,⟨⟨.refl _,⟨.refl _,⟨.refl _,⟨.refl _,trivial⟩⟩⟩⟩,⟨⟨?m48,⟨?m49,⟨?m50,⟨?m51,trivial⟩⟩⟩⟩,trivial⟩⟩⟩⟩,⟨.refl _,⟨.refl _,⟨.refl _,trivial⟩⟩⟩⟩,trivial⟩⟩⟩⟩⟩⟩⟩,fun hb4=>⟨⟨rfl⟩,⟨⟨rfl⟩,⟨?s13,fun z1=>fun hz1=>⟨⟨rfl⟩,⟨⟨rfl⟩,⟨?x13,⟨⟨⟨⟨.refl _,⟨.refl _,⟨.refl _,⟨.refl _,⟨.refl _,trivial⟩⟩⟩⟩⟩,⟨.refl _ _ _ _ _,⟨⟨.refl _,⟨.refl _,⟨.refl _,⟨.refl _,trivial⟩⟩⟩⟩,⟨⟨?m52,⟨?m53,⟨?m54,⟨?m55,trivial⟩⟩⟩⟩,trivial⟩⟩⟩⟩,⟨.refl _,⟨.refl _,⟨.refl _,trivial⟩⟩⟩⟩,trivial⟩⟩⟩⟩⟩⟩⟩⟩⟩⟩⟩⟩⟩⟩,fun z1=>fun _=>⟨trivial,Qae.2 ⟨fun hb5=>?m56,fun hb5=>?m57⟩⟩⟩
   all_goals try exact ()
   all_goals try exact ⟨by omega,by omega,by omega⟩
   all_goals try (first
    | (have hz := hz1.trans E1
       clear hz1
       subst hz
       first | exact SubB.refl _ | exact Qai rfl ZR.1 | exact Qai rfl ZR.2)
    | (have hz := hz1.trans (E2 (V0 (by assumption)))
       clear hz1
       subst hz
       first | exact SubB.refl _ | exact Qai rfl ZR.1 | exact Qai rfl ZR.2))
   all_goals simp only [decide_eq_true_eq,decide_eq_false_iff_not] at *
   case m56 =>
    have h1:valL A key+q=0:=Qmm.1 (Qj4.1 hb5)
    refine QaA (Qd9 rfl (.refl _) rfl rfl rfl ?_)
    repeat' first | exact SubB.refl _ | exact trivial | exact Qrv hc h1 | refine And.intro ?_ ?_
   case m57 =>
    have h1:¬ valL A key+q=0:=fun h=>hb5 (Qj4.2 (Qmm.2 h))
    refine QaA (Qd9 rfl (.refl _) rfl rfl rfl ?_)
    repeat' first | exact SubB.refl _ | exact trivial | exact Qrt hc rfl h1 ZR.1 ZR.2 | refine And.intro ?_ ?_
 · cases hs
end Go.Proofs.YtmbmbcamecfnkaaGreatDoor
namespace Go.Proofs.YtmbmbcamecfnkaaGreatDoor
open Go.RowKit
set_option linter.unusedVariables false
set_option linter.unusedSimpArgs false
set_option maxRecDepth 100000
abbrev Ze:=Bool × List Nat × Nat
def lnP (K:List ByteArray) (C:List Ze) (n:Bool) (l:List Nat) (k:Nat):PV:=.agg [.f (.dt .str K),.f (.zs C),.f (.v (.bool n)),.f (.lr l k)]
def oddZ (c:Ze):Bool:=!Qak c.1 c.2.1 || decide (c.2.1.length=0)
def sOdd:Spec
 | [.agg [.f (.v (.bool n)),.f (.lr l k)]]=>some (some (k≤1000000),.one (bV (oddZ (n,l,k))))
 | _=>none
theorem cOdd {E:Env} (hU:Up E):Contract Tryz.prog E 72 sOdd:=by
 refine Qan [(73,Qgw)] [] Tryz.ntmps72 Tryz.func72 (by kernel_rfl) (by kernel_rfl) hU ⟨Qna hU,trivial⟩ trivial ?_
 intro xs p r hs hp
 unfold sOdd at hs
 split at hs
 · rename_i n l k
   cases hs
   refine ⟨[.agg [.f (.v (.bool n)),.f (.lr l k)]],[],.cons (.refl _) .nil,rfl,fun _ hsh=>?_⟩
   have h0:=hp _ rfl
   refine Qag (p:=k≤100000000∧ifB (!Qak n l) (true=true∧Sub (bV true) (bV (oddZ (n,l,k)))) (true=true∧Sub (bV ((↑l.length:Int)==(0:Int))) (bV (oddZ (n,l,k))))) ?kr ?_
   case kr=>kernel_rfl
   refine ⟨?s0,Qae.2 ⟨fun hb0=>⟨rfl,?m0⟩,fun hb0=>⟨rfl,?m1⟩⟩⟩
   case s0=>omega
   case m0 =>
    refine (QaT ?_).sub
    unfold oddZ
    rw [hb0]; rfl
   case m1 =>
    refine (QaT (n:=((l.length:Int)==0)) ?_).sub
    unfold oddZ
    rw [hb0,Bool.false_or,Bool.eq_iff_iff,beq_iff_eq,decide_eq_true_eq]
    show (l.length:Int)=0↔l.length=0
    omega
 · cases hs
def Qhk (C:List Ze):Int:=match C.findIdx? oddZ with | some i=>i | none=>-1
theorem QqU {C:List Ze} {i:Nat} (h:i<C.length):C.getD i (false,[],0)=C[i]:=by
 rw [List.getD_eq_getElem?_getD,List.getElem?_eq_getElem h]; rfl
theorem QpG {C:List Ze} {i:Nat} (hi:i<C.length) (h:oddZ (C.getD i (false,[],0))=true) (hk:∀ k,k<i→oddZ (C.getD k (false,[],0))=false):Qhk C=i:=by
 have e:C.findIdx? oddZ=some i:=by
  refine List.findIdx?_eq_some_iff_getElem.2 ⟨hi,by rw [← QqU hi]; exact h,fun j hj=>?_⟩
  rw [← QqU (by omega),hk j hj]; decide
 unfold Qhk
 rw [e]
theorem Qrp {C:List Ze} (hk:∀ k,k<C.length→oddZ (C.getD k (false,[],0))=false):Qhk C=-1:=by
 have e:C.findIdx? oddZ=none:=by
  refine List.findIdx?_eq_none_iff.2 fun x hx=>?_
  obtain ⟨j,hj,rfl⟩:=List.getElem_of_mem hx
  rw [← QqU hj]
  exact hk j hj
 unfold Qhk
 rw [e]
theorem QpH (C:List Ze):decide (Qhk C ≥ 0)=C.any oddZ:=by
 unfold Qhk
 cases e:C.findIdx? oddZ with
 | some i =>
  obtain ⟨hi,h1,-⟩:=List.findIdx?_eq_some_iff_getElem.1 e
  rw [List.any_eq_true.2 ⟨_,List.getElem_mem hi,h1⟩]
  exact decide_eq_true (Int.natCast_nonneg i)
 | none =>
  rw [List.any_eq_false.2 fun x hx=>by rw [List.findIdx?_eq_none_iff.1 e x hx]; decide]
  rfl
def Qtt:Spec
 | [.f (.zs C),.f (.v (.func (.func g) x z))]=>match Nat.beq g 72,x.size,z.size with
  | true,0,0=>some (some ((∀ c∈C,c.2.2≤1000000)∧C.length≤100000000),.one (iV (Qhk C)))
  | _,_,_=>none
 | _=>none
theorem cOddI {E:Env} (hU:Up E):Contract Tryz.prog E 150 Qtt:=by
 refine Qan [(72,sOdd)] [] Tryz.ntmps150 Tryz.func150 (by kernel_rfl) (by kernel_rfl) hU ⟨cOdd hU,trivial⟩ trivial ?_
 intro xs p r hs hp
 unfold Qtt at hs
 split at hs
 · rename_i C g x z
   split at hs
   · rename_i hg hx hz
     cases hs
     have hg:=Nat.eq_of_beq_eq_true hg
     subst hg
     obtain rfl:x=#[]:=Array.eq_empty_of_size_eq_zero hx
     obtain rfl:z=#[]:=Array.eq_empty_of_size_eq_zero hz
     obtain ⟨h1,h2⟩:=hp _ rfl
     refine ⟨[.f (.zs C),.f (.v (.func (.func 72) #[] #[]))],[(2,.s ⟨Nat,fun i=>⟨[(0,.f (.zs C)),(1,.f (.v (.func (.func 72) #[] #[]))),(7,iV C.length),(8,iV i)],[]⟩,fun i=>i≤C.length∧∀ k,k<i→oddZ (C.getD k (false,[],0))=false,fun i=>C.length - i⟩)],.cons (.refl _) (.cons (.refl _) .nil),rfl,fun _ hsh=>?_⟩
     have h0:=h1
     refine Qag (p:=∃ (x1:Nat),(True∧rfB (PV.f (Lf.zs C))∧rfB (PV.f (Lf.v (Value.func (Fn.func 72) #[] #[])))∧rfB (iV (↑C.length:Int))∧SubB (iV 0) (iV (↑x1:Int))∧True)∧(x1≤C.length∧∀ (k:Nat),k<x1→oddZ (C.getD k (false,[],0))=false)∧True∧∀ (z2:Nat),(z2≤C.length∧∀ (k:Nat),k<z2→oddZ (C.getD k (false,[],0))=false)→True→ifB (decide ((↑z2:Int)<(↑C.length:Int))) (((0:Int)≤(↑z2:Int)∧(↑z2:Int)<(↑C.length:Int))∧(C.getD (↑z2:Int).toNat (false,[],0)).snd.snd≤1000000∧ifB (oddZ ((C.getD (↑z2:Int).toNat (false,[],0)).fst,(C.getD (↑z2:Int).toNat (false,[],0)).snd.fst,(C.getD (↑z2:Int).toNat (false,[],0)).snd.snd)) (true=true∧Sub (iV (↑z2:Int)) (iV (Qhk C))) (∃ (x3:Nat),(True∧rfB (PV.f (Lf.zs C))∧rfB (PV.f (Lf.v (Value.func (Fn.func 72) #[] #[])))∧rfB (iV (↑C.length:Int))∧SubB (iV (IntKind.i64.wrap ((↑z2:Int)+(1:Int)))) (iV (↑x3:Int))∧True)∧(x3≤C.length∧∀ (k:Nat),k<x3→oddZ (C.getD k (false,[],0))=false)∧True∧(C.length - x3).succ.le (C.length - z2))) (true=true∧Sub (iV (-1:Int)) (iV (Qhk C)))) ?kr ?_
     case kr=>kernel_rfl
     refine ⟨?x0,⟨⟨trivial,⟨.refl _,⟨.refl _,⟨.refl _,⟨?m0,trivial⟩⟩⟩⟩⟩,⟨?s0,⟨trivial,fun z2=>fun hq0=>fun _=>Qae.2 ⟨fun hb1=>⟨?s1,⟨?s2,Qae.2 ⟨fun hb2=>⟨rfl,?m1⟩,fun hb2=>⟨?x1,⟨⟨trivial,⟨.refl _,⟨.refl _,⟨.refl _,⟨?m2,trivial⟩⟩⟩⟩⟩,⟨?s3,⟨trivial,?m3⟩⟩⟩⟩⟩⟩⟩,fun hb1=>⟨rfl,?m4⟩⟩⟩⟩⟩⟩
     case x0=>exact 0
     case x1=>exact z2+1
     all_goals try simp only [Int.toNat_natCast,decide_eq_true_eq,decide_eq_false_iff_not,Int.ofNat_lt] at *
     case m0=>exact .refl _
     case s0=>exact ⟨Nat.zero_le _,fun k hk=>absurd hk (Nat.not_lt_zero k)⟩
     case s1=>omega
     case s2=>exact h1 _ (by rw [QqU hb1]; exact List.getElem_mem hb1)
     case m1=>exact (QaM (QpG hb1 hb2 hq0.2).symm).sub
     case m2=>exact QaM (by rw [wJ _ (by omega) (by omega)]; rfl)
     case s3 =>
      refine ⟨hb1,fun k hk=>?_⟩
      by_cases hkz:k=z2
      · subst hkz; exact hb2
      · exact hq0.2 k (by omega)
     case m3=>exact (by omega:C.length - (z2+1)<C.length - z2)
     case m4 =>
      have hz:z2=C.length:=by omega
      subst hz
      exact (QaM (Qrp hq0.2).symm).sub
   · cases hs
 · cases hs
def Qtu:Spec
 | [.f (.zs C),.f (.v (.func (.func g) x z))]=>match Nat.beq g 72,x.size,z.size with
  | true,0,0=>some (some ((∀ c∈C,c.2.2≤1000000)∧C.length≤100000000),.one (bV (C.any oddZ)))
  | _,_,_=>none
 | _=>none
theorem cOddC {E:Env} (hU:Up E):Contract Tryz.prog E 74 Qtu:=by
 refine Qan [(150,Qtt)] [] Tryz.ntmps74 Tryz.func74 (by kernel_rfl) (by kernel_rfl) hU ⟨cOddI hU,trivial⟩ trivial ?_
 intro xs p r hs hp
 unfold Qtu at hs
 split at hs
 · rename_i C g x z
   split at hs
   · rename_i hg hx hz
     cases hs
     have hg:=Nat.eq_of_beq_eq_true hg
     subst hg
     obtain rfl:x=#[]:=Array.eq_empty_of_size_eq_zero hx
     obtain rfl:z=#[]:=Array.eq_empty_of_size_eq_zero hz
     refine ⟨[.f (.zs C),.f (.v (.func (.func 72) #[] #[]))],[],.cons (.refl _) (.cons (.refl _) .nil),rfl,fun _ hsh=>?_⟩
     have h0:=hp _ rfl
     refine Qag (p:=((∀ (c:Bool × List Nat × Nat),c∈C→c.snd.snd≤1000000)∧C.length≤100000000)∧true=true∧Sub (bV (decide (Qhk C ≥ (0:Int)))) (bV (C.any oddZ))) ?kr ?_
     case kr=>kernel_rfl
     refine ⟨?s0,⟨rfl,?m0⟩⟩
     case s0=>exact h0
     case m0=>exact (QaT (QpH C)).sub
   · cases hs
 · cases hs
def QhF (K:List ByteArray):Bool:=(List.range (K.length - 1)).all fun i=>decide (bs (K.getD i Sh.str.nil)<bs (K.getD (i+1) Sh.str.nil))
def QaX (K:List ByteArray) (C:List Ze) (n:Bool) (l:List Nat):Bool:=QhF K && (decide (K.length=C.length) && (Qak n l && !C.any oddZ))
theorem QtZ (a b:ByteArray):Op.bytesLess (ByteArray.toList a) (ByteArray.toList b)=decide (bs a<bs b):=by
 have e:∀ c:ByteArray,c.toList=bs c:=fun c=>by
  obtain ⟨⟨l⟩⟩:=c
  exact ByteArray.toList_mk ..
 rw [bytesLess_eq,e,e]
theorem QgC {K:List ByteArray}:QhF K=true↔∀ i,i+1<K.length→bs (K.getD i Sh.str.nil)<bs (K.getD (i+1) Sh.str.nil):=by
 unfold QhF
 rw [List.all_eq_true]
 constructor
 · intro h i hi
   exact of_decide_eq_true (h i (List.mem_range.2 (by omega)))
 · intro h i hi
   have:=List.mem_range.1 hi
   exact decide_eq_true (h i (by omega))
def QfP:Spec
 | [.agg [.f (.dt .str K),.f (.zs C),.f (.v (.bool n)),.f (.lr l k)]]=>some (some ((∀ c∈C,c.2.2≤1000000)∧(C.length≤100000000∧K.length≤100000000)∧k≤1000000),.one (bV (QaX K C n l)))
 | _=>none
set_option maxHeartbeats 4000000 in
theorem Qm9 {E:Env} (hU:Up E):Contract Tryz.prog E 15 QfP:=by
 refine Qan [(73,Qgw),(74,Qtu)] [] Tryz.ntmps15 Tryz.func15 (by kernel_rfl) (by kernel_rfl) hU ⟨Qna hU,cOddC hU,trivial⟩ trivial ?_
 intro xs p r hs hp
 unfold QfP at hs
 split at hs
 · rename_i K C n l k
   cases hs
   obtain ⟨h1,⟨h2,h3⟩,h4⟩:=hp _ rfl
   refine ⟨[lnP K C n l k],[(3,.s ⟨Nat,fun i=>⟨[(1,.bp 0 0),(3,.f (.v (.func (.func 72) #[] #[]))),(4,iV ((i:Int)+1))],[.cells [.f (.dt .str K),.f (.zs C),.f (.v (.bool n)),.f (.lr l k)]]⟩,fun i=>i≤K.length∧∀ j,j<i→bs (K.getD j Sh.str.nil)<bs (K.getD (j+1) Sh.str.nil),fun i=>K.length+1 - i⟩)],.cons (.refl _) .nil,rfl,fun _ hsh=>?_⟩
   have h0:=h1
   refine Qag (p:=let A0:=true=true∧Sub (bV false) (bV (QaX K C n l)); let A1:=(rfB (dP Sh.str K)∧rfB (PV.f (Lf.zs C))∧rfB (bV n)∧rfB (PV.f (Lf.lr l k))∧True)∧True; ∃ (x1:Nat),(A1∧rfB (PV.bp 0 0)∧rfB (PV.f (Lf.v (Value.func (Fn.func 72) #[] #[])))∧SubB (iV 1) (iV ((↑x1:Int)+(1:Int)))∧True)∧(x1≤K.length∧∀ (j:Nat),j<x1→bs (K.getD j Sh.str.nil)<bs (K.getD (j+1) Sh.str.nil))∧True∧∀ (z2:Nat),(z2≤K.length∧∀ (j:Nat),j<z2→bs (K.getD j Sh.str.nil)<bs (K.getD (j+1) Sh.str.nil))→True→ifB (decide ((↑z2:Int)+(1:Int)<(↑K.length:Int))) (((0:Int)≤IntKind.i64.wrap ((↑z2:Int)+(1:Int) - (1:Int))∧IntKind.i64.wrap ((↑z2:Int)+(1:Int) - (1:Int))<(↑K.length:Int))∧((0:Int)≤(↑z2:Int)+(1:Int)∧(↑z2:Int)+(1:Int)<(↑K.length:Int))∧ifB (!Op.bytesLess (ByteArray.toList (K.getD (IntKind.i64.wrap ((↑z2:Int)+(1:Int) - (1:Int))).toNat Sh.str.nil)) (ByteArray.toList (K.getD ((↑z2:Int)+(1:Int)).toNat Sh.str.nil))) A0 (∃ (x3:Nat),(A1∧rfB (PV.bp 0 0)∧rfB (PV.f (Lf.v (Value.func (Fn.func 72) #[] #[])))∧SubB (iV (IntKind.i64.wrap ((↑z2:Int)+(1:Int)+(1:Int)))) (iV ((↑x3:Int)+(1:Int)))∧True)∧(x3≤K.length∧∀ (j:Nat),j<x3→bs (K.getD j Sh.str.nil)<bs (K.getD (j+1) Sh.str.nil))∧True∧(K.length+1 - x3).succ.le (K.length+1 - z2))) (ifB ((↑K.length:Int)==(↑C.length:Int)) (k≤100000000∧ifB (Qak n l) (((∀ (c:Bool × List Nat × Nat),c∈C→c.snd.snd≤1000000)∧C.length≤100000000)∧true=true∧Sub (bV (!C.any oddZ)) (bV (QaX K C n l))) A0) A0)) ?kr ?_
   case kr=>kernel_rfl
   conv=>zeta
   refine ⟨?x0,⟨⟨⟨⟨.refl _,⟨.refl _,⟨.refl _,⟨.refl _,trivial⟩⟩⟩⟩,trivial⟩,⟨.refl _,⟨?m0,⟨?m1,trivial⟩⟩⟩⟩,⟨?s0,⟨trivial,fun z2=>fun hq0=>fun _=>Qae.2 ⟨fun hb1=>⟨?s1,⟨?s2,Qae.2 ⟨fun hb2=>⟨rfl,?m2⟩,fun hb2=>⟨?x1,⟨⟨⟨⟨.refl _,⟨.refl _,⟨.refl _,⟨.refl _,trivial⟩⟩⟩⟩,trivial⟩,⟨.refl _,⟨.refl _,⟨?m3,trivial⟩⟩⟩⟩,⟨?s3,⟨trivial,?m4⟩⟩⟩⟩⟩⟩⟩,fun hb1=>Qae.2 ⟨fun hb3=>⟨?s4,Qae.2 ⟨fun hb4=>⟨?s5,⟨rfl,?m5⟩⟩,fun hb4=>⟨rfl,?m6⟩⟩⟩,fun hb3=>⟨rfl,?m7⟩⟩⟩⟩⟩⟩⟩
   case x0=>exact 0
   case x1=>exact z2+1
   all_goals try simp only [QtZ,Bool.not_eq_true',Bool.not_eq_false',decide_eq_true_eq,decide_eq_false_iff_not,beq_iff_eq,beq_eq_false_iff_ne,ne_eq] at *
   case m0=>exact .refl _
   case m1=>exact .refl _
   case s0=>exact ⟨Nat.zero_le _,fun j hj=>absurd hj (Nat.not_lt_zero j)⟩
   case s1=>rw [wJ _ (by omega) (by omega)]; omega
   case s2=>omega
   case m2 =>
    rw [wJ _ (by omega) (by omega),show ((z2:Int)+1 - 1).toNat=z2 by omega,show ((z2:Int)+1).toNat=z2+1 by omega] at hb2
    refine (QaT ?_).sub
    unfold QaX
    rw [Bool.eq_false_iff.2 fun h=>hb2 (QgC.1 h z2 (by omega))]
    rfl
   case m3=>exact QaM (by rw [wJ _ (by omega) (by omega)]; rfl)
   case s3 =>
    rw [wJ _ (by omega) (by omega),show ((z2:Int)+1 - 1).toNat=z2 by omega,show ((z2:Int)+1).toNat=z2+1 by omega] at hb2
    refine ⟨by omega,fun j hj=>?_⟩
    by_cases hjz:j=z2
    · subst hjz; exact hb2
    · exact hq0.2 j (by omega)
   case m4=>exact (by omega:K.length+1 - (z2+1)<K.length+1 - z2)
   case s4=>omega
   case s5=>exact ⟨h1,h2⟩
   all_goals have hr:QhF K=true:=QgC.2 fun i hi=>hq0.2 i (by omega)
   case m5 =>
    refine (QaT ?_).sub
    unfold QaX
    rw [hr,hb4,decide_eq_true (by omega:K.length=C.length)]; rfl
   case m6 =>
    refine (QaT ?_).sub
    unfold QaX
    rw [hr,hb4,decide_eq_true (by omega:K.length=C.length)]; rfl
   case m7 =>
    refine (QaT ?_).sub
    unfold QaX
    rw [hr,decide_eq_false (by omega:¬ K.length=C.length)]; rfl
 · cases hs
end Go.Proofs.YtmbmbcamecfnkaaGreatDoor
namespace Go.Proofs.YtmbmbcamecfnkaaGreatDoor
open Go.RowKit
set_option linter.unusedVariables false
set_option linter.unusedSimpArgs false
set_option maxRecDepth 100000
def Ql8:Spec2
 | [.wr 0],[.map .str has get [] []]=>some (.ret (.fn 228 [] [.bp 1 0]) [.map .str has get [] [],.cells [.wr 0]])
 | _,_=>none
def isL (has:Kt.T .str→Bool) (get:Kt.T .str→List Lf):Prop:=∃ A:Lz,canL A∧fitL 5000 A∧(A.length≤1000000∧∀ x∈A,x.1.size≤maxLen)∧has=hasL A∧get=getL 5000 A
noncomputable def sSortedM:Spec2
 | [.fn f [] [.bp 0 0]],[.cells [.wr 1],.map .str has get [] []]=>match Nat.beq f 228 with
  | true=>some (.need (isL has get) (.nm Lz (lzOf 5000 has get) fun A=>.ret (.f (.dt .str (A.map (·.1)))) [.cells [.wr 1],.map .str has get [] []]))
  | false=>none
 | _,_=>none
noncomputable def sParts:Spec2
 | [.bp 0 0],[.cells [.f (.zn a),.f (.zd b k3),.f (.zn e),.f (.zd f j3),.wr 1],.map .str has get [] []] =>
  some (.need (isL has get) (.nm Lz (lzOf 5000 has get) fun A=>.ret (.tup [.f (.dt .str (A.map (·.1))),.f (.qs (A.map fun x=>rawE 5000 x.2))]) [.cells [.f (.zn a),.f (.zd b k3),.f (.zn e),.f (.zd f j3),.wr 1],.map .str has get [] []]))
 | _,_=>none
def QbD (A:Lz) (i:Nat):List (List Lf):=(A.take i).map fun x=>qC 5000 x.2
theorem Qrf {A:Lz}:Qgo (.row 4 (QbD A A.length))=some (A.map fun x=>rawE 5000 x.2):=by
 show QkP (QbD A A.length)=_
 unfold QbD
 rw [List.take_length]
 induction A with
 | nil=>rfl
 | cons x A ih =>
  rw [List.map_cons,List.map_cons,QkP,ent_qC,ih]
theorem Qpp {A:Lz} {i:Nat} (h:i<A.length):QbD A (i+1)=QbD A i++[qC 5000 (A.getD i (Sh.str.nil,0)).2]:=by
 unfold QbD
 rw [List.take_add_one,List.getElem?_eq_getElem h,List.map_append,List.getD_eq_getElem?_getD,List.getElem?_eq_getElem h]; rfl
theorem QsC {A:Lz} {i:Nat} (h:i<A.length):(A.map (·.1)).getD i Sh.str.nil=(A.getD i (Sh.str.nil,0)).1:=by
 rw [List.getD_eq_getElem?_getD,List.getElem?_map,List.getD_eq_getElem?_getD,List.getElem?_eq_getElem h]; rfl
set_option maxHeartbeats 4000000 in
theorem cParts {E:Env} (hU:Up E) (hK:Contract2 Tryz.prog E 148 Ql8) (hS:Contract2 Tryz.prog E 147 sSortedM):Contract2 Tryz.prog E 71 sParts:=by
 refine contract2 [] [(148,Ql8),(147,sSortedM)] Tryz.ntmps71 Tryz.func71 (by kernel_rfl) (by kernel_rfl) hU trivial ⟨hK,hS,trivial⟩ ?_
 intro xs ob o hs hok
 unfold sParts at hs
 split at hs
 · rename_i a b k3 e f j3 has get
   cases hs
   obtain ⟨⟨A,hc,hf,⟨hl,hl2⟩,rfl,rfl⟩,-⟩:=hok
   rw [Qbe hc]
   refine ⟨[.bp 0 0],[(3,.s ⟨Nat,fun i=>⟨[(0,.bp 0 0),(2,.f (.dt .str (A.map (·.1)))),(3,.tl 3 (.row 4 (QbD A i))),(12,.f (.dt .str (A.map (·.1)))),(13,iV (A.map (·.1)).length),(14,iV i)],[.cells [.f (.zn a),.f (.zd b k3),.f (.zn e),.f (.zd f j3),.wr 1],.map .str (hasL A) (getL 5000 A) [] [],.cells [.wr 1],.tail 52 4]⟩,fun i=>i≤A.length,fun i=>A.length - i⟩)],.cons (.refl _) .nil,rfl,fun _ hsh=>?_⟩
   have h0:=hf
   refine Qag (p:=isL (hasL A) (getL 5000 A)∧∀ (z1:Lz),z1=lzOf 5000 (hasL A) (getL 5000 A)→∃ (x2:Nat),(((rfB (PV.f (Lf.zn a))∧rfB (PV.f (Lf.zd b k3))∧rfB (PV.f (Lf.zn e))∧rfB (PV.f (Lf.zd f j3))∧rfB (PV.wr 1)∧True)∧MapW Kt.str (fun (s:Kt.str.T)=>List.any A fun (x:ByteArray × Rat)=>decide (x.fst=s)) (fun (s:Kt.str.T)=>qC 5000 (valL A s)) [] [] Kt.str (fun (s:Kt.str.T)=>List.any A fun (x:ByteArray × Rat)=>decide (x.fst=s)) (fun (s:Kt.str.T)=>qC 5000 (valL A s)) [] []∧(rfB (PV.wr 1)∧True)∧True)∧rfB (PV.bp 0 0)∧SubB (dP Sh.str (List.map (fun (x:ByteArray × Rat)=>x.fst) z1)) (dP Sh.str (List.map (fun (x:ByteArray × Rat)=>x.fst) A))∧QdA (PV.tl 3 (Lf.row 4 (QbD A x2)))∧SubB (dP Sh.str (List.map (fun (x:ByteArray × Rat)=>x.fst) z1)) (dP Sh.str (List.map (fun (x:ByteArray × Rat)=>x.fst) A))∧SubB (iV (↑(List.map (fun (x:ByteArray × Rat)=>x.fst) z1).length:Int)) (iV (↑(List.map (fun (x:ByteArray × Rat)=>x.fst) A).length:Int))∧SubB (iV 0) (iV (↑x2:Int))∧True)∧x2≤List.length A∧True∧∀ (z3:Nat),z3≤List.length A→True→ifB (decide ((↑z3:Int)<(↑(List.map (fun (x:ByteArray × Rat)=>x.fst) A).length:Int))) (((0:Int)≤(↑z3:Int)∧(↑z3:Int)<(↑(List.map (fun (x:ByteArray × Rat)=>x.fst) A).length:Int))∧ifB (hasL A ((List.map (fun (x:ByteArray × Rat)=>x.fst) A).getD (↑z3:Int).toNat Sh.str.nil)) (((QbD A z3).length+1≤9223372036854775807∧((QbD A z3).length+1) * 64≤140737488355328)∧∃ (x4:Nat),(((rfB (PV.f (Lf.zn a))∧rfB (PV.f (Lf.zd b k3))∧rfB (PV.f (Lf.zn e))∧rfB (PV.f (Lf.zd f j3))∧rfB (PV.wr 1)∧True)∧MapW Kt.str (fun (s:Kt.str.T)=>List.any A fun (x:ByteArray × Rat)=>decide (x.fst=s)) (fun (s:Kt.str.T)=>qC 5000 (valL A s)) [] [] Kt.str (fun (s:Kt.str.T)=>List.any A fun (x:ByteArray × Rat)=>decide (x.fst=s)) (fun (s:Kt.str.T)=>qC 5000 (valL A s)) [] []∧(rfB (PV.wr 1)∧True)∧True)∧rfB (PV.bp 0 0)∧rfB (dP Sh.str (List.map (fun (x:ByteArray × Rat)=>x.fst) A))∧SubB (PV.tl 3 (Lf.row 4 (QbD A z3++[[Lf.zn (valL A ((List.map (fun (x:ByteArray × Rat)=>x.fst) A).getD (↑z3:Int).toNat Sh.str.nil)).num,Lf.zd (valL A ((List.map (fun (x:ByteArray × Rat)=>x.fst) A).getD (↑z3:Int).toNat Sh.str.nil)).num 5000,Lf.zn (↑(valL A ((List.map (fun (x:ByteArray × Rat)=>x.fst) A).getD (↑z3:Int).toNat Sh.str.nil)).den:Int),Lf.zd (↑(valL A ((List.map (fun (x:ByteArray × Rat)=>x.fst) A).getD (↑z3:Int).toNat Sh.str.nil)).den:Int) 5000]]))) (PV.tl 3 (Lf.row 4 (QbD A x4)))∧rfB (dP Sh.str (List.map (fun (x:ByteArray × Rat)=>x.fst) A))∧rfB (iV (↑(List.map (fun (x:ByteArray × Rat)=>x.fst) A).length:Int))∧SubB (iV (IntKind.i64.wrap ((↑z3:Int)+(1:Int)))) (iV (↑x4:Int))∧True)∧x4≤List.length A∧True∧(List.length A - x4).succ.le (List.length A - z3)) (((QbD A z3).length+1≤9223372036854775807∧((QbD A z3).length+1) * 64≤140737488355328)∧∃ (x4:Nat),(((rfB (PV.f (Lf.zn a))∧rfB (PV.f (Lf.zd b k3))∧rfB (PV.f (Lf.zn e))∧rfB (PV.f (Lf.zd f j3))∧rfB (PV.wr 1)∧True)∧MapW Kt.str (fun (s:Kt.str.T)=>List.any A fun (x:ByteArray × Rat)=>decide (x.fst=s)) (fun (s:Kt.str.T)=>qC 5000 (valL A s)) [] [] Kt.str (fun (s:Kt.str.T)=>List.any A fun (x:ByteArray × Rat)=>decide (x.fst=s)) (fun (s:Kt.str.T)=>qC 5000 (valL A s)) [] []∧(rfB (PV.wr 1)∧True)∧True)∧rfB (PV.bp 0 0)∧rfB (dP Sh.str (List.map (fun (x:ByteArray × Rat)=>x.fst) A))∧SubB (PV.tl 3 (Lf.row 4 (QbD A z3++[[Lf.v (Value.bool false),Lf.v (Value.slice none 0 0),Lf.v (Value.bool false),Lf.v (Value.slice none 0 0)]]))) (PV.tl 3 (Lf.row 4 (QbD A x4)))∧rfB (dP Sh.str (List.map (fun (x:ByteArray × Rat)=>x.fst) A))∧rfB (iV (↑(List.map (fun (x:ByteArray × Rat)=>x.fst) A).length:Int))∧SubB (iV (IntKind.i64.wrap ((↑z3:Int)+(1:Int)))) (iV (↑x4:Int))∧True)∧x4≤List.length A∧True∧(List.length A - x4).succ.le (List.length A - z3))) (EndU 2 (Out.need (isL (hasL A) (getL 5000 A)) (Out.nm Lz A fun (A_1:Lz)=>Out.ret (PV.tup [dP Sh.str (List.map (fun (x:ByteArray × Rat)=>x.fst) A_1),PV.f (Lf.qs (List.map (fun (x:ByteArray × Rat)=>rawE 5000 x.snd) A_1))]) [PO.cells [PV.f (Lf.zn a),PV.f (Lf.zd b k3),PV.f (Lf.zn e),PV.f (Lf.zd f j3),PV.wr 1],PO.map Kt.str (hasL A) (getL 5000 A) [] []])).fin true (PV.tup [dP Sh.str (List.map (fun (x:ByteArray × Rat)=>x.fst) A),PV.f (Lf.row 4 (QbD A z3))]) [PO.cells [PV.f (Lf.zn a),PV.f (Lf.zd b k3),PV.f (Lf.zn e),PV.f (Lf.zd f j3),PV.wr 1],PO.map Kt.str (hasL A) (getL 5000 A) [] [],PO.cells [PV.wr 1],PO.tail 52 4])) ?kr ?_
   case kr=>kernel_rfl
   refine ⟨?s0,fun z1=>fun hz1=>⟨?x0,⟨?s1,⟨?s2,⟨trivial,fun z3=>fun hq0=>fun _=>Qae.2 ⟨fun hb1=>⟨?s3,Qae.2 ⟨fun hb2=>⟨?s4,⟨?x1,⟨⟨⟨⟨.refl _,⟨.refl _,⟨.refl _,⟨.refl _,⟨.refl _,trivial⟩⟩⟩⟩⟩,⟨.refl _ _ _ _ _,⟨⟨.refl _,trivial⟩,trivial⟩⟩⟩,⟨.refl _,⟨.refl _,⟨?m0,⟨.refl _,⟨.refl _,⟨?m1,trivial⟩⟩⟩⟩⟩⟩⟩,⟨?s5,⟨trivial,?m2⟩⟩⟩⟩⟩,fun hb2=>⟨?s6,⟨?x2,⟨⟨⟨⟨.refl _,⟨.refl _,⟨.refl _,⟨.refl _,⟨.refl _,trivial⟩⟩⟩⟩⟩,⟨.refl _ _ _ _ _,⟨⟨.refl _,trivial⟩,trivial⟩⟩⟩,⟨.refl _,⟨.refl _,⟨?m3,⟨.refl _,⟨.refl _,⟨?m4,trivial⟩⟩⟩⟩⟩⟩⟩,⟨?s7,⟨trivial,?m5⟩⟩⟩⟩⟩⟩⟩,fun hb1=>?m6⟩⟩⟩⟩⟩⟩
   case x0=>exact 0
   case x1=>exact z3+1
   case x2=>exact z3+1
   all_goals try simp only [decide_eq_true_eq,decide_eq_false_iff_not,Int.toNat_natCast,List.length_map,Int.ofNat_lt] at *
   case s0=>exact ⟨A,hc,hf,⟨hl,hl2⟩,rfl,rfl⟩
   all_goals (obtain rfl:z1=A:=hz1.trans (Qbe hc))
   case s1=>repeat' first | exact SubB.refl _ | exact MapW.refl _ _ _ _ _ | exact trivial | exact rfl | refine And.intro ?_ ?_
   case s2=>exact Nat.zero_le _
   case m6 =>
    have hz:z3=z1.length:=by omega
    subst hz
    refine QaA (Qd9 rfl (Qnq (.cons (.refl _) (.cons (Qgn (Qhy Qrf)) .nil))) rfl rfl rfl ?_)
    repeat' first | exact SubB.refl _ | exact MapW.refl _ _ _ _ _ | exact trivial | refine And.intro ?_ ?_
   all_goals have hlt:z3<List.length z1:=by omega
   all_goals have hrl:(QbD z1 z3).length≤z3:=by unfold QbD; rw [List.length_map,List.length_take]; omega
   all_goals have hv:=Qeh hc _ (gotD (Sh.str.nil,(0:Rat)) hlt)
   case s3=>omega
   case s4=>omega
   case s6=>omega
   case s5=>exact hlt
   case s7=>exact hlt
   case m0=>exact QoX (by rw [Qpp hlt,QsC hlt,hv]; rfl)
   case m1=>exact QaM (by rw [wJ _ (by omega) (by omega)]; rfl)
   case m2=>exact (by omega:List.length z1 - (z3+1)<List.length z1 - z3)
   case m3 =>
    rw [QsC hlt] at hb2
    rw [Qf1.2 ⟨_,gotD (Sh.str.nil,(0:Rat)) hlt,rfl⟩] at hb2
    cases hb2
   case m4=>exact QaM (by rw [wJ _ (by omega) (by omega)]; rfl)
   case m5=>exact (by omega:List.length z1 - (z3+1)<List.length z1 - z3)
 · cases hs
end Go.Proofs.YtmbmbcamecfnkaaGreatDoor
