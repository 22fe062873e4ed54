/- The layer cong: Apply; the laws of chapter 8: what they are made of. -/
import Derived.Test.YtemhncjjiomppaaGreatDoorCd
import Derived.Test.YtemhncjjiomppaaGreatDoorCc
import Derived.Test.YtemhncjjiomppaaGreatDoorCn
import Derived.Test.YtemhncjjiomppaaGreatDoorTf
set_option linter.unusedSimpArgs false
namespace Go.Proofs.YtemhncjjiomppaaGreatDoor
open Go.RowKit
set_option linter.unusedVariables false
set_option maxRecDepth 100000
def QkZ:Spec2
 | [.fn 59 [] [.bp 0 0,.bp 1 0,.bp 2 0,.bp 3 0,.bp 4 0]],[.cells [.f (.dt .tm L)],.cells [.f (.v (.int .i64 n))],.cells [.f (.dt .dat D)],.cells [.f (.dt .srt S)],.cells [.f (.v (.string s))]] =>
  some (.need (s.size≤4611686018427387904∧∀ t∈L,t.fitT) (.nm (Except Int Tw) (Qax D S L n s) fun z=>.ret (.tup [tmP (valE Sh.tm.nil z),iV (errE z)]) [.cells [.f (.dt .tm L)],.cells [.f (.v (.int .i64 n))],.cells [.f (.dt .dat D)],.cells [.f (.dt .srt S)],.cells [.f (.v (.string s))]]))
 | _,_=>none
theorem Qvm {E:Env} (hU:Up E):Contract2 Tryz.prog E 54 QkZ:=by
 refine QbY (cf:=102) [] [(59,Qlh)] Tryz.ntmps54 Tryz.func54 rfl (by kernel_rfl) hU trivial ⟨QvP hU,trivial⟩ rfl rfl rfl rfl rfl rfl Tryz.ntmps102 Tryz.func102 rfl rfl rfl rfl rfl rfl rfl (by kernel_rfl) (by kernel_rfl) (by kernel_rfl) ?_
 intro xs ob o hs hok
 unfold QkZ at hs
 split at hs
 · rename_i L n D S s
   cases hs
   obtain ⟨⟨hs1,hL⟩,-⟩:=hok
   refine ⟨[.fn 59 [] [.bp 0 0,.bp 1 0,.bp 2 0,.bp 3 0,.bp 4 0]],.cons (.refl _) .nil,rfl,?_⟩
   refine Qab (p:=(s.size≤4611686018427387904∧∀ (t:Sh.tm.T),t∈L→Tw.fitT t)∧∀ (z1:Except Int Sh.tm.T),z1=Qax D S L n s→ifB (okE z1) (EndU 5 (Out.need (s.size≤4611686018427387904∧∀ (t:Sh.tm.T),t∈L→Tw.fitT t) (Out.nm (Except Int Tw) (Qax D S L n s) fun (z:Except Int Tw)=>Out.ret (PV.tup [tmP (valE Sh.tm.nil z),iV (errE z)]) [PO.cells [dP Sh.tm L],PO.cells [iV n],PO.cells [dP Sh.dat D],PO.cells [dP Sh.srt S],PO.cells [sV s]])).fin true (PV.tup [PV.agg (Qac (tmC (valE Sh.tm.nil z1))),iV 0]) [PO.cells [dP Sh.tm L],PO.cells [iV n],PO.cells [dP Sh.dat D],PO.cells [dP Sh.srt S],PO.cells [sV s],PO.cells (Qac (tmC (valE Sh.tm.nil z1))),PO.cells [iV 0]]) (EndU 5 (Out.need (s.size≤4611686018427387904∧∀ (t:Sh.tm.T),t∈L→Tw.fitT t) (Out.nm (Except Int Tw) (Qax D S L n s) fun (z:Except Int Tw)=>Out.ret (PV.tup [tmP (valE Sh.tm.nil z),iV (errE z)]) [PO.cells [dP Sh.tm L],PO.cells [iV n],PO.cells [dP Sh.dat D],PO.cells [dP Sh.srt S],PO.cells [sV s]])).fin true (PV.tup [PV.agg zTP,iV (errE z1)]) [PO.cells [dP Sh.tm L],PO.cells [iV n],PO.cells [dP Sh.dat D],PO.cells [dP Sh.srt S],PO.cells [sV s],PO.cells zTP,PO.cells [iV (errE z1)]])) ?kr ?_
   case kr=>kernel_rfl
   refine ⟨?s0,fun z1=>fun hz1=>Qaa.2 ⟨fun hb0=>?m0,fun hb0=>?m1⟩⟩
   case s0=>exact ⟨hs1,hL⟩
   case m0 =>
    obtain ⟨x,rfl⟩:=QjK hb0
    exact endR (pv:=fun z=>.tup [tmP (valE Sh.tm.nil z),iV (errE z)]) hz1 (.refl (.tup [tmP x,iV 0])) rfl rfl rfl
   case m1 =>
    obtain e | x:=z1
    · exact endR (pv:=fun z=>.tup [tmP (valE Sh.tm.nil z),iV (errE z)]) hz1 (tupBs (.cons (QaS (t:=Sh.tm.nil) rfl) (.cons (.refl _) .nil))) rfl rfl rfl
    · cases hb0
 · cases hs
def Qmi:Spec
 | [.f x,.f y,.f z,.f (.v (.int .i64 n)),.f (.v (.string s))]=>match dtOf .dat x,dtOf .srt y,dtOf .tm z with
  | some D,some S,some L=>some (some (s.size≤4611686018427387904∧∀ t∈L,t.fitT),.nm (Except Int Tw) (Qax D S L n s) fun z=>.tup [tmP (valE Sh.tm.nil z),iV (errE z)])
  | _,_,_=>none
 | _=>none
theorem Qtu {E:Env} (hU:Up E):Contract Tryz.prog E 23 Qmi:=by
 refine Qad [] [(54,QkZ)] Tryz.ntmps23 Tryz.func23 (by kernel_rfl) (by kernel_rfl) hU trivial ⟨Qvm hU,trivial⟩ ?_
 intro xs p r hs hp
 unfold Qmi at hs
 split at hs
 · rename_i x y z n s
   split at hs
   · rename_i D S L h1 h2 h3
     cases hs
     obtain ⟨hs1,hL⟩:=hp _ rfl
     refine ⟨[.f (.dt .dat D),.f (.dt .srt S),.f (.dt .tm L),.f (.v (.int .i64 n)),.f (.v (.string s))],[],.cons (Qby h1).sub (.cons (Qby h2).sub (.cons (Qby h3).sub (.cons (.refl _) (.cons (.refl _) .nil)))),rfl,fun _ hsh=>?_⟩
     have h0:=hs1
     refine Qab (p:=(s.size≤4611686018427387904∧∀ (t:Sh.tm.T),t∈L→Tw.fitT t)∧∀ (z1:Except Int Tw),z1=Qax D S L n s→true=true∧Sub (PV.tup [PV.agg (Qac (tmC (valE Sh.tm.nil z1))),iV (errE z1)]) (PV.tup [PV.agg (Qac (tmC (valE Sh.tm.nil (Qax D S L n s)))),iV (errE (Qax D S L n s))])) ?kr ?_
     case kr=>kernel_rfl
     refine ⟨?s0,fun z1=>fun hz1=>⟨rfl,?m0⟩⟩
     all_goals try simp only [Tw.eta] at *
     case s0=>exact ⟨hs1,hL⟩
     case m0=>subst hz1; exact .refl _
   · cases hs
 · cases hs
def varC (s:ByteArray):Tw:=.mk 1 s false [] []
def sV8:Spec
 | [.f (.v (.string s))]=>some (none,.one (tmP (varC s)))
 | _=>none
theorem cV8 {E:Env} (hU:Up E):Contract Tryz.prog E 44 sV8:=by
 refine Qad [] [] Tryz.ntmps44 Tryz.func44 (by kernel_rfl) (by kernel_rfl) hU trivial trivial ?_
 intro xs p r hs hp
 unfold sV8 at hs
 split at hs
 · rename_i s
   cases hs
   refine ⟨[.f (.v (.string s))],[],.cons (.refl _) .nil,rfl,fun _ hsh=>?_⟩
   refine Qab (p:=true=true∧Sub (PV.agg [uV 1,sV s,bV false,nlP,nlP]) (PV.agg [uV ((varC s).kind),sV ((varC s).name),bV ((varC s).neg),PV.f (Lf.lr (varC s).digits 0),dP Sh.tm []])) ?kr ?_
   case kr=>kernel_rfl
   refine ⟨rfl,?m0⟩
   case m0=>exact (QaS (t:=varC s) rfl).sub
 · cases hs
def sEq8:Spec
 | [y,z]=>match tmOf y,tmOf z with
  | some p,some q=>some (none,.one (tmP (eqT p q)))
  | _,_=>none
 | _=>none
theorem cEq8 {E:Env} (hU:Up E):Contract Tryz.prog E 43 sEq8:=by
 refine Qad [] [] Tryz.ntmps43 Tryz.func43 (by kernel_rfl) (by kernel_rfl) hU trivial trivial ?_
 intro xs p r hs hp
 unfold sEq8 at hs
 split at hs
 · rename_i y z
   split at hs
   · rename_i p q h1 h2
     cases hs
     refine ⟨[tmP p,tmP q],[],.cons (QaS h1).sub (.cons (QaS h2).sub .nil),rfl,fun _ hsh=>?_⟩
     have h0:=h1
     refine Qab (p:=true=true∧Sub (PV.agg [uV 8,sV (ByteArray.mk #[]),bV false,nlP,dP Sh.tm [etaT p,etaT q]]) (PV.agg [uV ((eqT p q).kind),sV ((eqT p q).name),bV ((eqT p q).neg),PV.f (Lf.lr (eqT p q).digits 0),dP Sh.tm [p,q]])) ?kr ?_
     case kr=>kernel_rfl
     refine ⟨rfl,?m0⟩
     all_goals try simp only [etaT] at *
     all_goals try simp only [Tw.eta] at *
     case m0=>exact (QaS (t:=eqT p q) rfl).sub
   · cases hs
 · cases hs
theorem cApp8 {E:Env} (hU:Up E):Contract Tryz.prog E 47 QnX:=by
 refine Qad [] [] Tryz.ntmps47 Tryz.func47 (by kernel_rfl) (by kernel_rfl) hU trivial trivial ?_
 intro xs p r hs hp
 unfold QnX at hs
 split at hs
 · rename_i s z
   split at hs
   · rename_i t h1
     cases hs
     refine ⟨[.f (.v (.string s)),tmP t],[],.cons (.refl _) (.cons (QaS h1).sub .nil),rfl,fun _ hsh=>?_⟩
     refine Qab (p:=true=true∧Sub (PV.agg [uV 7,sV s,bV false,nlP,dP Sh.tm [etaT t]]) (PV.agg [uV ((appT s t).kind),sV ((appT s t).name),bV ((appT s t).neg),PV.f (Lf.lr (appT s t).digits 0),dP Sh.tm [t]])) ?kr ?_
     case kr=>kernel_rfl
     refine ⟨rfl,?m0⟩
     all_goals try simp only [etaT] at *
     all_goals try simp only [Tw.eta] at *
     case m0=>exact (QaS (t:=appT s t) rfl).sub
   · cases hs
 · cases hs
def Qf1:ByteArray:=⟨#[108,105,115,116]⟩
def Qr9:ByteArray:=⟨#[112,97,105,114]⟩
def nNil:ByteArray:=⟨#[78,73,76]⟩
def QuG:ByteArray:=⟨#[67,79,78,83]⟩
def Qs9:ByteArray:=⟨#[80,65,73,82]⟩
def nOdd:ByteArray:=⟨#[111,100,100]⟩
def nl:ByteArray:=⟨#[108]⟩
def nm_:ByteArray:=⟨#[109]⟩
def nx:ByteArray:=⟨#[120]⟩
def ny:ByteArray:=⟨#[121]⟩
def nz:ByteArray:=⟨#[122]⟩
def np:ByteArray:=⟨#[112]⟩
def nr:ByteArray:=⟨#[114]⟩
def lists8:List Dat:=[⟨Qf1,[⟨nNil,[]⟩,⟨QuG,[bInt,Qf1,QaM,nOdd]⟩]⟩,⟨Qr9,[⟨Qs9,[Qf1]⟩]⟩]
def names8:List Srt:=[⟨nl,Qf1⟩,⟨nm_,Qf1⟩,⟨nx,bInt⟩,⟨ny,bInt⟩,⟨np,QaM⟩,⟨nr,Qr9⟩]
theorem Qs4 {s:Sh} {L:List (List Lf)} {l:List s.T} (hn:L.length=l.length) (h:∀ i,i<l.length→SubL (L.getD i []) (s.cells (l.getD i s.nil))):∀ H v,Rd H v (.row s.k L)→Rd H v (.dt s l):=fun H v hv =>
 hv.seen (k:=s.k) (n:=l.length) (get:=fun i=>L.getD i []) (get':=fun i=>s.cells (l.getD i s.nil)) (by rw [← hn]; rfl) (fun _=>rfl) rfl (fun _=>rfl) (fun _=>trivial) h
def Qk4:Spec
 | []=>some (none,.one (.f (.dt .dat lists8)))
 | _=>none
theorem Qvw {E:Env} (hU:Up E):Contract Tryz.prog E 45 Qk4:=by
 refine Qad [] [] Tryz.ntmps45 Tryz.func45 (by kernel_rfl) (by kernel_rfl) hU trivial trivial ?_
 intro xs p r hs hp
 unfold Qk4 at hs
 split at hs
 · cases hs
   refine ⟨[],[],.nil,rfl,fun _ hsh=>?_⟩
   refine Qab (p:=true=true∧Sub (PV.f (Lf.row 2 [[Lf.v (Value.string (ByteArray.mk #[(108:UInt8),(105:UInt8),(115:UInt8),(116:UInt8)])),Lf.row 2 [[Lf.v (Value.string (ByteArray.mk #[(78:UInt8),(73:UInt8),(76:UInt8)])),Lf.v (Value.slice none 0 0)],[Lf.v (Value.string (ByteArray.mk #[(67:UInt8),(79:UInt8),(78:UInt8),(83:UInt8)])),Lf.dt Sh.str [ByteArray.mk #[(105:UInt8),(110:UInt8),(116:UInt8)],ByteArray.mk #[(108:UInt8),(105:UInt8),(115:UInt8),(116:UInt8)],ByteArray.mk #[(98:UInt8),(111:UInt8),(111:UInt8),(108:UInt8)],ByteArray.mk #[(111:UInt8),(100:UInt8),(100:UInt8)]]]]],[Lf.v (Value.string (ByteArray.mk #[(112:UInt8),(97:UInt8),(105:UInt8),(114:UInt8)])),Lf.dt Sh.con [Cn.mk (ByteArray.mk #[(80:UInt8),(65:UInt8),(73:UInt8),(82:UInt8)]) [ByteArray.mk #[(108:UInt8),(105:UInt8),(115:UInt8),(116:UInt8)]]]]])) (dP Sh.dat [Dat.mk Qf1 [Cn.mk nNil [],Cn.mk QuG [bInt,Qf1,QaM,nOdd]],Dat.mk Qr9 [Cn.mk Qs9 [Qf1]]])) ?kr ?_
   case kr=>kernel_rfl
   refine ⟨rfl,?m0⟩
   case m0 =>
    refine (SubB.mk fun H B v hv=>.f ?_:SubB _ (.f (.dt .dat lists8))).sub
    refine Qs4 (s:=.dat) rfl (fun i hi=>?_) H v hv.rd
    match i,hi with
    | 0,_ =>
     refine .cons (fun _ _ h=>h) (.cons (fun H v h=>?_) .nil)
     refine Qs4 (s:=.con) (l:=[⟨nNil,[]⟩,⟨QuG,[bInt,Qf1,QaM,nOdd]⟩]) rfl (fun i hi=>?_) H v h
     match i,hi with
     | 0,_=>exact .cons (fun _ _ h=>h) (.cons (QbB (s:=.str) rfl) .nil)
     | 1,_=>exact .cons (fun _ _ h=>h) (.cons (fun _ _ h=>h) .nil)
    | 1,_=>exact .cons (fun _ _ h=>h) (.cons (fun _ _ h=>h) .nil)
    | i+2,h=>exact absurd h (by show ¬ i+2<2; omega)
 · cases hs
def Qk2:Spec
 | []=>some (none,.one (.f (.dt .srt names8)))
 | _=>none
theorem Qvv {E:Env} (hU:Up E):Contract Tryz.prog E 46 Qk2:=by
 refine Qad [] [] Tryz.ntmps46 Tryz.func46 (by kernel_rfl) (by kernel_rfl) hU trivial trivial ?_
 intro xs p r hs hp
 unfold Qk2 at hs
 split at hs
 · cases hs
   refine ⟨[],[],.nil,rfl,fun _ hsh=>?_⟩
   refine Qab (p:=true=true∧Sub (dP Sh.srt [Srt.mk (ByteArray.mk #[(108:UInt8)]) (ByteArray.mk #[(108:UInt8),(105:UInt8),(115:UInt8),(116:UInt8)]),Srt.mk (ByteArray.mk #[(109:UInt8)]) (ByteArray.mk #[(108:UInt8),(105:UInt8),(115:UInt8),(116:UInt8)]),Srt.mk (ByteArray.mk #[(120:UInt8)]) (ByteArray.mk #[(105:UInt8),(110:UInt8),(116:UInt8)]),Srt.mk (ByteArray.mk #[(121:UInt8)]) (ByteArray.mk #[(105:UInt8),(110:UInt8),(116:UInt8)]),Srt.mk (ByteArray.mk #[(112:UInt8)]) (ByteArray.mk #[(98:UInt8),(111:UInt8),(111:UInt8),(108:UInt8)]),Srt.mk (ByteArray.mk #[(114:UInt8)]) (ByteArray.mk #[(112:UInt8),(97:UInt8),(105:UInt8),(114:UInt8)])]) (dP Sh.srt [Srt.mk nl Qf1,Srt.mk nm_ Qf1,Srt.mk nx bInt,Srt.mk ny bInt,Srt.mk np QaM,Srt.mk nr Qr9])) ?kr ?_
   case kr=>kernel_rfl
   refine ⟨rfl,?m0⟩
   case m0=>exact .refl _
 · cases hs
def great8 (L M:List Tw):Bool:=decide (QaY 2000 L > 2000) || decide (QaY 2000 M > 2000)
def Qla:Spec
 | [.f x,.f y]=>match dtOf .tm x,dtOf .tm y with
  | some L,some M=>some (some (QaF L≤4000000∧QaF M≤4000000),.nm Bool (great8 L M) bV)
  | _,_=>none
 | _=>none
theorem QvC {E:Env} (hU:Up E):Contract Tryz.prog E 15 Qla:=by
 refine Qad [(29,QcX 9000000)] [] Tryz.ntmps15 Tryz.func15 (by kernel_rfl) (by kernel_rfl) hU ⟨(QvL hU _).2,trivial⟩ trivial ?_
 intro xs p r hs hp
 unfold Qla at hs
 split at hs
 · rename_i x y
   split at hs
   · rename_i L M h1 h2
     cases hs
     obtain ⟨hL,hM⟩:=hp _ rfl
     refine ⟨[.f (.dt .tm L),.f (.dt .tm M)],[],.cons (Qby h1).sub (.cons (Qby h2).sub .nil),rfl,fun _ hsh=>?_⟩
     refine Qab (p:=(2 * szL L+1<9000000∧QaF L≤4000000∧(-1:Int)≤(2000:Int)∧(2000:Int)≤(4000000:Int))∧∀ (z1:Int),z1=QaY (2000:Int) L→ifB (decide (z1 > (2000:Int))) (true=true∧Sub (bV true) (bV (great8 L M))) ((2 * szL M+1<9000000∧QaF M≤4000000∧(-1:Int)≤(2000:Int)∧(2000:Int)≤(4000000:Int))∧∀ (z2:Int),z2=QaY (2000:Int) M→true=true∧Sub (bV (decide (z2 > (2000:Int)))) (bV (great8 L M)))) ?kr ?_
     case kr=>kernel_rfl
     refine ⟨?s0,fun z1=>fun hz1=>Qaa.2 ⟨fun hb0=>⟨rfl,?m0⟩,fun hb0=>⟨?s1,fun z2=>fun hz2=>⟨rfl,?m1⟩⟩⟩⟩
     case s0=>exact ⟨by have:=Qck L; omega,hL,by decide,by decide⟩
     case s1=>exact ⟨by have:=Qck M; omega,hM,by decide,by decide⟩
     all_goals subst hz1
     case m0=>refine (QaA ?_).sub; unfold great8; rw [hb0]; rfl
     case m1=>subst hz2; refine (QaA ?_).sub; unfold great8; rw [hb0]; rfl
   · cases hs
 · cases hs
def L8:List Tw:=[eqT (varC nx) (varC ny),eqT (varC nz) (varC ny),eqT (varC nl) (varC nm_)]
theorem QdD {s:ByteArray} (h:s.size≤1000):QaH (varC s):=⟨⟨⟨⟨by decide,by decide⟩,fun x hx=>absurd hx (by simp)⟩,trivial⟩,⟨by omega,Nat.zero_le _,Nat.zero_le _,trivial⟩,by
 refine Nat.le_trans (Qfq _ ⟨⟨⟨by decide,by decide⟩,fun x hx=>absurd hx (by simp)⟩,trivial⟩ ⟨by omega,Nat.zero_le _,Nat.zero_le _,trivial⟩) ?_
 simp only [varC,Tw.size,szL,nodW,Qc4,List.length_nil]
 omega⟩
theorem QqM {s t:ByteArray} (h:s.size≤1000) (h1:t.size≤1000):QaH (eqT (varC s) (varC t)):=by
 have a:=QdD h
 have b:=QdD h1
 have k:QaZ (eqT (varC s) (varC t)):=⟨⟨⟨by decide,by decide⟩,fun x hx=>absurd hx (by simp)⟩,a.1,b.1,trivial⟩
 have f:(eqT (varC s) (varC t)).fitT:=⟨by decide,Nat.zero_le _,by show (2:Nat)≤_; decide,a.2.1,b.2.1,trivial⟩
 refine ⟨k,f,Nat.le_trans (Qfq _ k f) ?_⟩
 simp only [eqT,varC,Tw.size,szL,nodW,Qc4,List.length_nil]
 have:(⟨#[]⟩:ByteArray).size=0:=rfl
 omega
theorem Qv5:∀ t∈L8,QaH t:=fun t ht=>by
 simp only [L8,List.mem_cons,List.not_mem_nil,or_false] at ht
 rcases ht with rfl | rfl | rfl
 · exact QqM (by decide) (by decide)
 · exact QqM (by decide) (by decide)
 · exact QqM (by decide) (by decide)
theorem QoY:Qbd L8 (varC nx) (varC nz) [0,1]=.ok (eqT (varC nx) (varC nz)):=by kernel_rfl
theorem QtE:Qbd L8 (varC nx) (varC nz) [1,0]=.error 31:=by kernel_rfl
theorem QrF:Qax lists8 names8 L8 2 bTag=.ok (eqT (appT bTag (varC nl)) (appT bTag (varC nm_))):=by kernel_rfl
theorem Qha (t:Tw):sameT t t=true:=QbU.2 rfl
def Qpn:Spec
 | []=>some (none,.one (bV true))
 | _=>none
set_option maxHeartbeats 4000000 in
theorem QvO {E:Env} (hU:Up E) (hT:∀ K w H,E K w H→Tab w):Contract Tryz.prog E 14 Qpn:=by
 refine Qad [(44,sV8),(43,sEq8),(47,QnX),(45,Qk4),(46,Qk2),(22,Qmf),(23,Qmi),(7,sSameT)] [] Tryz.ntmps14 Tryz.func14 (by kernel_rfl) (by kernel_rfl) hU ⟨cV8 hU,cEq8 hU,cApp8 hU,Qvw hU,Qvv hU,Qtp hU hT,Qtu hU,cSameT hU,trivial⟩ trivial ?_
 intro xs p r hs hp
 unfold Qpn at hs
 split at hs
 · cases hs
   refine ⟨[],[],.nil,rfl,fun _ hsh=>?_⟩
   refine Qab (p:=(2≤100000000∧(∀ (t:Sh.tm.T),t∈[etaT (eqT (etaT (varC (ByteArray.mk #[(120:UInt8)]))) (etaT (varC (ByteArray.mk #[(121:UInt8)])))),etaT (eqT (etaT (varC (ByteArray.mk #[(122:UInt8)]))) (etaT (varC (ByteArray.mk #[(121:UInt8)])))),etaT (eqT (etaT (varC (ByteArray.mk #[(108:UInt8)]))) (etaT (varC (ByteArray.mk #[(109:UInt8)]))))]→QaH t)∧QaH (etaT (varC (ByteArray.mk #[(120:UInt8)])))∧QaH (etaT (varC (ByteArray.mk #[(122:UInt8)]))))∧∀ (z1:Except Int Tw),z1=Qbd [etaT (eqT (etaT (varC (ByteArray.mk #[(120:UInt8)]))) (etaT (varC (ByteArray.mk #[(121:UInt8)])))),etaT (eqT (etaT (varC (ByteArray.mk #[(122:UInt8)]))) (etaT (varC (ByteArray.mk #[(121:UInt8)])))),etaT (eqT (etaT (varC (ByteArray.mk #[(108:UInt8)]))) (etaT (varC (ByteArray.mk #[(109:UInt8)]))))] (etaT (varC (ByteArray.mk #[(120:UInt8)]))) (etaT (varC (ByteArray.mk #[(122:UInt8)]))) [(0:Int),(1:Int)]→(2≤100000000∧(∀ (t:Sh.tm.T),t∈[etaT (eqT (etaT (varC (ByteArray.mk #[(120:UInt8)]))) (etaT (varC (ByteArray.mk #[(121:UInt8)])))),etaT (eqT (etaT (varC (ByteArray.mk #[(122:UInt8)]))) (etaT (varC (ByteArray.mk #[(121:UInt8)])))),etaT (eqT (etaT (varC (ByteArray.mk #[(108:UInt8)]))) (etaT (varC (ByteArray.mk #[(109:UInt8)]))))]→QaH t)∧QaH (etaT (varC (ByteArray.mk #[(120:UInt8)])))∧QaH (etaT (varC (ByteArray.mk #[(122:UInt8)]))))∧∀ (z2:Except Int Tw),z2=Qbd [etaT (eqT (etaT (varC (ByteArray.mk #[(120:UInt8)]))) (etaT (varC (ByteArray.mk #[(121:UInt8)])))),etaT (eqT (etaT (varC (ByteArray.mk #[(122:UInt8)]))) (etaT (varC (ByteArray.mk #[(121:UInt8)])))),etaT (eqT (etaT (varC (ByteArray.mk #[(108:UInt8)]))) (etaT (varC (ByteArray.mk #[(109:UInt8)]))))] (etaT (varC (ByteArray.mk #[(120:UInt8)]))) (etaT (varC (ByteArray.mk #[(122:UInt8)]))) [(1:Int),(0:Int)]→(3≤4611686018427387904∧∀ (t:Sh.tm.T),t∈[etaT (eqT (etaT (varC (ByteArray.mk #[(120:UInt8)]))) (etaT (varC (ByteArray.mk #[(121:UInt8)])))),etaT (eqT (etaT (varC (ByteArray.mk #[(122:UInt8)]))) (etaT (varC (ByteArray.mk #[(121:UInt8)])))),etaT (eqT (etaT (varC (ByteArray.mk #[(108:UInt8)]))) (etaT (varC (ByteArray.mk #[(109:UInt8)]))))]→Tw.fitT t)∧∀ (z3:Except Int Tw),z3=Qax lists8 names8 [etaT (eqT (etaT (varC (ByteArray.mk #[(120:UInt8)]))) (etaT (varC (ByteArray.mk #[(121:UInt8)])))),etaT (eqT (etaT (varC (ByteArray.mk #[(122:UInt8)]))) (etaT (varC (ByteArray.mk #[(121:UInt8)])))),etaT (eqT (etaT (varC (ByteArray.mk #[(108:UInt8)]))) (etaT (varC (ByteArray.mk #[(109:UInt8)]))))] (2:Int) (ByteArray.mk #[(116:UInt8),(97:UInt8),(103:UInt8)])→ifB (errE z1==(0:Int)) (((etaT (valE Sh.tm.nil z1)).fitT∧(etaT (eqT (etaT (varC (ByteArray.mk #[(120:UInt8)]))) (etaT (varC (ByteArray.mk #[(122:UInt8)]))))).fitT)∧∀ (z4:Bool),z4=sameT (etaT (valE Sh.tm.nil z1)) (etaT (eqT (etaT (varC (ByteArray.mk #[(120:UInt8)]))) (etaT (varC (ByteArray.mk #[(122:UInt8)])))))→ifB z4 (ifB (errE z2==(31:Int)) (ifB (errE z3==(0:Int)) (((etaT (valE Sh.tm.nil z3)).fitT∧(etaT (eqT (etaT (appT (ByteArray.mk #[(116:UInt8),(97:UInt8),(103:UInt8)]) (etaT (varC (ByteArray.mk #[(108:UInt8)]))))) (etaT (appT (ByteArray.mk #[(116:UInt8),(97:UInt8),(103:UInt8)]) (etaT (varC (ByteArray.mk #[(109:UInt8)]))))))).fitT)∧∀ (z5:Bool),z5=sameT (etaT (valE Sh.tm.nil z3)) (etaT (eqT (etaT (appT (ByteArray.mk #[(116:UInt8),(97:UInt8),(103:UInt8)]) (etaT (varC (ByteArray.mk #[(108:UInt8)]))))) (etaT (appT (ByteArray.mk #[(116:UInt8),(97:UInt8),(103:UInt8)]) (etaT (varC (ByteArray.mk #[(109:UInt8)])))))))→true=true∧Sub (bV z5) (bV true)) (true=true∧Sub (bV false) (bV true))) (true=true∧Sub (bV false) (bV true))) (true=true∧Sub (bV false) (bV true))) (true=true∧Sub (bV false) (bV true))) ?kr ?_
   case kr=>kernel_rfl
   refine ⟨?s0,fun z1=>fun hz1=>⟨?s1,fun z2=>fun hz2=>⟨?s2,fun z3=>fun hz3=>Qaa.2 ⟨fun hb0=>⟨?s3,fun z4=>fun hz4=>Qaa.2 ⟨fun hb1=>Qaa.2 ⟨fun hb2=>Qaa.2 ⟨fun hb3=>⟨?s4,fun z5=>fun hz5=>⟨rfl,?m0⟩⟩,fun hb3=>⟨rfl,?m1⟩⟩,fun hb2=>⟨rfl,?m2⟩⟩,fun hb1=>⟨rfl,?m3⟩⟩⟩,fun hb0=>⟨rfl,?m4⟩⟩⟩⟩⟩
   all_goals try simp only [etaT] at *
   all_goals try simp only [Tw.eta,beq_iff_eq,beq_eq_false_iff_ne,ne_eq] at *
   case s0=>exact ⟨by decide,Qv5,QdD (by decide),QdD (by decide)⟩
   case s1=>exact ⟨by decide,Qv5,QdD (by decide),QdD (by decide)⟩
   case s2=>exact ⟨by decide,fun t ht=>(Qv5 t ht).2.1⟩
   all_goals have e1:=hz1.trans QoY
   all_goals subst e1
   all_goals have e2:=hz2.trans QtE
   all_goals subst e2
   all_goals have e3:=hz3.trans QrF
   all_goals subst e3
   case s3=>exact ⟨(QqM (s:=nx) (t:=nz) (by decide) (by decide)).2.1,(QqM (s:=nx) (t:=nz) (by decide) (by decide)).2.1⟩
   case s4=>exact ⟨QeT (k:=8) (l:=[appT bTag (varC nl),appT bTag (varC nm_)]) (by decide) ⟨QaW (by decide) (QdD (by decide)).2.1,QaW (by decide) (QdD (by decide)).2.1,trivial⟩,QeT (k:=8) (l:=[appT bTag (varC nl),appT bTag (varC nm_)]) (by decide) ⟨QaW (by decide) (QdD (by decide)).2.1,QaW (by decide) (QdD (by decide)).2.1,trivial⟩⟩
   case m0=>exact (QaA (hz5.trans (Qha _))).sub
   case m1=>exact absurd rfl hb3
   case m2=>exact absurd rfl hb2
   case m3=>exact absurd (hb1.symm.trans (hz4.trans (Qha _))) (by decide)
   case m4=>exact absurd rfl hb0
 · cases hs
end Go.Proofs.YtemhncjjiomppaaGreatDoor
