/- nat.Text. -/
import Derived.Test.YtmbmbcamecfnkaaGreatDoorNatI
import Derived.Test.YtmbmbcamecfnkaaGreatDoorText
namespace Go.Proofs.YtmbmbcamecfnkaaGreatDoor
open Go.RowKit
def fixD:Nat→Nat→List UInt8
 | 0,_=>[]
 | k+1,n=>fixD k (n / 10)++[UInt8.ofNat (48+n % 10)]
theorem Qqr {n:Nat} (h:10≤n):Lib.decDigits n=Lib.decDigits (n / 10)++[UInt8.ofNat (48+n % 10)]:=by
 rw [Lib.decDigits,dif_neg (by omega)]
theorem Qj8 {n:Nat} (h:n<10):Lib.decDigits n=[UInt8.ofNat (48+n)]:=by
 rw [Lib.decDigits,dif_pos h]
theorem dec_ne (n:Nat):Lib.decDigits n≠[]:=by
 intro h
 have:=Lib.decDigits_length n
 rw [h] at this
 have:=Lib.nDigits_pos n
 simp at *; omega
theorem Quf {m:Nat} (hm:0<m):∀ k n,n<10 ^ k→Lib.decDigits (n+10 ^ k * m)=Lib.decDigits m++fixD k n:=by
 intro k
 induction k with
 | zero=>intro n hn; simp [fixD] at *; subst hn; simp
 | succ k ih =>
  intro n hn
  rw [Nat.pow_succ] at hn
  have hp:0<10 ^ k:=Nat.pow_pos (by omega)
  have h10:10≤n+10 ^ (k+1) * m:=by
   have:10 * 1≤10 * (10 ^ k * m):=Nat.mul_le_mul_left _ (Nat.mul_pos hp hm)
   rw [Nat.pow_succ,Nat.mul_comm (10 ^ k) 10,Nat.mul_assoc]; omega
  have e1:(n+10 ^ (k+1) * m) / 10=n / 10+10 ^ k * m:=by
   rw [Nat.pow_succ,Nat.mul_comm (10 ^ k) 10,Nat.mul_assoc]; omega
  have e2:(n+10 ^ (k+1) * m) % 10=n % 10:=by
   rw [Nat.pow_succ,Nat.mul_comm (10 ^ k) 10,Nat.mul_assoc]; omega
  rw [Qqr h10,e1,e2,ih (n / 10) (by omega),fixD,List.append_assoc]
theorem QrN (k:Nat):fixD k 0=List.replicate k 48:=by
 induction k with
 | zero=>rfl
 | succ k ih=>rw [fixD,Nat.zero_div,ih,List.replicate_succ']; rfl
theorem QtL:∀ k n,n<10 ^ (k+1)→List.replicate (k+1 - Lib.nDigits n) (48:UInt8)++Lib.decDigits n=fixD (k+1) n:=by
 intro k
 induction k with
 | zero =>
  intro n hn
  have hn:n<10:=by simpa using hn
  rw [Lib.nDigits_small hn,Qj8 hn]
  simp [fixD,Nat.mod_eq_of_lt hn]
 | succ k ih =>
  intro n hn
  by_cases h:n<10
  · rw [Lib.nDigits_small h,Qj8 h,fixD,Nat.div_eq_of_lt h,QrN,Nat.mod_eq_of_lt h]
    rfl
  · rw [Lib.nDigits_big h,Qqr (by omega),fixD,← ih (n / 10) (by rw [Nat.pow_succ] at hn; omega),List.append_assoc]
    congr 2; omega
theorem QdV (k n:Nat) (h:n<10 ^ k) (hk:0<k):Lib.nDigits n≤k:=by
 induction k generalizing n with
 | zero=>omega
 | succ k ih =>
  by_cases h9:n<10
  · rw [Lib.nDigits_small h9]; omega
  · rw [Lib.nDigits_big h9]
    have hk:0<k:=by
     rcases Nat.eq_zero_or_pos k with h | h
     · subst h; simp at *; omega
     · exact h
    have:=ih (n / 10) (by rw [Nat.pow_succ] at h; omega) hk
    omega
theorem Rgt.drop {b:Nat} {l:List Nat} (h:Rgt b l) (j:Nat):Rgt b (l.drop j):=by
 induction j generalizing l with
 | zero=>simpa using h
 | succ j ih =>
  cases l with
  | nil=>simpa using h
  | cons x l=>simpa using ih h.tail
theorem QjB {b:Nat} (hb:2≤b) {l:List Nat} (h:Rgt b l) {j:Nat} (hj:j<l.length):0<val b (l.drop j):=by
 have h1:=QdQ (h.drop j) (by simp; omega)
 have:0<b ^ ((l.drop j).length - 1):=Nat.pow_pos (by omega)
 omega
theorem QoI {l:List Nat} {i:Nat} (h:Rgt 1000000000 l) (hi:i+1<l.length) :
  Lib.decDigits (val 1000000000 (l.drop (i+1)))++(List.replicate (9 - Lib.nDigits (dg l i)) (48:UInt8)++Lib.decDigits (dg l i))=Lib.decDigits (val 1000000000 (l.drop i)):=by
 have hx:=Qbv h.1 (by omega) i
 rw [QtL 8 (dg l i) (by omega),Qa4 l i (by omega),val,show (1000000000:Nat)=10 ^ 9 from rfl,Quf (QjB (by omega) h hi) 9 (dg l i) (by omega)]
theorem QdD {T e:TypeId} {B b:Nat} {p:Value} {bs:List Value} {w w':World} (h:Lib.BuilderAt T e B b p bs w) (hb:Below w.heap.size w w'):Lib.BuilderAt T e B b p bs w':=by
 obtain ⟨h1,v,h2,h3,h4⟩:=h
 refine ⟨h1,v,?_,?_,h4⟩
 · rw [hb.block b (Array.getElem?_eq_some_iff.1 h2).1]; exact h2
 · obtain ⟨h5,h6⟩:=h3
   refine ⟨h5,?_⟩
   rcases h6 with h6 | ⟨g,cap,cur,hv,hg,hh,r⟩
   · exact .inl h6
   · exact .inr ⟨g,cap,cur,hv,hg,by rw [hb.block g (Array.getElem?_eq_some_iff.1 hh).1]; exact hh,r⟩
theorem QlC (T e:TypeId) (w:World) (b:Nat) (hb:w.heap.size=b):Lib.BuilderAt T e b b (.pointer none) [] (w.alloc (.cells #[.pointer none,.slice none 0 0] T)):=by
 subst hb
 exact ⟨Nat.le_refl _,.slice none 0 0,heap_alloc_new w _,World.ownsRow_nil _ _ _ _,by simp [Value.ownBlock]⟩
theorem QoJ : ∃ g, Tryz.prog.globalNamed "internal/strconv.uint64pow10" = some g := ⟨1, by kernel_rfl⟩
theorem Tab.keep {w w':World} (h:Tab w) (hb:Below w.heap.size w w'):Tab w':=by
 obtain ⟨g,hg⟩:=QoJ
 refine var?_below hb hg ?_ h
 unfold Tab Lib.TabIs World.var? at h
 simp only [hg,Option.bind_some] at h
 rcases Nat.lt_or_ge g w.heap.size with h1 | h1
 · exact h1
 · rw [Array.getElem?_eq_none h1] at h; cases h
set_option maxHeartbeats 400000 in
theorem QkR (c:Nat) (w:World) (hc:c≤100000000) :
  Calls Tryz.prog 288 #[.string ⟨#[48]⟩,.int .i64 c] w fun e w'=>e=.returned (.string ⟨Array.replicate c (48:UInt8)⟩)∧Below w.heap.size w w':=by
 rcases Nat.lt_or_ge c 2 with h | h
 · rcases Nat.lt_or_ge c 1 with h0 | h0
   · obtain rfl:c=0:=by omega
     refine (Tryz.strings_Repeat_zero _ w).mono ?_
     rintro e w' ⟨rfl,rfl⟩
     exact ⟨rfl,Below.refl _ _⟩
   · obtain rfl:c=1:=by omega
     refine (Tryz.strings_Repeat_one _ w).mono ?_
     rintro e w' ⟨rfl,rfl⟩
     exact ⟨rfl,Below.refl _ _⟩
 · refine (Tryz.strings_Repeat_main ⟨#[48]⟩ c w h (by omega) (by simp [ByteArray.size]; omega) (by simp [ByteArray.size])).mono ?_
   rintro e w' ⟨rfl,hb⟩
   refine ⟨?_,hb⟩
   have:Lib.repeatL [48] c=List.replicate c (48:UInt8):=by
    have:=Lib.repeatL_replicate 48 1 c
    rwa [Nat.mul_one] at this
   rw [this]; simp
theorem Qr3 (a d:List UInt8) (c:Nat):(Lib.byteCells a).length+(⟨Array.replicate c (48:UInt8)⟩++⟨d.toArray⟩:ByteArray).size=a.length+(c+d.length):=by
 rw [Lib.byteCells_length,ByteArray.size_append]
 simp [ByteArray.size]
theorem Qs7 (b:Nat) (l:List Nat):val b (l.drop (l.length - 1))=dg l (l.length - 1):=by
 rcases Nat.eq_zero_or_pos l.length with h | h
 · rw [List.length_eq_zero_iff.1 h]; rfl
 · rw [Qa4 l _ (by omega),List.drop_of_length_le (by omega)]; simp [val]
theorem Qq0 {l:List Nat} (h:Rgt 1000000000 l) (j:Nat):(Lib.decDigits (val 1000000000 (l.drop j))).length≤9 * l.length+1:=by
 rw [Lib.decDigits_length]
 refine QdV _ _ ?_ (by omega)
 have h1:=Qby 1000000000 (l.drop j) (h.drop j).1
 have h2:(1000000000:Nat) ^ (l.drop j).length≤10 ^ (9 * l.length+1):=by
  rw [show (1000000000:Nat)=10 ^ 9 from rfl,← Nat.pow_mul]
  exact Nat.pow_le_pow_right (by omega) (by simp; omega)
 omega
theorem Qr2 {l:List Nat} {i:Nat} (h:Rgt 1000000000 l) (hi:i+1<l.length) (c:Nat) (hc:c=9 - (Lib.decDigits (dg l i)).length) :
  Lib.byteCells (Lib.decDigits (val 1000000000 (l.drop (i+1))))++Lib.strCells (⟨Array.replicate c (48:UInt8)⟩++⟨(Lib.decDigits (dg l i)).toArray⟩)=Lib.byteCells (Lib.decDigits (val 1000000000 (l.drop i))):=by
 rw [Lib.strCells_eq,← Lib.byteCells_append,← QoI h hi,hc,Lib.decDigits_length]
 congr 2
set_option maxRecDepth 100000 in
set_option maxHeartbeats 2000000 in
theorem QkY (v:Value) (l:List Nat) (w:World) (hv:RdI w v .u32 l) (h1:l.length≤100000000) (h2:∀ x∈l,x<4294967296) (htab:Tab w) :
  Calls Tryz.prog 223 #[v] w fun e w'=>e=.returned (.string ⟨(Lib.decDigits (val 1000000000 l)).toArray⟩)∧Below w.heap.size w w':=by
 have HV:=Lib.hid hv
 have H2:=Lib.hid h2
 have HT:=Lib.hid htab
 clear hv h2 htab
 obtain ⟨D,hD⟩:∃ D,D=digs 1000000000 (val 1000000000 l):=⟨_,rfl⟩
 have HDR:Hid (Rgt 1000000000 D):=by unfold Hid; rw [hD]; exact QaP _ (by omega) _
 have HDV:Hid (val 1000000000 D=val 1000000000 l):=by unfold Hid; rw [hD,Qah _ (by omega)]
 have hDl:D.length≤200000000:=by rw [hD]; have:=QaK l H2.out; omega
 have HD:=Lib.hid hD
 clear hD
 go_enter Tryz.func223,Tryz.ntmps223
 go_wp2_with fail
 refine (Qdc _ l _ HV.out (by omega) H2.out).mono ?_
 rintro e w1 ⟨y,rfl,hy,hb1⟩
 rw [← HD.out] at hy
 obtain ⟨yo,yc,rfl,_,hym,_,_⟩:=hy.rd
 have HY:=Lib.hid hy.rd
 have HT1:=Lib.hid (HT.out.keep hb1)
 have hs1:=hb1.size
 have HB1:=Lib.hid hb1
 clear hy hb1
 go_wp2_with fail
 obtain ⟨W,hW⟩:∃ W,W=(w1.alloc (Obj.cells #[Value.slice yo D.length yc] 275)).alloc (Obj.cells #[Value.pointer none,Value.slice none 0 0] 240):=⟨_,rfl⟩
 have HB0:Hid (Below w1.heap.size w1 W):=by rw [hW]; exact (((Below.refl _ _).alloc (Nat.le_refl _) _).alloc (by simp only [Qaa] <;> omega) _)
 have HC0:Hid (W.cell? ⟨w1.heap.size,0,none⟩=some (Value.slice yo D.length yc)):=by unfold Hid; rw [hW]; simp (disch:=first | omega | (simp only [Qaa]; omega) | simp only [Qaa]) only [Qal,Qaq]; all_goals rfl
 have HC1_0:Hid (W.cell? ⟨w1.heap.size+1,0,none⟩=some (Value.pointer none)):=by unfold Hid; rw [hW]; simp (disch:=first | omega | (simp only [Qaa]; omega) | simp only [Qaa]) only [Qal]; all_goals rfl
 have HC1_1:Hid (W.cell? ⟨w1.heap.size+1,1,none⟩=some (Value.slice none 0 0)):=by unfold Hid; rw [hW]; simp (disch:=first | omega | (simp only [Qaa]; omega) | simp only [Qaa]) only [Qal]; all_goals rfl
 have HS:Hid (W.heap.size=w1.heap.size+1+1):=by unfold Hid; rw [hW]; simp only [Qaa]
 have HBUW:Lib.BuilderAt 240 5 (w1.heap.size+1) (w1.heap.size+1) (.pointer none) [] W:=by rw [hW]; exact QlC 240 5 (w1.alloc (Obj.cells #[Value.slice yo D.length yc] 275)) _ (by simp only [Qaa])
 rw [← hW]
 clear hW
 have HBU:Hid (Lib.BuilderAt 240 5 (w1.heap.size+1) (w1.heap.size+1) (.pointer none) [] W):=HBUW
 have HTW:=Lib.hid (HT1.out.keep HB0.out)
 have HYW:=Lib.hid (HY.out.keep HB0.out)
 have hc0:=HC0.out
 have hHV:val 1000000000 D=val 1000000000 l:=HDV.out
 go_wp2_with (first | (go_at_call 286; refine (Qku _ D _ HYW.out (by omega)).mono ?_; rintro e w2 ⟨rfl,rfl⟩) | (go_at_call 255; refine (QbL _ _ (by have:=Qbv HDR.out.1 (by omega) (D.length - 1); omega) HTW.out).mono ?_; rintro e w3 ⟨rfl,hb3⟩; have hs3:=hb3.size; have hz3:w1.heap.size+1≤w3.heap.size:=(by have:=HS.out; omega)) | (go_at_call 285; refine (Qdf (w1.heap.size+1) (w1.heap.size+1) [] ⟨_⟩ _ (.inl (QdD HBU.out hb3)) (by have:=QdV 20 (dg D (D.length - 1)) (by have:=Qbv HDR.out.1 (by omega) (D.length - 1); omega) (by omega); rw [← Lib.decDigits_length] at this; simp only [ByteArray.size,List.size_toArray,List.length_nil]; omega) hz3).mono ?_; rintro e w4 ⟨rfl,hbu4,hb4⟩; have hB4:Below (w1.heap.size+1) W w4:=(hb3.mono (by have:=HS.out; omega)).trans hb4; have hc4:w4.cell? ⟨w1.heap.size,0,none⟩=some (Value.slice yo D.length yc):=(hB4.cell (by dsimp only; omega)).trans hc0))
 have HBU4:Hid (Lib.BuilderAt 240 5 (w1.heap.size+1) (w1.heap.size+1) (.pointer (some ⟨w1.heap.size+1,0,none⟩)) (Lib.byteCells (Lib.decDigits (val 1000000000 (D.drop (((D.length:Int) - 2+1).toNat))))) w4):=by
  rw [show ((D.length:Int) - 2+1).toNat=D.length - 1 by omega,Qs7]
  exact hbu4
 have HB4:=Lib.hid hB4
 clear hbu4 hB4 hb3 hb4 hs3 hz3 hc4
 go_loopw [5] (fun i wr=>∃ k:Int,i=.int .i64 k∧-2≤k∧k+2≤D.length∧Lib.BuilderAt 240 5 (w1.heap.size+1) (w1.heap.size+1) (.pointer (some ⟨w1.heap.size+1,0,none⟩)) (Lib.byteCells (Lib.decDigits (val 1000000000 (D.drop (k+1).toNat)))) wr∧Below (w1.heap.size+1) W wr) (fun i _=>(intOf i+1).toNat)
 case atStart=>exact ⟨(D.length:Int) - 2,rfl,by omega,by omega,HBU4.out,HB4.out⟩
 case round =>
  obtain ⟨k,rfl,hk,hk2,hbu,hbl⟩:=hrel
  have hcr:wr.cell? ⟨w1.heap.size,0,none⟩=some (Value.slice yo D.length yc):=(hbl.cell (by dsimp only; omega)).trans HC0.out
  have hsr:w1.heap.size+1≤wr.heap.size:=by have:=hbl.size; have:=HS.out; omega
  have HBR:=Lib.hid hbu
  have HLR:=Lib.hid hbl
  have HYR:=Lib.hid (HY.out.keep (HB0.out.trans (hbl.mono (by omega))))
  have HTR:=Lib.hid (HT1.out.keep (HB0.out.trans (hbl.mono (by omega))))
  clear hbu hbl
  by_cases hk0:0≤k
  · obtain ⟨k,rfl⟩:=Int.eq_ofNat_of_zero_le hk0
    have h9:(Lib.decDigits (dg D k)).length≤9:=by
     rw [Lib.decDigits_length]; exact QdV 9 _ (by have:=Qbv HDR.out.1 (by omega) k; omega) (by omega)
    have H9:=Lib.hid h9
    have HLEN:Hid ((Lib.decDigits (val 1000000000 (D.drop (k+1)))).length≤9 * D.length+1):=Qq0 HDR.out _
    have HCT:Hid (Lib.byteCells (Lib.decDigits (val 1000000000 (D.drop (k+1))))++Lib.strCells (⟨Array.replicate (9 - (Lib.decDigits (dg D k)).length) (48:UInt8)⟩++⟨(Lib.decDigits (dg D k)).toArray⟩)=Lib.byteCells (Lib.decDigits (val 1000000000 (D.drop k)))):=Qr2 HDR.out (by omega) _ rfl
    have HBR':Hid (Lib.BuilderAt 240 5 (w1.heap.size+1) (w1.heap.size+1) (.pointer (some ⟨w1.heap.size+1,0,none⟩)) (Lib.byteCells (Lib.decDigits (val 1000000000 (D.drop (k+1))))) wr):=by
     have:=HBR.out
     rwa [show ((k:Int)+1).toNat=k+1 by omega] at this
    go_wp2_with (first | (go_at_call 287; refine (QdE _ D (k:Int) _ HYR.out (.inl hk0) (by omega) (by omega)).mono ?_; rintro e w2 ⟨rfl,rfl⟩; rw [show ((k:Int)).toNat=k from rfl]) | (go_at_call 255; refine (QbL _ _ (by have:=Qbv HDR.out.1 (by omega) k; omega) HTR.out).mono ?_; rintro e w3 ⟨rfl,hb3⟩; have hs3:=hb3.size))
    rw [show (9:Int) - ((Lib.decDigits (dg D k)).length:Int)=((9 - (Lib.decDigits (dg D k)).length:Nat):Int) by omega]
    refine (QkR _ _ (by omega)).mono ?_
    rintro e w4 ⟨rfl,hb4⟩
    have hs4:=hb4.size
    have hbu4:=QdD (QdD HBR'.out hb3) hb4
    have hB4:Below (w1.heap.size+1) W w4:=HLR.out.trans ((hb3.mono hsr).trans (hb4.mono (by omega)))
    have hcall:=Qdf (w1.heap.size+1) (w1.heap.size+1) _ (⟨Array.replicate (9 - (Lib.decDigits (dg D k)).length) 48⟩++⟨(Lib.decDigits (dg D k)).toArray⟩) _ (.inr hbu4) (by rw [Qr3]; have:=HLEN.out; have:=H9.out; omega) (by omega)
    go_wp2_with fail
    refine hcall.mono ?_
    rintro e w5 ⟨rfl,hbu5,hb5⟩
    rw [HCT.out] at hbu5
    go_wp2_with fail
    go_roundw
    case rel=>exact ⟨(k:Int) - 1,by go_num,by omega,by omega,by rw [show ((k:Int) - 1+1).toNat=k by omega]; exact hbu5,hB4.trans hb5⟩
    case measure=>simp [intOf] <;> omega
  · have hk1:(k+1).toNat=0:=by omega
    have HBR':Hid (Lib.BuilderAt 240 5 (w1.heap.size+1) (w1.heap.size+1) (.pointer (some ⟨w1.heap.size+1,0,none⟩)) (Lib.byteCells (Lib.decDigits (val 1000000000 l))) wr):=by
     have:=HBR.out
     rwa [hk1,List.drop_zero,HDV.out] at this
    go_wp2_with (go_at_call 185; refine (Tryz.Builder_String (w1.heap.size+1) (w1.heap.size+1) _ _ (.inr HBR'.out) (dec_ne _)).mono ?_; rintro e w5 ⟨rfl,hb5⟩)
    go_ret
    exact ⟨rfl,HB1.out.trans (((HB0.out.trans (HLR.out.mono (by omega))).trans (hb5.mono (by omega))).mono hs1)⟩
end Go.Proofs.YtmbmbcamecfnkaaGreatDoor
