/- The document's answer of layer 1: order. -/
import Derived.Test.YtmbmbcamecfnkaaGreatDoorNatI
import Derived.Test.YtmbmbcamecfnkaaGreatDoorText
namespace Go.Proofs.YtmbmbcamecfnkaaGreatDoor
open Go.RowKit
theorem RdI.take {w:World} {ao:Option Addr} {ac:Nat} {k:IntKind} {l:List Nat} (h:RdI w (.slice ao l.length ac) k l) {j:Nat} (hj:j≤l.length):RdI w (.slice ao j ac) k (l.take j):=by
 obtain ⟨_,_,h0,h1,h2,h3,h4⟩:=h
 cases h0
 have hl:(l.take j).length=j:=by simp; omega
 refine ⟨ao,ac,by rw [hl],by omega,h2,h3,fun i hi=>?_⟩
 rw [hl] at hi
 obtain ⟨ad,h5,h6⟩:=h4 i (by omega)
 refine ⟨ad,h5,?_⟩
 rw [h6,QcN _ i (by omega),QcN _ i (by rw [hl]; exact hi)]
 simp
theorem Qft (b:Nat) (l:List Nat) (k:Nat):val b (l.take (k+1))=val b (l.take k)+b ^ k * dg l k:=by
 by_cases hk:k<l.length
 · exact QbA _ l k hk
 · rw [QcM l k (by omega),List.take_of_length_le (by omega),List.take_of_length_le (by omega)]; rfl
theorem plus10 {l m o:List Nat} {k c:Nat} (h:val 10 o+10 ^ k * c=val 10 (l.take k)+val 10 (m.take k)) (ho:o.length=k) {s:Nat} (hs:s=c+dg l k+dg m k) :
  val 10 (o++[s % 10])+10 ^ (k+1) * (s / 10)=val 10 (l.take (k+1))+val 10 (m.take (k+1)):=by
 rw [Qft,Qft,Qbb,ho,Nat.pow_succ]
 have e:=Nat.mod_add_div s 10
 generalize s % 10=r at *
 generalize s / 10=q at *
 generalize 10 ^ k=P at *
 have e2:P * s=P * c+P * dg l k+P * dg m k:=by rw [hs,Nat.mul_add,Nat.mul_add]
 have e3:P * s=P * r+P * 10 * q:=by rw [← e,Nat.mul_add,Nat.mul_assoc]
 omega
end Go.Proofs.YtmbmbcamecfnkaaGreatDoor
namespace Go.Proofs.YtmbmbcamecfnkaaGreatDoor
open Go.RowKit
theorem QmW {ds:List Nat} {x nn:Nat} (h:val 10 ds+10 ^ ds.length * nn=x):val 10 (ds++[nn % 10])+10 ^ (ds++[nn % 10]).length * (nn / 10)=x:=by
 rw [Qbb,List.length_append,List.length_singleton,Nat.pow_succ,Nat.mul_assoc,Nat.add_assoc,← Nat.mul_add,Nat.mod_add_div,h]
theorem Qgi (b k:Nat) (l:List Nat):val b (List.replicate k 0++l)=b ^ k * val b l:=by
 have:∀ n,val b (List.replicate n 0)=0:=by intro n; induction n with | zero=>rfl | succ n ih=>rw [List.replicate_succ,val,ih]; omega
 rw [Qb3,this,List.length_replicate,Nat.zero_add]
theorem QcL {n k:Nat} (h:n<1000000000 ^ k):(digs 10 n).length≤9 * k:=by
 refine Qay _ (by omega) _ _ ?_
 rwa [show (1000000000:Nat)=10 ^ 9 from rfl,← Nat.pow_mul] at h
end Go.Proofs.YtmbmbcamecfnkaaGreatDoor
namespace Go.Proofs.YtmbmbcamecfnkaaGreatDoor
open Go.RowKit
theorem QnI {b:Nat} {l:List Nat} (hx:∀ x∈l,x<b) (h:l.length=0∨b ^ (l.length - 1)≤val b l):Rgt b l:=by
 refine QcS hx ?_
 rcases h with h | h
 · exact .inl h
 rcases Nat.eq_zero_or_pos l.length with h0 | h0
 · exact .inl h0
 refine .inr fun hc=>?_
 have h1:=Qfr b l h0 hc
 have h2:=Qby b l.dropLast fun x hx'=>hx x ((List.dropLast_sublist l).subset hx')
 rw [List.length_dropLast] at h2
 omega
theorem Qoa {l:List Nat} {e t:Nat} (he:e≤l.length) (ht:t<e):val 10 ((l.take e).drop t)=dg l t+10 * val 10 ((l.take e).drop (t+1)):=by
 have hl:t<(l.take e).length:=by simp; omega
 rw [Qa4 _ t hl,val]
 congr 1
 rw [QcN _ t hl,QcN _ t (by omega)]
 simp
theorem Qno {l ds:List Nat} {e i:Nat} (he:e≤l.length) (hi:i≤e) (hds:i=9 * ds.length) (h:val 1000000000 ds=val 10 (l.take i)) :
  val 1000000000 (ds++[val 10 ((l.take e).drop i)])=val 10 (l.take e):=by
 have hs:=Qdg 10 (l.take e) i (by simp; omega)
 rw [List.take_take,Nat.min_eq_left hi] at hs
 rw [Qbb,hs,h,show (1000000000:Nat)=10 ^ 9 from rfl,← Nat.pow_mul,← hds]
theorem Qm2 {l:List Nat} {e t:Nat} (hx:∀ x∈l,x<10) (he:e≤t+9):val 10 ((l.take e).drop t)<1000000000:=by
 have h1:=Qby 10 ((l.take e).drop t) fun x h=>hx x (List.mem_of_mem_take (List.mem_of_mem_drop h))
 have:(10:Nat) ^ ((l.take e).drop t).length≤10 ^ 9:=Nat.pow_le_pow_right (by omega) (by simp; omega)
 omega
set_option maxRecDepth 100000 in
set_option maxHeartbeats 4000000 in
theorem Qdo (v:Value) (l:List Nat) (w:World) (hv:RdI w v .u8 l) (h1:l.length≤100000000) (h2:Rgt 10 l) :
  Calls Tryz.prog 280 #[v] w fun e w'=>∃ u,e=.returned u∧Own w' w.heap.size 190 .u32 u (digs 1000000000 (val 10 l))∧Below w.heap.size w w':=by
 have H2:=Lib.hid h2
 obtain ⟨ao,ac,rfl,_,hm,_,hx⟩:=hv
 have HX:=Lib.hid hx
 clear hx h2
 unfold maxLen at hm
 obtain ⟨i0,hi,hz0,hz1,hz2⟩:=info_parts Tryz.infoU32
 go_enter Tryz.func280,Tryz.ntmps280
 go_wp2_with fail
 go_loopw [3,4] (fun out i wr=>∃ (ds:List Nat) (j:Nat),i=.int .i64 j∧j=9 * ds.length∧j<l.length+9∧Own wr w.heap.size 190 .u32 out ds∧(∀ x∈ds,x<1000000000)∧val 1000000000 ds=val 10 (l.take j)∧Below w.heap.size w wr) (fun _ i _=>l.length+9 - (intOf i).toNat)
 case atStart=>exact ⟨[],0,rfl,rfl,by omega,World.ownsRow_nil _ _ _ _,by simp,by simp [val],Below.refl _ _⟩
 case round =>
  obtain ⟨ds,j,rfl,hj,hjl,hown,hdx,hdv,hbl⟩:=hrel
  have HJ:=Lib.hid hj
  have HOW:=Lib.hid hown
  have HDX:=Lib.hid hdx
  have HDV:=Lib.hid hdv
  have HBL:=Lib.hid hbl
  have hsr:=hbl.size
  obtain ⟨oo,oc,rfl,_,_,_,_⟩:=hown.rd
  clear hj hown hdx hdv hbl
  by_cases hjn:j<l.length
  · obtain ⟨e,he⟩:∃ e:Nat,e=min (j+9) l.length:=⟨_,rfl⟩
    have hel:e≤l.length:=by omega
    have hje:j<e:=by omega
    have he9:e≤j+9:=by omega
    have hmn:∀ (ts:Array TypeId) (t:TypeId) (w:World),(Builtin.min_ ts t #[.int .i64 ((j:Int)+9),.int .i64 (l.length:Int)]).run Tryz.prog w=.ok (.int .i64 (e:Int)) w:=by
     intro ts t w
     rw [run_min_int2]
     congr 2
     subst he
     split <;> omega
    have HE:Hid (l.take (j+9)=l.take e):=by
     unfold Hid
     rcases Nat.lt_or_ge (j+9) l.length with h | h
     · congr 1; omega
     · rw [List.take_of_length_le (by omega),List.take_of_length_le (by omega)]
    clear he
    go_wp2_with fail
    have h0:((l.take e).drop e)=[]:=List.drop_of_length_le (by rw [List.length_take]; exact Nat.min_le_left _ _)
    go_loop [5,6] (fun n k=>∃ (t nn:Nat),n=.int .u32 nn∧k=.int .i64 ((t:Int) - 1)∧j≤t∧t≤e∧nn=val 10 ((l.take e).drop t)) (fun _ k=>(intOf k+1).toNat)
    case atStart=>exact ⟨e,0,rfl,rfl,by omega,Nat.le_refl _,by rw [h0]; rfl⟩
    case round =>
     obtain ⟨t,nn,rfl,rfl,hjt,hte,hnn⟩:=hrel
     have HNN:=Lib.hid hnn
     have hnl:nn<1000000000:=by rw [hnn]; exact Qm2 H2.out.1 (by omega)
     clear hnn
     by_cases htj:j<t
     · obtain ⟨q,rfl⟩:∃ q,t=q+1:=⟨t - 1,by omega⟩
       obtain ⟨ad,rfl,hcell⟩:=HX.out q (by omega)
       have hc:=(HBL.out.cell (World.block_lt_of_cell? w _ hcell)).trans hcell
       have HST:=Qoa (l:=l) hel (show q<e by omega)
       rw [← HNN.out] at HST
       have hnew:10 * nn+dg l q<1000000000:=by
        have:=Qm2 (l:=l) (e:=e) (t:=q) H2.out.1 (by omega)
        omega
       have HST2:=Lib.hid HST
       clear HST hcell
       rw [show (((q+1:Nat):Int) - 1)=(q:Int) by omega]
       have hq0:(0:Int)≤(q:Int):=by omega
       have hq1:(q:Int)<(l.length:Int):=by omega
       have hq2:(j:Int)≤(q:Int):=by omega
       go_wp2_with fail
       go_round
       case rel=>exact ⟨q,10 * nn+dg l q,by go_num,by go_num,by omega,by omega,by rw [HST2.out]; omega⟩
       case measure=>simp [intOf]
     · obtain rfl:t=j:=by omega
       have hq2:¬ ((t:Int)≤(t:Int) - 1):=by omega
       have HST:=Lib.hid (Qno hel (Nat.le_of_lt hje) HJ.out HDV.out)
       have HDL:Hid (ds.length≤100000000):=by have:=HJ.out; unfold Hid; omega
       have HNX:Hid (∀ x∈ds++[nn],x<1000000000):=by
        intro x hx
        rcases List.mem_append.1 hx with h | h
        · exact HDX.out x h
        · simp at h; omega
       go_wp2_with (at_builtin; refine app1 rfl _ _ 24 rfl 190 .u32 i0 4 Tryz.underlying24 hi hz0 hz1 hz2 w.heap.size _ ds rfl HOW.out _ nn rfl rfl rfl (by have:=HDL.out; unfold maxLen; omega) (by have:=HDL.out; omega) (by omega) ?_; intro v' w5 hown2 hb5)
       go_roundw
       case rel=>exact ⟨ds++[nn],t+9,by go_num,by have:=HJ.out; simp; omega,by omega,hown2,HNX.out,by rw [HE.out,HNN.out]; exact HST.out,HBL.out.trans (hb5.mono (by omega))⟩
       case measure=>simp [intOf]; omega
  · have HVE:Hid (val 1000000000 ds=val 10 l):=by have:=HDV.out; rwa [List.take_of_length_le (by omega)] at this
    have HR:Hid (ds=digs 1000000000 (val 10 l)):=by
     unfold Hid
     rw [← HVE.out]
     refine (QnI HDX.out ?_).digs (by omega)
     rcases Nat.eq_zero_or_pos ds.length with h0 | h0
     · exact .inl h0
     right
     have hj2:=HJ.out
     have h3:=QdQ H2.out (by omega)
     have h4:(1000000000:Nat) ^ (ds.length - 1)≤10 ^ (l.length - 1):=by
      rw [show (1000000000:Nat)=10 ^ 9 from rfl,← Nat.pow_mul]
      exact Nat.pow_le_pow_right (by omega) (by omega)
     rw [HVE.out]; omega
    go_wp2_with fail
    go_ret
    exact ⟨_,rfl,by rw [← HR.out]; exact HOW.out,HBL.out⟩
end Go.Proofs.YtmbmbcamecfnkaaGreatDoor
namespace Go.Proofs.YtmbmbcamecfnkaaGreatDoor
open Go.RowKit
def NewS (B:Nat) (v:Value):Prop:=∀ a n cap,v=.slice (some a) n cap→B≤a.block
theorem NewS.none (B n cap:Nat):NewS B (.slice .none n cap):=fun a n cap h=>by cases h
theorem NewS.mono {B C:Nat} {v:Value} (h:NewS C v) (hb:B≤C):NewS B v:=fun a n cap e=>Nat.le_trans hb (h a n cap e)
theorem Own.newS {w:World} {B:Nat} {e:TypeId} {k:IntKind} {v:Value} {l:List Nat} (h:Own w B e k v l):NewS B v:=by
 rcases h.2 with ⟨rfl,hn⟩ | ⟨g,cap,cur,rfl,hg,_⟩
 · exact NewS.none _ _ _
 · intro a n c e; cases e; exact hg
def QuJ (v u:Value):Prop:=∀ ao n cap,v=.slice ao n cap→∃ m,u=.slice ao m cap
theorem QuJ.newS {B:Nat} {ao:Option Addr} {n cap:Nat} {u:Value} (h:QuJ (.slice ao n cap) u) (hv:NewS B (.slice ao n cap)):NewS B u:=by
 obtain ⟨m,rfl⟩:=h _ _ _ rfl
 intro a n' c e
 cases e
 exact hv _ _ _ rfl
theorem Qfx (v:Value) (l:List Nat) (w:World) (hv:RdI w v .u8 l) (h2:∀ x∈l,x<10) :
  Calls Tryz.prog 332 #[v] w fun e w'=>∃ u,e=.returned u∧RdI w' u .u8 (digs 10 (val 10 l))∧QuJ v u∧w=w':=by
 have hv':=Lib.hid hv
 have H2:=Lib.hid h2
 obtain ⟨ao,ac,rfl,_,hm,_,hx⟩:=hv
 have HX:=Lib.hid hx
 clear hx h2
 unfold maxLen at hm
 go_enter Tryz.func332,Tryz.ntmps332
 go_wp2_with fail
 go_loop [0] (fun i=>∃ kk:Nat,i=.slice ao kk ac∧kk≤l.length∧val 10 (l.take kk)=val 10 l) (fun i=>QrA i)
 case atStart=>exact ⟨l.length,rfl,by omega,by rw [List.take_length]⟩
 case round =>
  obtain ⟨k,rfl,hk,hval⟩:=hrel
  have HV:=Lib.hid hval
  clear hval
  by_cases hk0:0<k
  · obtain ⟨k,rfl⟩:∃ j,k=j+1:=⟨k - 1,by omega⟩
    obtain ⟨ad,rfl,hcell⟩:=HX.out k (by omega)
    have hc2:w.cell? (ad.add ((((k+1:Nat):Int) - 1).toNat))=some (.int .u8 (dg l k:Nat)):=by
     rw [show (((k+1:Nat):Int) - 1).toNat=k by omega]; exact hcell
    by_cases hd:dg l k=0
    · have hb:((dg l k:Int)==0)=true:=by simp [hd]
      have HD:=Lib.hid hd
      clear hd
      go_wp2_with fail
      go_round
      case rel =>
       refine ⟨k,by go_num,by omega,?_⟩
       have:=HV.out
       rw [Qft,HD.out] at this
       omega
      case measure=>simp [QrA]
    · have hb:((dg l k:Int)==0)=false:=by simp [hd]
      have HD:=Lib.hid hd
      clear hd
      go_wp2_with fail
      go_ret
      refine ⟨_,rfl,?_,(fun ao n cap h=>by cases h; exact ⟨_,rfl⟩),rfl⟩
      have hr:Rgt 10 (l.take (k+1)):=QcS (fun x hx=>H2.out x (List.mem_of_mem_take hx)) (.inr (by
       have hl:(l.take (k+1)).length=k+1:=by simp; omega
       rw [hl,Nat.add_sub_cancel,QcN _ k (by omega)]
       have:=HD.out
       rw [QcN _ k (by omega)] at this
       simpa using this))
      rw [← HV.out,← hr.digs (by omega)]
      exact hv'.out.take hk
  · obtain rfl:k=0:=by omega
    go_wp2_with fail
    go_ret
    refine ⟨_,rfl,?_,(fun ao n cap h=>by cases h; exact ⟨_,rfl⟩),rfl⟩
    rw [← HV.out,List.take_zero,val,Qav]
    exact (hv'.out.take (j:=0) (by omega))
set_option maxRecDepth 100000 in
set_option maxHeartbeats 2000000 in
theorem Qdq (v u:Value) (l m:List Nat) (w:World) (hv:RdI w v .u8 l) (hu:RdI w u .u8 m) (hl:∀ x∈l,x<10) (hm:∀ x∈m,x<10) (h1:l.length≤100000000) (h2:m.length≤100000000) :
  Calls Tryz.prog 331 #[v,u] w fun e w'=>∃ u,e=.returned u∧RdI w' u .u8 (digs 10 (val 10 l+val 10 m))∧NewS w.heap.size u∧Below w.heap.size w w':=by
 have HL:=Lib.hid hl
 have HM:=Lib.hid hm
 obtain ⟨ao,ac,rfl,_,hac,_,hx⟩:=hv
 obtain ⟨bo,bc,rfl,_,hbc,_,hy⟩:=hu
 have HX:=Lib.hid hx
 have HY:=Lib.hid hy
 clear hl hm hx hy
 obtain ⟨i0,hi,hz0,hz1,hz2⟩:=info_parts Tryz.infoU8
 obtain ⟨n,hn⟩:∃ n,n=max l.length m.length:=⟨_,rfl⟩
 have hln:l.length≤n:=by omega
 have hmn:m.length≤n:=by omega
 have hn1:n≤100000000:=by omega
 have hnn:n=l.length∨n=m.length:=by omega
 clear hn
 go_enter Tryz.func331,Tryz.ntmps331
 go_wp2_with fail
 go_loopw [5,6,7] (fun out c i wr=>∃ (o:List Nat) (cc kk:Nat),i=.int .i64 kk∧c=.int .u8 cc∧Own wr w.heap.size 5 .u8 out o∧o.length=kk∧kk≤n+1∧cc≤1∧(kk=n+1→cc=0) ∧
   val 10 o+10 ^ kk * cc=val 10 (l.take kk)+val 10 (m.take kk)∧(∀ x∈o,x<10)∧Below w.heap.size w wr) (fun _ _ k _=>n+1 - (intOf k).toNat)
 case atStart=>exact ⟨[],0,0,rfl,rfl,World.ownsRow_nil _ _ _ _,rfl,by omega,by omega,by omega,by simp [val],by simp,Below.refl _ _⟩
 case round =>
  obtain ⟨o,c,k,rfl,rfl,hown,hol,hk,hc9,hkc,hval,hox,hbl⟩:=hrel
  have HV:=Lib.hid hval
  have HL2:=Lib.hid hol
  have HOX:=Lib.hid hox
  have HBL:=Lib.hid hbl
  have hsz:=hbl.size
  have HOW:=Lib.hid hown
  have HKC:=Lib.hid hkc
  clear hval hol hox hbl hkc
  have hdl:dg l k≤9:=by have:=Qbv HL.out (by omega) k; omega
  have hdm:dg m k≤9:=by have:=Qbv HM.out (by omega) k; omega
  by_cases hcase:k<l.length∨k<m.length∨0<c
  · have hk1:k<n+1:=by
     rcases hcase with h | h | h
     · omega
     · omega
     · have:=HKC.out; omega
    by_cases ha:k<l.length
    · by_cases hb:k<m.length
      · skip
        obtain ⟨ad,had,hcell⟩:=HX.out k ha
        subst had
        have hca:=(HBL.out.cell (World.block_lt_of_cell? w _ hcell)).trans hcell
        clear hcell
        obtain ⟨bd,hbd,hcell⟩:=HY.out k hb
        subst hbd
        have hcb:=(HBL.out.cell (World.block_lt_of_cell? w _ hcell)).trans hcell
        clear hcell
        have HXX:Hid (((c:Int)+(dg l k:Int)+(dg m k:Int)) % 10=((c+dg l k+dg m k) % 10:Nat)):=by unfold Hid; omega
        have HK:Hid (k+1=n+1→(c+dg l k+dg m k) / 10=0):=by
         intro h
         omega
        clear hcase
        go_wp2_with (at_builtin; refine app1 rfl _ _ 325 rfl 5 .u8 i0 1 Tryz.underlying325 hi hz0 hz1 hz2 w.heap.size _ o rfl HOW.out _ ((c+dg l k+dg m k) % 10) HXX.out rfl rfl (by rw [HL2.out]; unfold maxLen; omega) (by rw [HL2.out]; omega) (by omega) ?_; intro v' w2 hown2 hb2)
        go_roundw
        case rel=>exact ⟨o++[(c+dg l k+dg m k) % 10],(c+dg l k+dg m k) / 10,k+1,by go_num,by go_num,hown2,by simp [HL2.out],by omega,by omega,HK.out,plus10 HV.out HL2.out rfl,by intro x hx; rcases List.mem_append.1 hx with h | h; exact HOX.out x h; simp at h; omega,HBL.out.trans hb2⟩
        case measure=>simp [intOf]; omega
      · skip
        obtain ⟨ad,had,hcell⟩:=HX.out k ha
        subst had
        have hca:=(HBL.out.cell (World.block_lt_of_cell? w _ hcell)).trans hcell
        clear hcell
        have hzb:dg m k=0:=QcM m k (by omega)
        have HXX:Hid (((c:Int)+(dg l k:Int)) % 10=((c+dg l k+dg m k) % 10:Nat)):=by unfold Hid; omega
        have HK:Hid (k+1=n+1→(c+dg l k+dg m k) / 10=0):=by
         intro h
         omega
        clear hcase
        go_wp2_with (at_builtin; refine app1 rfl _ _ 325 rfl 5 .u8 i0 1 Tryz.underlying325 hi hz0 hz1 hz2 w.heap.size _ o rfl HOW.out _ ((c+dg l k+dg m k) % 10) HXX.out rfl rfl (by rw [HL2.out]; unfold maxLen; omega) (by rw [HL2.out]; omega) (by omega) ?_; intro v' w2 hown2 hb2)
        go_roundw
        case rel=>exact ⟨o++[(c+dg l k+dg m k) % 10],(c+dg l k+dg m k) / 10,k+1,by go_num,by go_num,hown2,by simp [HL2.out],by omega,by omega,HK.out,plus10 HV.out HL2.out rfl,by intro x hx; rcases List.mem_append.1 hx with h | h; exact HOX.out x h; simp at h; omega,HBL.out.trans hb2⟩
        case measure=>simp [intOf]; omega
    · by_cases hb:k<m.length
      · skip
        have hza:dg l k=0:=QcM l k (by omega)
        obtain ⟨bd,hbd,hcell⟩:=HY.out k hb
        subst hbd
        have hcb:=(HBL.out.cell (World.block_lt_of_cell? w _ hcell)).trans hcell
        clear hcell
        have HXX:Hid (((c:Int)+(dg m k:Int)) % 10=((c+dg l k+dg m k) % 10:Nat)):=by unfold Hid; omega
        have HK:Hid (k+1=n+1→(c+dg l k+dg m k) / 10=0):=by
         intro h
         omega
        clear hcase
        go_wp2_with (at_builtin; refine app1 rfl _ _ 325 rfl 5 .u8 i0 1 Tryz.underlying325 hi hz0 hz1 hz2 w.heap.size _ o rfl HOW.out _ ((c+dg l k+dg m k) % 10) HXX.out rfl rfl (by rw [HL2.out]; unfold maxLen; omega) (by rw [HL2.out]; omega) (by omega) ?_; intro v' w2 hown2 hb2)
        go_roundw
        case rel=>exact ⟨o++[(c+dg l k+dg m k) % 10],(c+dg l k+dg m k) / 10,k+1,by go_num,by go_num,hown2,by simp [HL2.out],by omega,by omega,HK.out,plus10 HV.out HL2.out rfl,by intro x hx; rcases List.mem_append.1 hx with h | h; exact HOX.out x h; simp at h; omega,HBL.out.trans hb2⟩
        case measure=>simp [intOf]; omega
      · skip
        have hza:dg l k=0:=QcM l k (by omega)
        have hzb:dg m k=0:=QcM m k (by omega)
        have hc0:0<c:=by omega
        have HXX:Hid (((c:Int)) % 10=((c+dg l k+dg m k) % 10:Nat)):=by unfold Hid; omega
        have HK:Hid (k+1=n+1→(c+dg l k+dg m k) / 10=0):=by
         intro h
         omega
        clear hcase
        go_wp2_with (at_builtin; refine app1 rfl _ _ 325 rfl 5 .u8 i0 1 Tryz.underlying325 hi hz0 hz1 hz2 w.heap.size _ o rfl HOW.out _ ((c+dg l k+dg m k) % 10) HXX.out rfl rfl (by rw [HL2.out]; unfold maxLen; omega) (by rw [HL2.out]; omega) (by omega) ?_; intro v' w2 hown2 hb2)
        go_roundw
        case rel=>exact ⟨o++[(c+dg l k+dg m k) % 10],(c+dg l k+dg m k) / 10,k+1,by go_num,by go_num,hown2,by simp [HL2.out],by omega,by omega,HK.out,plus10 HV.out HL2.out rfl,by intro x hx; rcases List.mem_append.1 hx with h | h; exact HOX.out x h; simp at h; omega,HBL.out.trans hb2⟩
        case measure=>simp [intOf]; omega
  · have ha:¬ k<l.length:=by omega
    have hb:¬ k<m.length:=by omega
    have hc0:¬ 0<c:=by omega
    have HE:Hid (val 10 o=val 10 l+val 10 m):=by
     have:=HV.out
     rw [List.take_of_length_le (by omega),List.take_of_length_le (by omega),show c=0 by omega] at this
     unfold Hid; omega
    obtain ⟨oo,oc,rfl,_,_,_,_⟩:=hown.rd
    clear hcase
    go_wp2_with fail
    refine (Qfx _ o _ HOW.out.rd HOX.out).mono ?_
    rintro e w2 ⟨u,rfl,hu,hsa,rfl⟩
    have hnw:=hsa.newS HOW.out.newS
    rw [HE.out] at hu
    go_wp2_with fail
    go_ret
    exact ⟨_,rfl,hu,hnw,HBL.out⟩
set_option maxRecDepth 100000 in
set_option maxHeartbeats 4000000 in
theorem Qdp (v:Value) (l:List Nat) (w:World) (hv:RdI w v .u32 l) (h1:l.length≤1000000) (h2:∀ x∈l,x<4294967296) :
  Calls Tryz.prog 279 #[v] w fun e w'=>∃ u,e=.returned u∧RdI w' u .u8 (digs 10 (val 1000000000 l))∧NewS w.heap.size u∧Below w.heap.size w w':=by
 have H2:=Lib.hid h2
 obtain ⟨ao,ac,rfl,_,hm,_,hx⟩:=hv
 have HX:=Lib.hid hx
 clear hx h2
 unfold maxLen at hm
 obtain ⟨i0,hi,hz0,hz1,hz2⟩:=info_parts Tryz.infoU8
 go_enter Tryz.func279,Tryz.ntmps279
 go_wp2_with fail
 go_loopw [3,4] (fun out i wr=>∃ (j:Nat),i=.int .i64 ((j:Int) - 1)∧j≤l.length∧RdI wr out .u8 (digs 10 (val 1000000000 (l.drop j)))∧NewS w.heap.size out∧Below w.heap.size w wr) (fun _ i _=>(intOf i+1).toNat)
 case atStart=>exact ⟨l.length,by go_num,by omega,by rw [List.drop_length,val,Qav]; exact ⟨none,0,rfl,by simp,by unfold maxLen; omega,fun _=>rfl,fun i hi=>by simp at hi⟩,NewS.none _ _ _,Below.refl _ _⟩
 case round =>
  obtain ⟨j,rfl,hj,hout,hnw,hbl⟩:=hrel
  have HNW:=Lib.hid hnw
  clear hnw
  have HO:=Lib.hid hout
  obtain ⟨oo,oc,rfl,_,hom,_,_⟩:=hout
  have HBL:=Lib.hid hbl
  have hsr:=hbl.size
  clear hbl
  by_cases hj0:0<j
  · obtain ⟨i,rfl⟩:∃ i,j=i+1:=⟨j - 1,by omega⟩
    have hil:i<l.length:=by omega
    obtain ⟨ad,rfl,hcell0⟩:=HX.out i hil
    have HCELL:Hid (w.cell? (ad.add i)=some (.int .u32 (dg l i:Nat))):=hcell0
    have hlt0:=World.block_lt_of_cell? w _ hcell0
    have HLT:=Lib.hid hlt0
    clear hcell0 hlt0
    obtain ⟨N,hN⟩:∃ N,N=val 1000000000 (l.drop (i+1)):=⟨_,rfl⟩
    have HDR:Hid (val 1000000000 (l.drop i)=dg l i+1000000000 * N):=by unfold Hid; rw [Qa4 l i hil,val,hN]
    have hNl:N<1000000000 ^ (2 * l.length):=by
     rw [hN]
     exact Nat.lt_of_lt_of_le (Qbx _ fun x hx=>H2.out x (List.mem_of_mem_drop hx)) (Nat.pow_le_pow_right (by omega) (by rw [List.length_drop]; omega))
    have hdl:=QcL hNl
    rw [← hN] at HO ⊢
    clear hN hNl
    rw [show (((i+1:Nat):Int) - 1)=(i:Int) by omega]
    rcases Nat.eq_zero_or_pos N with hz | hp
    · subst hz
      have hc:wr.cell? (ad.add i)=some (.int .u32 (dg l i:Nat)):=(HBL.out.cell HLT.out).trans HCELL.out
      have HOP:Hid (RdI wr (.slice oo (digs 10 0).length oc) .u8 []):=HO.out
      have HOPX:Hid (∀ x∈([]:List Nat),x<10):=by intro x hx; simp at hx
      have HOPL:Hid (([]:List Nat).length≤100000000):=by unfold Hid; simp
      have HOPV:Hid (val 10 []=1000000000 * 0):=rfl
      have HBW:Hid (Below w.heap.size w wr):=HBL.out
      clear HO
      rw [Qav,List.length_nil] at HOP ⊢
      obtain ⟨wq,hwq⟩:∃ wq,wq=wr:=⟨_,rfl⟩
      subst hwq
      go_wp2_with fail
      have hsW:=HBW.out.size
      go_loopw [5,6] (fun d n wx=>∃ (ds:List Nat) (nn:Nat),n=.int .u32 nn∧nn<4294967296∧Own wx wq.heap.size 5 .u8 d ds∧(∀ x∈ds,x<10)∧val 10 ds+10 ^ ds.length * nn=dg l i∧ds.length≤20∧Below wq.heap.size wq wx) (fun _ n _=>(intOf n).toNat)
      case atStart=>exact ⟨[],dg l i,rfl,Qbv H2.out (by omega) i,World.ownsRow_nil _ _ _ _,by simp,by simp [val],by simp,Below.refl _ _⟩
      case round =>
       obtain ⟨ds,nn,rfl,hnn,hown,hdx,hdv,hdl,hbx⟩:=hrel
       have HDX:=Lib.hid hdx
       have HDV:=Lib.hid hdv
       have HBX:=Lib.hid hbx
       have HOW:=Lib.hid hown
       have hsx:=hbx.size
       obtain ⟨eo,ec,rfl,_,_,_,_⟩:=hown.rd
       clear hown
       have HLI:=Lib.hid (Qbv H2.out (by omega) i)
       clear hdx hdv hbx
       by_cases hn0:0<nn
       · have HXX:Hid ((nn:Int) % 10=(nn % 10:Nat)):=by unfold Hid; omega
         have hdl2:ds.length+1≤20:=by
          have h1:=HDV.out
          have h2:10 ^ ds.length * 1≤10 ^ ds.length * nn:=Nat.mul_le_mul_left _ hn0
          have h3:10 ^ ds.length<10 ^ 10:=by have:=HLI.out; omega
          have:=(Nat.pow_lt_pow_iff_right (by omega)).1 h3
          omega
         go_wp2_with (at_builtin; refine app1 rfl _ _ 325 rfl 5 .u8 i0 1 Tryz.underlying325 hi hz0 hz1 hz2 wq.heap.size _ ds rfl HOW.out _ (nn % 10) (by first | exact HXX.out | (rw [← HXX.out]; try rfl)) rfl rfl (by unfold maxLen; omega) (by omega) (by omega) ?_; intro v' w5 hown2 hb5)
         go_roundw
         case rel=>exact ⟨ds++[nn % 10],nn / 10,by go_num,by omega,hown2,by intro x hx; rcases List.mem_append.1 hx with h | h; exact HDX.out x h; simp at h; omega,QmW HDV.out,by simp; omega,HBX.out.trans (hb5.mono (by omega))⟩
         case measure=>simp [intOf]; omega
       · obtain rfl:nn=0:=by omega
         have HDE:Hid (val 10 ds=dg l i):=by have:=HDV.out; unfold Hid; omega
         go_wp2_with fail
         refine (Qdq _ _ _ ds _ (HOP.out.keep HBX.out) HOW.out.rd HOPX.out HDX.out HOPL.out (by omega)).mono ?_
         rintro e w6 ⟨u,rfl,hu,hnu,hb6⟩
         have HNU:=Lib.hid hnu
         clear hnu
         rw [HDE.out,HOPV.out,Nat.add_comm,← HDR.out] at hu
         go_wp2_with fail
         go_roundw
         case rel=>exact ⟨i,by go_num,by omega,hu,HNU.out.mono (by omega),(HBW.out.trans (HBX.out.mono hsW)).trans (hb6.mono (by omega))⟩
         case measure=>simp [intOf] <;> omega
    · have hpl:0<(digs 10 N).length:=by
       rcases Nat.eq_zero_or_pos (digs 10 N).length with h | h
       · have:=Qah 10 (by omega) N
         rw [List.length_eq_zero_iff.1 h] at this
         simp [val] at this; omega
       · exact h
      go_wp2_with (first | (at_make; refine mk0 rfl _ _ 325 rfl 5 .u8 i0 1 Tryz.underlying325 hi hz0 hz1 hz2 _ _ _ _ 9 rfl rfl rfl rfl (by omega) (by unfold maxLen; omega) ?_; intro w3 hown3 hb3; have hs3:=hb3.size) | (at_builtin; refine appL rfl _ _ 325 rfl 5 .u8 i0 1 Tryz.underlying325 hi hz0 hz1 hz2 wr.heap.size _ (List.replicate 9 0) rfl hown3 _ (digs 10 N) rfl (HO.out.keep hb3) (by simp; unfold maxLen; omega) (by simp; omega) (by omega) ?_; intro v4 w4 hown4 hb4; obtain ⟨vo,vc,rfl,_,_,_,_⟩:=hown4.rd; have HOP:=Lib.hid hown4.rd; have HBW:Hid (Below w.heap.size w w4):=((HBL.out.trans (hb3.mono hsr)).trans (hb4.mono hsr)); have hc:w4.cell? (ad.add i)=some (.int .u32 (dg l i:Nat)):=(HBW.out.cell HLT.out).trans HCELL.out; have HOPX:Hid (∀ x∈List.replicate 9 0++digs 10 N,x<10):=(by intro x hx; rcases List.mem_append.1 hx with h | h; (rw [List.eq_of_mem_replicate h]; omega); exact Qau _ (by omega) _ x h); have HOPL:Hid ((List.replicate 9 0++digs 10 N).length≤100000000):=(by unfold Hid; simp; omega); have HOPV:Hid (val 10 (List.replicate 9 0++digs 10 N)=1000000000 * N):=(by unfold Hid; rw [Qgi,Qah _ (by omega)]); clear hown3 hown4 hb3 hb4 HO))
      go_wp2_with fail
      have hsW:=HBW.out.size
      go_loopw [5,6] (fun d n wx=>∃ (ds:List Nat) (nn:Nat),n=.int .u32 nn∧nn<4294967296∧Own wx w4.heap.size 5 .u8 d ds∧(∀ x∈ds,x<10)∧val 10 ds+10 ^ ds.length * nn=dg l i∧ds.length≤20∧Below w4.heap.size w4 wx) (fun _ n _=>(intOf n).toNat)
      case atStart=>exact ⟨[],dg l i,rfl,Qbv H2.out (by omega) i,World.ownsRow_nil _ _ _ _,by simp,by simp [val],by simp,Below.refl _ _⟩
      case round =>
       obtain ⟨ds,nn,rfl,hnn,hown,hdx,hdv,hdl,hbx⟩:=hrel
       have HDX:=Lib.hid hdx
       have HDV:=Lib.hid hdv
       have HBX:=Lib.hid hbx
       have HOW:=Lib.hid hown
       have hsx:=hbx.size
       obtain ⟨eo,ec,rfl,_,_,_,_⟩:=hown.rd
       clear hown
       have HLI:=Lib.hid (Qbv H2.out (by omega) i)
       clear hdx hdv hbx
       by_cases hn0:0<nn
       · have HXX:Hid ((nn:Int) % 10=(nn % 10:Nat)):=by unfold Hid; omega
         have hdl2:ds.length+1≤20:=by
          have h1:=HDV.out
          have h2:10 ^ ds.length * 1≤10 ^ ds.length * nn:=Nat.mul_le_mul_left _ hn0
          have h3:10 ^ ds.length<10 ^ 10:=by have:=HLI.out; omega
          have:=(Nat.pow_lt_pow_iff_right (by omega)).1 h3
          omega
         go_wp2_with (at_builtin; refine app1 rfl _ _ 325 rfl 5 .u8 i0 1 Tryz.underlying325 hi hz0 hz1 hz2 w4.heap.size _ ds rfl HOW.out _ (nn % 10) (by first | exact HXX.out | (rw [← HXX.out]; try rfl)) rfl rfl (by unfold maxLen; omega) (by omega) (by omega) ?_; intro v' w5 hown2 hb5)
         go_roundw
         case rel=>exact ⟨ds++[nn % 10],nn / 10,by go_num,by omega,hown2,by intro x hx; rcases List.mem_append.1 hx with h | h; exact HDX.out x h; simp at h; omega,QmW HDV.out,by simp; omega,HBX.out.trans (hb5.mono (by omega))⟩
         case measure=>simp [intOf]; omega
       · obtain rfl:nn=0:=by omega
         have HDE:Hid (val 10 ds=dg l i):=by have:=HDV.out; unfold Hid; omega
         go_wp2_with fail
         refine (Qdq _ _ _ ds _ (HOP.out.keep HBX.out) HOW.out.rd HOPX.out HDX.out HOPL.out (by omega)).mono ?_
         rintro e w6 ⟨u,rfl,hu,hnu,hb6⟩
         have HNU:=Lib.hid hnu
         clear hnu
         rw [HDE.out,HOPV.out,Nat.add_comm,← HDR.out] at hu
         go_wp2_with fail
         go_roundw
         case rel=>exact ⟨i,by go_num,by omega,hu,HNU.out.mono (by omega),(HBW.out.trans (HBX.out.mono hsW)).trans (hb6.mono (by omega))⟩
         case measure=>simp [intOf] <;> omega
  · obtain rfl:j=0:=by omega
    go_wp2_with fail
    go_ret
    exact ⟨_,rfl,HO.out,HNW.out,HBL.out⟩
end Go.Proofs.YtmbmbcamecfnkaaGreatDoor
namespace Go.Proofs.YtmbmbcamecfnkaaGreatDoor
open Go.RowKit
theorem Qt4:(Tryz.prog.info? 3).map (fun i=>(i.zero,i.size,i.bytes))=some (some (.int .i64 0),1,8):=by kernel_rfl
theorem QdK (n:Int) (h:-9223372036854775808≤n∧n≤9223372036854775807):IntKind.i64.wrap n=n:=by
 simp only [IntKind.wrap,IntKind.signed,IntKind.bits]
 simp
 omega
theorem QoL {l m S:List Nat} {i k:Nat} (h:val 10 S=val 10 (l.take i) * val 10 m+10 ^ i * (dg l i * val 10 (m.take k))) (hj:i+k<S.length) {p:Nat} (hp:p=dg l i * dg m k) :
  val 10 (S.set (i+k) (dg S (i+k)+p))=val 10 (l.take i) * val 10 m+10 ^ i * (dg l i * val 10 (m.take (k+1))):=by
 have e1:=QoC 10 S (i+k) (dg S (i+k)+p) hj
 rw [Qft,Nat.mul_add,Nat.mul_add]
 have e3:10 ^ i * (dg l i * (10 ^ k * dg m k))=10 ^ (i+k) * p:=by
  subst hp
  rw [Nat.pow_add,Nat.mul_left_comm (dg l i),← Nat.mul_assoc]
 rw [e3]
 generalize 10 ^ (i+k)=Q at *
 rw [Nat.mul_add] at e1
 omega
theorem QmX (l:List Nat) (j y p:Nat):dg (l.set j y) p=if p=j∧j<l.length then y else dg l p:=by
 unfold dg
 simp only [List.getD_eq_getElem?_getD,List.getElem?_set]
 by_cases h:j=p
 · subst h
   by_cases h2:j<l.length <;> simp [h2]
 · have h2:¬ p=j:=fun h'=>h h'.symm
   simp [h,h2]
theorem Qrl {O S:List Nat} {i c:Nat} (h:val 10 (O.take i)+10 ^ i * c=val 10 (S.take i)) (hi:i<O.length) {x:Nat} (hx:x=c+dg S i) :
  val 10 ((O.set i (x % 10)).take (i+1))+10 ^ (i+1) * (x / 10)=val 10 (S.take (i+1)):=by
 rw [Qft,Qft,List.take_set_of_le (by omega),QmX,if_pos ⟨rfl,hi⟩,Nat.pow_succ]
 have e:=Nat.mod_add_div x 10
 generalize x % 10=r at *
 generalize x / 10=q at *
 generalize 10 ^ i=P at *
 have e2:P * x=P * c+P * dg S i:=by rw [hx,Nat.mul_add]
 have e3:P * x=P * r+P * 10 * q:=by rw [← e,Nat.mul_add,Nat.mul_assoc]
 omega
theorem Qs8 {l m:List Nat} (hl:∀ x∈l,x<10) (hm:∀ x∈m,x<10):val 10 l * val 10 m<10 ^ (l.length+m.length):=by
 rw [Nat.pow_add]
 exact Nat.mul_lt_mul'' (Qby 10 l hl) (Qby 10 m hm)
set_option maxRecDepth 100000 in
set_option maxHeartbeats 4000000 in
theorem QjD (v u:Value) (l m:List Nat) (w:World) (hv:RdI w v .u8 l) (hu:RdI w u .u8 m) (hl:∀ x∈l,x<10) (hm:∀ x∈m,x<10) (h1:l.length≤1000000) (h2:m.length≤1000000) :
  Calls Tryz.prog 334 #[v,u] w fun e w'=>∃ u,e=.returned u∧RdI w' u .u8 (digs 10 (val 10 l * val 10 m))∧Below w.heap.size w w':=by
 have HL:=Lib.hid hl
 have HM:=Lib.hid hm
 obtain ⟨ao,ac,rfl,_,hac,_,hx⟩:=hv
 obtain ⟨bo,bc,rfl,_,hbc,_,hy⟩:=hu
 have HX:=Lib.hid hx
 have HY:=Lib.hid hy
 clear hl hm hx hy
 obtain ⟨i0,hi,hz0,hz1,hz2⟩:=info_parts Tryz.infoU8
 obtain ⟨j0,hj,hy0,hy1,hy2⟩:=info_parts Qt4
 have hnil:∀ (w:World) (l:List Nat),l=[]→RdI w (.slice none 0 0) .u8 l:=by
  rintro w _ rfl
  exact ⟨none,0,rfl,by simp,by unfold maxLen; omega,fun _=>rfl,fun i hi=>by simp at hi⟩
 by_cases hl0:l.length=0
 · have hb:((l.length:Int)==0)=true:=by simp [hl0]
   have HE:Hid (digs 10 (val 10 l * val 10 m)=[]):=by unfold Hid; rw [List.length_eq_zero_iff.1 hl0,val,Nat.zero_mul,Qav]
   go_enter Tryz.func334,Tryz.ntmps334
   go_wp2_with fail
   go_ret
   exact ⟨_,rfl,hnil _ _ HE.out,Below.refl _ _⟩
 have hb1:((l.length:Int)==0)=false:=by simp only [beq_eq_false_iff_ne,ne_eq]; omega
 by_cases hm0:m.length=0
 · have hb:((m.length:Int)==0)=true:=by simp [hm0]
   have HE:Hid (digs 10 (val 10 l * val 10 m)=[]):=by unfold Hid; rw [List.length_eq_zero_iff.1 hm0,val,Nat.mul_zero,Qav]
   go_enter Tryz.func334,Tryz.ntmps334
   go_wp2_with fail
   go_ret
   exact ⟨_,rfl,hnil _ _ HE.out,Below.refl _ _⟩
 have hb2:((m.length:Int)==0)=false:=by simp only [beq_eq_false_iff_ne,ne_eq]; omega
 clear hnil
 go_enter Tryz.func334,Tryz.ntmps334
 go_wp2_with (at_make; refine mk0 rfl _ _ 400 rfl 3 .i64 j0 8 Tryz.underlying400 hj hy0 hy1 hy2 _ _ _ _ (l.length+m.length) rfl rfl (by simp) (by simp) (by omega) (by unfold maxLen; omega) ?_)
 intro w1 hown hbw1
 obtain ⟨n,hn⟩:∃ n,n=l.length+m.length:=⟨_,rfl⟩
 rw [← hn] at hown ⊢
 have hn1:n≤2000000:=by omega
 have hnl:l.length≤n:=by omega
 have HN:=Lib.hid hn
 have hii:∀ (i k:Nat),i<l.length→k<m.length→i+k<n:=by intro i k h1 h2; omega
 have HII:=Lib.hid hii
 clear hn hii
 go_wp2_with fail
 go_loopw [6] (fun i wr=>∃ (ii:Nat) (S:List Nat),i=.int .i64 ii∧ii≤l.length∧S.length=n∧(∀ p,dg S p≤81 * ii)∧val 10 S=val 10 (l.take ii) * val 10 m ∧
   Own wr w.heap.size 3 .i64 (.slice (some ⟨w.heap.size,0,none⟩) n n) S∧Below w.heap.size w wr) (fun i _=>l.length - (intOf i).toNat)
 case atStart=>exact ⟨0,List.replicate n 0,rfl,by omega,by simp,by intro p; unfold dg; simp only [List.getD_eq_getElem?_getD,List.getElem?_replicate]; split <;> simp,by
  have:=Qgi 10 n []
  rw [List.append_nil] at this
  rw [this]; simp [val],hown,hbw1⟩
 case round =>
  obtain ⟨i,S,rfl,hil1,hSl,hSx,hSv,hown,hbl⟩:=hrel
  have HOW:=Lib.hid hown
  have HSL:=Lib.hid hSl
  have HSX:=Lib.hid hSx
  have HSV:=Lib.hid hSv
  have HBL:=Lib.hid hbl
  have hsr:=hbl.size
  clear hown hSl hSx hSv hbl
  by_cases hil:i<l.length
  · obtain ⟨ad,rfl,hcell⟩:=HX.out i hil
    have HCA:Hid (∀ wx,Below w.heap.size w wx→wx.cell? (ad.add i)=some (.int .u8 (dg l i:Nat))):=fun wx hb=>(hb.cell (World.block_lt_of_cell? w _ hcell)).trans hcell
    clear hcell
    go_wp2_with fail
    go_loopw [7] (fun k wr=>∃ (kk:Nat) (S:List Nat),k=.int .i64 kk∧kk≤m.length∧S.length=n∧(∀ p,dg S p≤81 * i+81)∧(∀ p,i+kk≤p→dg S p≤81 * i)∧val 10 S=val 10 (l.take i) * val 10 m+10 ^ i * (dg l i * val 10 (m.take kk)) ∧
      Own wr w.heap.size 3 .i64 (.slice (some ⟨w.heap.size,0,none⟩) n n) S∧Below w.heap.size w wr) (fun k _=>m.length - (intOf k).toNat)
    case atStart=>exact ⟨0,S,rfl,by omega,HSL.out,fun p=>by have:=HSX.out p; omega,fun p _=>HSX.out p,by rw [HSV.out]; simp [val],HOW.out,HBL.out⟩
    case round =>
     obtain ⟨k,T,rfl,hk,hTl,hT1,hT2,hTv,hown,hbl⟩:=hrel
     have HOT:=Lib.hid hown
     have HTL:=Lib.hid hTl
     have HT1:=Lib.hid hT1
     have HT2:=Lib.hid hT2
     have HTV:=Lib.hid hTv
     have HBT:=Lib.hid hbl
     have hst:=hbl.size
     clear hTl hT1 hT2 hTv
     by_cases hkm:k<m.length
     · obtain ⟨bd,rfl,hcell⟩:=HY.out k hkm
       have hcb:=(HBT.out.cell (World.block_lt_of_cell? w _ hcell)).trans hcell
       have hca:=HCA.out _ HBT.out
       have hikn:=HII.out i k hil hkm
       have hct:=hown.cell (i+k) (by rw [HTL.out]; omega)
       have hft:=hown.free (i+k)
       have hda:dg l i≤9:=by have:=Qbv HL.out (by omega) i; omega
       have hdb:dg m k≤9:=by have:=Qbv HM.out (by omega) k; omega
       have hdt:dg T (i+k)≤81 * i:=HT2.out _ (Nat.le_refl _)
       obtain ⟨p,hp⟩:∃ p,p=dg l i * dg m k:=⟨_,rfl⟩
       have hp81:p≤81:=by rw [hp]; exact Nat.mul_le_mul hda hdb
       have hpi:(dg l i:Int) * (dg m k:Int)=(p:Int):=by rw [hp]; simp
       have HP:=Lib.hid hp
       have hik0:(0:Int)≤(i:Int)+(k:Int):=by omega
       have hik1:(i:Int)+(k:Int)<(n:Int):=by omega
       have hw1:IntKind.i64.wrap ((i:Int)+(k:Int))=(i:Int)+(k:Int):=QdK _ (by omega)
       have hw2:IntKind.i64.wrap ((dg l i:Int) * (dg m k:Int))=(p:Int):=by rw [hpi]; exact QdK _ (by omega)
       have hw3:IntKind.i64.wrap (p:Int)=(p:Int):=QdK _ (by omega)
       have hw4:IntKind.i64.wrap ((dg T (i+k):Int)+(p:Int))=(dg T (i+k):Int)+(p:Int):=QdK _ (by omega)
       have hw5:IntKind.i64.wrap (dg l i:Int)=(dg l i:Int):=QdK _ (by omega)
       have hw6:IntKind.i64.wrap (dg m k:Int)=(dg m k:Int):=QdK _ (by omega)
       have htn:((i:Int)+(k:Int)).toNat=i+k:=by omega
       have hct2:wr.cell? ⟨w.heap.size,((i:Int)+(k:Int)).toNat,none⟩=some (.int .i64 (dg T (i+k):Nat)):=by rw [htn]; exact hct
       have hft2:wr.frozen? ⟨w.heap.size,((i:Int)+(k:Int)).toNat,none⟩=false:=by rw [htn]; exact hft
       clear hcell hown hbl hp
       clear htn
       go_wp2_with fail
       refine wp_region_still_tail 22 (by kernel_rfl) (by kernel_rfl) ?_
       simp only [List.take_succ_cons,List.take_zero,List.drop_succ_cons,List.drop_zero]
       repeat still_step
       refine wpStill_nil ?_
       change wpList _ _ _ _ _ wr.drew
       go_wp2_with fail
       go_roundw
       case rel =>
        refine ⟨k+1,T.set (i+k) (dg T (i+k)+p),by go_num,by omega,by simp [HTL.out],?_,?_,QoL HTV.out (by rw [HTL.out]; omega) HP.out,?_,(HBT.out.drew).setCell (by simp) _⟩
        · intro q; rw [QmX]; have:=HT1.out q; split <;> omega
        · intro q hq; rw [QmX,if_neg (by omega)]; exact HT2.out q (by omega)
        · exact HOT.out.drew.stored _ _
       case measure=>simp [intOf]; omega
     · have hkm:m.length≤k:=by omega
       go_wp2_with fail
       go_roundw
       case rel =>
        refine ⟨i+1,T,by go_num,by omega,HTL.out,fun p=>by have:=HT1.out p; omega,?_,HOT.out,HBT.out⟩
        have:=HTV.out
        rw [List.take_of_length_le hkm] at this
        rw [this,Qft,Nat.add_mul,Nat.mul_assoc]
       case measure=>simp [intOf]; omega
  · obtain rfl:i=l.length:=by omega
    obtain ⟨wq,hwq⟩:∃ wq,wq=wr:=⟨_,rfl⟩
    subst hwq
    have HSV2:Hid (val 10 S=val 10 l * val 10 m):=by have:=HSV.out; rwa [List.take_length] at this
    have HSR:=Lib.hid HOW.out.rd
    go_wp2_with (at_make; refine mk0 rfl _ _ 325 rfl 5 .u8 i0 1 Tryz.underlying325 hi hz0 hz1 hz2 _ _ _ _ n rfl rfl rfl rfl (by omega) (by unfold maxLen; omega) ?_)
    intro w3 hown3 hb3
    have hs3:=hb3.size
    go_wp2_with fail
    go_loopw [9,10] (fun c i wx=>∃ (ii cc:Nat) (O:List Nat),i=.int .i64 ii∧c=.int .i64 cc∧cc≤100000000000∧ii≤n∧O.length=n∧(∀ x∈O,x<10)∧val 10 (O.take ii)+10 ^ ii * cc=val 10 (S.take ii) ∧
      Own wx wq.heap.size 5 .u8 (.slice (some ⟨wq.heap.size,0,none⟩) n n) O∧Below wq.heap.size wq wx) (fun _ i _=>n - (intOf i).toNat)
    case atStart=>exact ⟨0,0,List.replicate n 0,rfl,rfl,by omega,by omega,by simp,by intro x hx; rw [List.eq_of_mem_replicate hx]; omega,by simp [val],hown3,hb3⟩
    case round =>
     obtain ⟨k,c,O,rfl,rfl,hc,hk,hOl,hOx,hOv,hown,hbx⟩:=hrel
     have HOO:=Lib.hid hown
     have HOL:=Lib.hid hOl
     have HOX:=Lib.hid hOx
     have HOV:=Lib.hid hOv
     have HBX:=Lib.hid hbx
     have hsx:=hbx.size
     by_cases hkn:k<n
     · have hcs:wq.cell? ⟨wq.heap.size,k,none⟩=none∨True:=.inr trivial
       have hct:wr.cell? ⟨w.heap.size,k,none⟩=some (.int .i64 (dg S k:Nat)):=by
        have h:=HOW.out.cell k (by rw [HSL.out]; exact hkn)
        exact (hbx.cell (World.block_lt_of_cell? wq _ h)).trans h
       have hdo:=hown.cell k (by rw [HOL.out]; exact hkn)
       have hfo:=hown.free k
       have hds:dg S k≤81 * l.length:=HSX.out k
       have hki:(0:Int)≤(k:Int):=by omega
       have hkj:(k:Int)<(n:Int):=by omega
       clear hown hOl hOx hOv hbx hcs
       have HXX:Hid (((c:Int)+(dg S k:Int)) % 10=((c+dg S k) % 10:Nat)):=by unfold Hid; omega
       have hl81:81 * l.length≤81000000:=by omega
       go_wp2_with fail
       go_roundw
       case rel =>
        refine ⟨k+1,(c+dg S k) / 10,O.set k ((c+dg S k) % 10),by go_num,by go_num,by omega,by omega,by simp [HOL.out],?_,Qrl HOV.out (by rw [HOL.out]; exact hkn) rfl,?_,HBX.out.setCell (by simp) _⟩
        · intro x hx
          rcases List.mem_or_eq_of_mem_set hx with h | h
          · exact HOX.out x h
          · omega
        · rw [HXX.out]; exact HOO.out.stored _ _
       case measure=>simp [intOf]; omega
     · obtain rfl:k=n:=by omega
       have HE:Hid (val 10 O=val 10 l * val 10 m):=by
        have h3:=HOV.out
        rw [List.take_of_length_le (by rw [HOL.out]; omega),List.take_of_length_le (by rw [HSL.out]; omega),HSV2.out] at h3
        have h4:=Qs8 HL.out HM.out
        rw [← HN.out] at h4
        rcases Nat.eq_zero_or_pos c with h5 | h5
        · rw [h5] at h3; unfold Hid; omega
        · exfalso
          have h6:10 ^ k * 1≤10 ^ k * c:=Nat.mul_le_mul_left _ h5
          omega
       go_wp2_with fail
       refine (Qfx _ O _ HOO.out.rd HOX.out).mono ?_
       rintro e w5 ⟨u,rfl,hu,-,rfl⟩
       rw [HE.out] at hu
       go_wp2_with fail
       go_ret
       exact ⟨_,rfl,hu,HBL.out.trans (HBX.out.mono hsr)⟩
end Go.Proofs.YtmbmbcamecfnkaaGreatDoor
namespace Go.Proofs.YtmbmbcamecfnkaaGreatDoor
open Go.RowKit
set_option maxRecDepth 100000 in
set_option maxHeartbeats 4000000 in
theorem QnK (u:Value) (ls:List (List Nat)) (w:World) (hu:Qeg w u .u32 ls) (h2:wgt ls≤100000) (h3:∀ l∈ls,∀ x∈l,x<4294967296) :
  Calls Tryz.prog 283 #[u] w fun e w'=>∃ u,e=.returned u∧Own w' w.heap.size 190 .u32 u (digs 1000000000 (sumV ls))∧Below w.heap.size w w':=by
 have H3:=Lib.hid h3
 obtain ⟨bo,bc,rfl,_,hbm,hx⟩:=hu
 have HX:=Lib.hid hx
 clear h3 hx
 unfold maxLen at hbm
 go_enter Tryz.func283,Tryz.ntmps283
 go_wp2_with fail
 go_loopw [3,4] (fun out i wr=>∃ (k T:Nat),i=.int .i64 k∧k≤ls.length∧T=(ls.take k).foldl (fun n a=>n+val 1000000000 a) 0∧T<1000000000 ^ (wgt (ls.take k)+0)∧RdI wr out .u8 (digs 10 T)∧Below w.heap.size w wr) (fun _ i _=>ls.length - (intOf i).toNat)
 case atStart=>exact ⟨0,0,rfl,by omega,rfl,by simp [wgt],⟨none,0,rfl,by simp [Qav],by unfold maxLen; omega,fun _=>rfl,fun i hi=>by simp [Qav] at hi⟩,Below.refl _ _⟩
 case round =>
  obtain ⟨k,T,rfl,hk,hT,hTl,hTr,hbl⟩:=hrel
  have HT:=Lib.hid hT
  have HTB:=Lib.hid hTl
  have HTR:=Lib.hid hTr
  have HBL:=Lib.hid hbl
  have hsr:=hbl.size
  have hw6:=Qb6 ls k
  have HTL:Hid ((digs 10 T).length≤1000000):=by have:=QcL hTl; unfold Hid; omega
  obtain ⟨tto,ttc,rfl,_,_,_,_⟩:=hTr
  clear hT hTl
  by_cases hkl:k<ls.length
  · obtain ⟨ad,row,had,hcell,hrow⟩:=HX.out k hkl
    subst had
    have HROW:=Lib.hid (hrow.keep hbl)
    obtain ⟨rro,rrc,rfl,_,_,_,_⟩:=hrow
    have hcr:=(hbl.cell (World.block_lt_of_cell? w _ hcell)).trans hcell
    have HLX:Hid (∀ x∈Qbi ls k,x<4294967296):=by
     refine H3.out _ ?_
     rw [Qez ls k hkl]; exact List.getElem_mem hkl
    have hw7:=Qe6 ls k hkl
    have HRL:Hid ((digs 10 (val 1000000000 (Qbi ls k))).length≤1000000):=by have:=QcL (Qbx _ HLX.out); unfold Hid; omega
    clear hcell hbl
    go_wp2_with fail
    refine (Qdp _ (Qbi ls k) _ HROW.out (by omega) HLX.out).mono ?_
    rintro e w5 ⟨x,rfl,hx5,-,hb5⟩
    go_wp2_with fail
    refine (Qdq _ _ (digs 10 T) (digs 10 (val 1000000000 (Qbi ls k))) _ (HTR.out.keep hb5) hx5 (Qau _ (by omega) _) (Qau _ (by omega) _) (Nat.le_trans HTL.out (by omega)) (Nat.le_trans HRL.out (by omega))).mono ?_
    rintro e w6 ⟨y,rfl,hy6,-,hb6⟩
    rw [Qah _ (by omega),Qah _ (by omega)] at hy6
    have hs5:=hb5.size
    go_wp2_with fail
    go_roundw
    case rel =>
     refine ⟨k+1,_,by go_num,by omega,?_,?_,hy6,HBL.out.trans ((hb5.mono hsr).trans (hb6.mono (by omega)))⟩
     · rw [QbF _ _ _ _ hkl,← HT.out]
     · have e:wgt (ls.take (k+1))+0=wgt (ls.take k)+0+2 * (Qbi ls k).length+1:=by rw [Qbz _ _ hkl]; omega
       rw [e]
       exact Qh2 HTB.out (Qbx _ HLX.out)
    case measure=>simp [intOf]; omega
  · have HE:Hid (T=sumV ls):=by have:=HT.out; rw [List.take_of_length_le (by omega)] at this; exact this
    go_wp2_with fail
    refine (Qdo _ (digs 10 T) _ HTR.out (Nat.le_trans HTL.out (by omega)) (QaP _ (by omega) _)).mono ?_
    rintro e w5 ⟨x,rfl,hx5,hb5⟩
    rw [Qah _ (by omega),HE.out] at hx5
    go_wp2_with fail
    go_ret
    exact ⟨_,rfl,hx5.low hsr,HBL.out.trans (hb5.mono hsr)⟩
set_option maxRecDepth 100000 in
set_option maxHeartbeats 4000000 in
theorem QnJ (u:Value) (ls:List (List Nat)) (w:World) (hu:Qeg w u .u32 ls) (h2:wgt ls≤100000) (h3:∀ l∈ls,∀ x∈l,x<4294967296) :
  Calls Tryz.prog 282 #[u] w fun e w'=>∃ u,e=.returned u∧Own w' w.heap.size 190 .u32 u (digs 1000000000 (Qpy ls))∧Below w.heap.size w w':=by
 have H3:=Lib.hid h3
 obtain ⟨bo,bc,rfl,_,hbm,hx⟩:=hu
 have HX:=Lib.hid hx
 clear h3 hx
 unfold maxLen at hbm
 go_enter Tryz.func282,Tryz.ntmps282
 go_wp2_with fail
 have hone:RdI (w.alloc (.cells #[.int .u8 1] 5)) (.slice (some ⟨w.heap.size,0,none⟩) 1 1) .u8 (digs 10 1):=by
  rw [show digs 10 1=[1] by rw [QbP _ (by omega) _ (by omega)]; rfl]
  exact Qpu _ _ _ _ _ rfl
 have hb1:Below w.heap.size w (w.alloc (.cells #[.int .u8 1] 5)):=(Below.refl _ _).alloc (Nat.le_refl _) _
 go_loopw [3,4] (fun out i wr=>∃ (k T:Nat),i=.int .i64 k∧k≤ls.length∧T=(ls.take k).foldl (fun n a=>n * val 1000000000 a) 1∧T<1000000000 ^ (wgt (ls.take k)+1)∧RdI wr out .u8 (digs 10 T)∧Below w.heap.size w wr) (fun _ i _=>ls.length - (intOf i).toNat)
 case atStart=>exact ⟨0,1,rfl,by omega,rfl,by simp [wgt],hone,hb1⟩
 case round =>
  obtain ⟨k,T,rfl,hk,hT,hTl,hTr,hbl⟩:=hrel
  have HT:=Lib.hid hT
  have HTB:=Lib.hid hTl
  have HTR:=Lib.hid hTr
  have HBL:=Lib.hid hbl
  have hsr:=hbl.size
  have hw6:=Qb6 ls k
  have HTL:Hid ((digs 10 T).length≤1000000):=by have:=QcL hTl; unfold Hid; omega
  obtain ⟨tto,ttc,rfl,_,_,_,_⟩:=hTr
  clear hT hTl
  by_cases hkl:k<ls.length
  · obtain ⟨ad,row,had,hcell,hrow⟩:=HX.out k hkl
    subst had
    have HROW:=Lib.hid (hrow.keep hbl)
    obtain ⟨rro,rrc,rfl,_,_,_,_⟩:=hrow
    have hcr:=(hbl.cell (World.block_lt_of_cell? w _ hcell)).trans hcell
    have HLX:Hid (∀ x∈Qbi ls k,x<4294967296):=by
     refine H3.out _ ?_
     rw [Qez ls k hkl]; exact List.getElem_mem hkl
    have hw7:=Qe6 ls k hkl
    have HRL:Hid ((digs 10 (val 1000000000 (Qbi ls k))).length≤1000000):=by have:=QcL (Qbx _ HLX.out); unfold Hid; omega
    clear hcell hbl
    go_wp2_with fail
    refine (Qdp _ (Qbi ls k) _ HROW.out (by omega) HLX.out).mono ?_
    rintro e w5 ⟨x,rfl,hx5,-,hb5⟩
    go_wp2_with fail
    refine (QjD _ _ (digs 10 T) (digs 10 (val 1000000000 (Qbi ls k))) _ (HTR.out.keep hb5) hx5 (Qau _ (by omega) _) (Qau _ (by omega) _) (Nat.le_trans HTL.out (by omega)) (Nat.le_trans HRL.out (by omega))).mono ?_
    rintro e w6 ⟨y,rfl,hy6,hb6⟩
    rw [Qah _ (by omega),Qah _ (by omega)] at hy6
    have hs5:=hb5.size
    go_wp2_with fail
    go_roundw
    case rel =>
     refine ⟨k+1,_,by go_num,by omega,?_,?_,hy6,HBL.out.trans ((hb5.mono hsr).trans (hb6.mono (by omega)))⟩
     · rw [QbF _ _ _ _ hkl,← HT.out]
     · have e:wgt (ls.take (k+1))+1=wgt (ls.take k)+1+2 * (Qbi ls k).length+1:=by rw [Qbz _ _ hkl]; omega
       rw [e]
       exact QhJ HTB.out (Qbx _ HLX.out)
    case measure=>simp [intOf]; omega
  · have HE:Hid (T=Qpy ls):=by have:=HT.out; rw [List.take_of_length_le (by omega)] at this; exact this
    go_wp2_with fail
    refine (Qdo _ (digs 10 T) _ HTR.out (Nat.le_trans HTL.out (by omega)) (QaP _ (by omega) _)).mono ?_
    rintro e w5 ⟨x,rfl,hx5,hb5⟩
    rw [Qah _ (by omega),HE.out] at hx5
    go_wp2_with fail
    go_ret
    exact ⟨_,rfl,hx5.low hsr,HBL.out.trans (hb5.mono hsr)⟩
end Go.Proofs.YtmbmbcamecfnkaaGreatDoor
namespace Go.Proofs.YtmbmbcamecfnkaaGreatDoor
open Go.RowKit
theorem Qef {A C:Nat} (h:(digs 10 A).length<(digs 10 C).length):A<C:=by
 have:=Qe8 (b:=10) (by omega) (QaP 10 (by omega) A) (QaP 10 (by omega) C) h
 rwa [Qah _ (by omega),Qah _ (by omega)] at this
theorem Qee {A C k:Nat} (h1:k<(digs 10 A).length) (h2:k<(digs 10 C).length) (he:(digs 10 A).drop (k+1)=(digs 10 C).drop (k+1)) (hd:dg (digs 10 A) k<dg (digs 10 C) k):A<C:=by
 have:=Qe7 10 (Qau 10 (by omega) A) h1 h2 he hd
 rwa [Qah _ (by omega),Qah _ (by omega)] at this
theorem Qod {A C:Nat} (h:digs 10 A=digs 10 C):A=C:=by
 have:=congrArg (val 10) h
 rwa [Qah _ (by omega),Qah _ (by omega)] at this
end Go.Proofs.YtmbmbcamecfnkaaGreatDoor
