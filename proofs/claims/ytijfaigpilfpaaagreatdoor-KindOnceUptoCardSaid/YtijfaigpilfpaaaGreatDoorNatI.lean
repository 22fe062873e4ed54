/- nat: Right; DivMod. -/
import Derived.Test.YtijfaigpilfpaaaGreatDoorChecked
import Derived.Test.YtijfaigpilfpaaaGreatDoorBase
import Derived.Deep.RegionHeld3
import Derived.Deep.DrawnRows
import Derived.StillTailTactics
import Derived.Deep.DeepCutAuto
import Derived.Deep.RegionLaw
namespace Go.Proofs.YtijfaigpilfpaaaGreatDoor
open Go.RowKit
theorem Tryz.infoU64:(Tryz.prog.info? 142).map (fun i=>(i.zero,i.size,i.bytes))=some (some (.int .u64 0),1,8):=by kernel_rfl
set_option maxHeartbeats 400000 in
theorem Qr8 (v:Value) (l:List Nat) (k:Int) (w:World) (hv:RdI w v .u64 l) (h0:0≤k∨l=[]) (h1:k≤1000000000000) (h2:-1≤k) :
  Calls Tryz.prog 235 #[v,.int .i64 k] w fun e w'=>e=.returned (.int .u64 (dg l k.toNat:Nat))∧w=w':=by
 obtain ⟨ao,cap,rfl,hc,hm,_,hx⟩:=hv
 unfold maxLen at hm
 by_cases hk:0≤k
 · obtain ⟨k,rfl⟩:=Int.eq_ofNat_of_zero_le hk
   by_cases hk:k<l.length
   · obtain ⟨ad,rfl,hcell⟩:=hx k hk
     clear hx h0 h2
     go_enter Tryz.func235,Tryz.ntmps235
     go_wp2
     go_ret
     exact ⟨by simp,rfl⟩
   · have e1:=Qi0 l k (by omega)
     have E1:=Lib.hid e1
     clear hx h0 h2 e1
     have hk':decide ((k:Int)<(l.length:Int))=false:=by simp; omega
     go_enter Tryz.func235,Tryz.ntmps235
     go_wp2
     go_ret
     exact ⟨by rw [Int.toNat_natCast,E1.out]; rfl,rfl⟩
 · have hl:l=[]:=by rcases h0 with h | h; exact absurd h hk; exact h
   subst hl
   clear hx h0
   have hk':decide ((0:Int)≤k)=false:=by simp; omega
   go_enter Tryz.func235,Tryz.ntmps235
   go_wp2
   go_ret
   exact ⟨by simp [dg],rfl⟩
set_option maxHeartbeats 400000 in
theorem Qnu (v:Value) (l:List Nat) (w:World) (hv:RdI w v .u64 l) (h1:l.length≤1000000000000) :
  Calls Tryz.prog 234 #[v] w fun e w'=>e=.returned (.int .u64 (dg l (l.length - 1):Nat))∧w=w':=by
 have hv':=Lib.hid hv
 obtain ⟨ao,cap,rfl,hc,hm,_,hx⟩:=hv
 clear hx
 unfold maxLen at hm
 have hl:0≤(l.length:Int) - 1∨l=[]:=by
  cases l with
  | nil=>exact .inr rfl
  | cons x l=>left; simp
 have HL:=Lib.hid hl
 clear hl
 go_enter Tryz.func234,Tryz.ntmps234
 go_wp2_with (go_at_call 235; refine (Qr8 _ l _ _ hv'.out HL.out (by omega) (by omega)).mono ?_; rintro e w' ⟨rfl,rfl⟩)
 go_ret
 exact ⟨rfl,rfl⟩
theorem Qm7 {l o:List Nat} {k c:Nat} (h:val 1000000000 o+1000000000 ^ k * c=val 1000000000 (l.take k)) (ho:o.length=k) (x:Nat) (hx:x=dg l k) :
  val 1000000000 (o++[(c+x) % 1000000000])+1000000000 ^ (k+1) * ((c+x) / 1000000000)=val 1000000000 (l.take (k+1)):=by
 subst hx
 have e:val 1000000000 (l.take (k+1))=val 1000000000 (l.take k)+1000000000 ^ k * dg l k:=by
  by_cases hk:k<l.length
  · exact QgV _ l k hk
  · rw [Qi0 l k (by omega),List.take_of_length_le (by omega),List.take_of_length_le (by omega)]; rfl
 rw [e,← h,QgW,ho,Nat.pow_succ]
 have:=Nat.mod_add_div (c+dg l k) 1000000000
 generalize (c+dg l k) % 1000000000=r at *
 generalize (c+dg l k) / 1000000000=q at *
 have e2:1000000000 ^ k * c+1000000000 ^ k * dg l k=1000000000 ^ k * (r+1000000000 * q):=by rw [← Nat.mul_add,← this]
 rw [Nat.mul_add,← Nat.mul_assoc] at e2
 omega
set_option maxRecDepth 100000 in
set_option maxHeartbeats 1000000 in
theorem Qkq (v:Value) (l:List Nat) (w:World) (hv:RdI w v .u64 l) (h1:l.length≤1000000000) (h2:∀ x∈l,x≤8589934592) :
  Calls Tryz.prog 242 #[v] w fun e w'=>∃ u,e=.returned (.agg #[u])∧Own w' w.heap.size 142 .u64 u (digs 1000000000 (val 1000000000 l))∧Below w.heap.size w w':=by
 have hv':=Lib.hid hv
 obtain ⟨ao,cap,rfl,hc,hm,_,hx⟩:=hv
 clear hx
 have H2:=Lib.hid h2
 clear h2
 unfold maxLen at hm
 obtain ⟨i0,hi,hz0,hz1,hz2⟩:=info_parts Tryz.infoU64
 go_enter Tryz.func242,Tryz.ntmps242
 go_wp2_with (at_make; refine wpList_make_own _ rfl _ _ 234 rfl (w.heap.size+1) 142 i0 (.int .u64 0) 1 Tryz.underlying234 hi hz0 hz1 _ _ _ (l.length+2) rfl rfl (by simp) (by rw [hz2]; omega) (by unfold maxLen; omega) (by simp) ?_)
 intro w1 hown hgrow
 have hb1:Below (w.heap.size+1) (w.alloc (Obj.cells #[Value.slice none 0 0] 236)) w1:=(Below.refl _ _).grown hgrow (by simp) (by simp)
 have hb0:Below w.heap.size w (w.alloc (Obj.cells #[Value.slice none 0 0] 236)):=(Below.refl _ _).alloc (Nat.le_refl _) _
 have HB0:=Lib.hid hb0
 clear hb0 hgrow
 obtain ⟨W,hW⟩:∃ W,W=w.alloc (Obj.cells #[Value.slice none 0 0] 236):=⟨_,rfl⟩
 rw [← hW] at HB0 hb1
 have hwc:W.cell? ⟨w.heap.size,0,none⟩=some (Value.slice none 0 0):=by rw [hW]; simp
 have hwf:W.frozen? ⟨w.heap.size,0,none⟩=false:=by rw [hW]; simp
 have hws:W.heap.size=w.heap.size+1:=by rw [hW]; simp
 have HC:=Lib.hid hwc
 have HF:=Lib.hid hwf
 have HS:=Lib.hid hws
 clear hwc hwf hws hW
 go_wp2_with fail
 go_loopw [3,4,5] (fun out c k wr=>∃ (o:List Nat) (cc kk:Nat),k=.int .i64 kk∧c=.int .u64 cc∧Own wr (w.heap.size+1) 142 .u64 out o∧o.length=kk∧kk≤l.length+1∧cc≤9∧(kk=l.length+1→cc=0) ∧
   val 1000000000 o+1000000000 ^ kk * cc=val 1000000000 (l.take kk)∧(∀ x∈o,x<1000000000)∧Below (w.heap.size+1) W wr) (fun _ _ k _=>l.length+1 - (intOf k).toNat)
 case atStart=>exact ⟨[],0,0,rfl,rfl,hown,rfl,by omega,by omega,by omega,by simp [val],by simp,hb1⟩
 case round =>
  obtain ⟨o,c,k,rfl,rfl,hown,hol,hk,hc9,hkc,hval,hox,hbl⟩:=hrel
  have hd:dg l k≤8589934592:=dg_le H2.out k
  have HV:=Lib.hid hval
  have HL:=Lib.hid hol
  have HOX:=Lib.hid hox
  have HBL:=Lib.hid (HB0.out.trans (hbl.mono (by omega)))
  have HR:=Lib.hid (hv'.out.keep HBL.out)
  have hsz:=hbl.size
  rw [HS.out] at hsz
  clear hval hol hox
  by_cases hkl:k<l.length∨(¬ k<l.length∧0<c)
  · have hk1:k<l.length+1:=by omega
    have HX:Hid (((c:Int)+(dg l k:Int)) % 1000000000=((c+dg l k) % 1000000000:Nat)):=by unfold Hid; omega
    have HK:Hid (k+1=l.length+1→(c+dg l k) / 1000000000=0):=by
     intro h; rw [Qi0 l k (by omega)]; omega
    clear hkc
    rcases hkl with hkl | ⟨hkn,hkl⟩
    all_goals
     go_wp2_with (first
      | (go_at_call 235; refine (Qr8 _ l _ _ HR.out (by omega) (by omega) (by omega)).mono ?_; rintro e w' ⟨rfl,rfl⟩)
      | (at_builtin; refine app1 rfl _ _ 234 rfl 142 .u64 i0 8 Tryz.underlying234 hi hz0 hz1 hz2 (w.heap.size+1) _ o rfl hown _ ((c+dg l k) % 1000000000) HX.out rfl rfl (by rw [HL.out]; unfold maxLen; omega) (by rw [HL.out]; omega) (by omega) ?_; intro v' w2 hown2 hb2))
     go_roundw
     case rel=>exact ⟨o++[(c+dg l k) % 1000000000],(c+dg l k) / 1000000000,k+1,by go_num,by go_num,hown2,by simp [HL.out],by omega,by omega,HK.out,
      Qm7 HV.out HL.out _ rfl,by intro x hx; rcases List.mem_append.1 hx with h | h; exact HOX.out x h; simp at h; omega,hbl.trans hb2⟩
     case measure=>simp [intOf]; omega
  · have hc0:c=0:=by omega
    have HC0:=Lib.hid hc0
    have hv0:Hid (val 1000000000 o=val 1000000000 l):=by
     have:=HV.out
     rw [List.take_of_length_le (by omega),hc0] at this
     unfold Hid; omega
    have hcase:¬ k<l.length:=by omega
    obtain ⟨oo,oc,rfl,hoc,hom,_,hox⟩:=hown.rd
    have HW:=Lib.hid hown
    have hol:o.length≤1000000001:=by have:=HL.out; omega
    have hcn:¬ 0<c:=by omega
    have HOX':=HOX
    clear hown hox HV HL hkl hkc hoc hom HR hc0 HC0 HOX hc9 hd hk
    go_wp2_with fail
    go_loopw [3] (fun out w2=>∃ (p:List Nat),Own w2 (w.heap.size+1) 142 .u64 out p∧val 1000000000 p=val 1000000000 l∧(∀ x∈p,x<1000000000)∧p.length≤1000000001∧Below (w.heap.size+1) W w2) (fun out _=>lenOf out)
    case atStart=>exact ⟨o,HW.out,hv0.out,HOX'.out,hol,hbl⟩
    case round =>
     obtain ⟨p,hown,hvp,hpx,hpl,hbp⟩:=hrel
     have HV:=Lib.hid hvp
     have HPX:=Lib.hid hpx
     have HB:=Lib.hid hbp
     have HR:=Lib.hid hown.rd
     have hcl:wr.cell? ⟨w.heap.size,0,none⟩=some (Value.slice none 0 0):=(hbp.cell (p:=⟨w.heap.size,0,none⟩) (by simp)).trans HC.out
     have hcf:wr.frozen? ⟨w.heap.size,0,none⟩=false:=(hbp.frozen (p:=⟨w.heap.size,0,none⟩) (by simp)).trans HF.out
     clear hvp hpx hbp
     by_cases hp:0<p.length
     · obtain ⟨g,gc,rfl,hgc,hgm,hgb,hgs⟩:=hown.at hp
       have HO:=Lib.hid hown
       clear hown
       unfold maxLen at hgm
       by_cases ht:dg p (p.length - 1)=0
       · have hb:((dg p (p.length - 1):Int)==0)=true:=by simp [ht]
         have HT:=Lib.hid ht
         clear ht
         go_wp2_with (go_at_call 234; refine (Qnu _ p _ HR.out (by omega)).mono ?_; rintro e w' ⟨rfl,rfl⟩)
         go_roundw
         case rel=>exact ⟨p.dropLast,HO.out.pop hp,(Qid _ _ hp HT.out).trans HV.out,fun x hx=>HPX.out x ((List.dropLast_sublist p).subset hx),by simp; omega,HB.out⟩
         case measure=>simp [lenOf]; omega
       · have hb:((dg p (p.length - 1):Int)==0)=false:=by simp; omega
         have HT:=Lib.hid ht
         clear ht
         go_wp2_with (go_at_call 234; refine (Qnu _ p _ HR.out (by omega)).mono ?_; rintro e w' ⟨rfl,rfl⟩)
         refine bodyPost_ret (v:=.agg #[Value.slice (some ⟨g,0,none⟩) p.length gc]) (by simp [results,Tryz.results242,go_sem,hcl]) rfl ⟨_,rfl,?_,?_⟩
         · rw [← HV.out,← (Qfm HPX.out (.inr HT.out)).digs (by omega)]
           exact (HO.out.set (by simp) _).low (by omega)
         · exact (HB0.out.trans (HB.out.mono (by omega))).setCell (by simp) _
     · have hp0:p=[]:=List.eq_nil_of_length_eq_zero (by omega)
       subst hp0
       obtain ⟨po,pc,rfl,_,hpm,_,_⟩:=hown.rd
       have HO:=Lib.hid hown
       clear hown
       go_wp2_with fail
       refine bodyPost_ret (v:=.agg #[Value.slice po 0 pc]) (by simp [results,Tryz.results242,go_sem,hcl]) rfl ⟨_,rfl,?_,?_⟩
       · rw [← HV.out,val,Qbx]
         exact (HO.out.set (by simp) _).low (by omega)
       · exact (HB0.out.trans (HB.out.mono (by omega))).setCell (by simp) _
end Go.Proofs.YtijfaigpilfpaaaGreatDoor
namespace Go.Proofs.YtijfaigpilfpaaaGreatDoor
open Go.RowKit
theorem Tryz.infoU32:(Tryz.prog.info? 162).map (fun i=>(i.zero,i.size,i.bytes))=some (some (.int .u32 0),1,4):=by kernel_rfl
theorem Qp6 {l o:List Nat} {k:Nat} (h:o=l.take k++List.replicate (l.length - k) 0) (hk:k<l.length):o.set k (dg l k)=l.take (k+1)++List.replicate (l.length - (k+1)) 0:=by
 subst h
 have e:l.length - k=(l.length - (k+1))+1:=by omega
 rw [e,List.replicate_succ,List.set_append_right _ _ (by simp; omega)]
 have:k - (l.take k).length=0:=by simp; omega
 rw [this,List.set_cons_zero,List.take_succ_eq_append_getElem hk,Qgd l k hk,List.append_assoc]
 rfl
set_option maxRecDepth 100000 in
set_option maxHeartbeats 1000000 in
theorem of_any (v:Value) (l:List Nat) (w:World) (hv:RdI w v .u32 l) (h1:l.length≤1000000000) (h2:∀ x∈l,x<4294967296) :
  Calls Tryz.prog 199 #[v] w fun e w'=>∃ u,e=.returned (.agg #[u])∧Own w' w.heap.size 142 .u64 u (digs 1000000000 (val 1000000000 l))∧Below w.heap.size w w':=by
 have hv':=Lib.hid hv
 obtain ⟨ao,cap,rfl,hc,hm,_,hx⟩:=hv
 have HX:=Lib.hid hx
 have H2:=Lib.hid h2
 clear h2 hx
 unfold maxLen at hm
 obtain ⟨i0,hi,hz0,hz1,hz2⟩:=info_parts Tryz.infoU64
 go_enter Tryz.func199,Tryz.ntmps199
 go_wp2_with (at_make; refine mk0 rfl _ _ 234 rfl 142 .u64 i0 8 Tryz.underlying234 hi hz0 hz1 hz2 _ _ _ _ l.length rfl rfl rfl rfl (by omega) (by unfold maxLen; omega) ?_)
 intro w1 hown hb1
 obtain ⟨W,hW⟩:∃ W,W=w.alloc (Obj.cells #[Value.slice none 0 0] 236):=⟨_,rfl⟩
 have HB0:Hid (Below w.heap.size w W):=by rw [hW]; exact (Below.refl _ _).alloc (Nat.le_refl _) _
 have HC:Hid (W.cell? ⟨w.heap.size,0,none⟩=some (Value.slice none 0 0)):=by unfold Hid; rw [hW]; simp
 have HF:Hid (W.frozen? ⟨w.heap.size,0,none⟩=false):=by unfold Hid; rw [hW]; simp
 have HS:Hid (W.heap.size=w.heap.size+1):=by unfold Hid; rw [hW]; simp
 rw [← hW] at hb1
 clear hW
 go_wp2_with fail
 go_loopw [11] (fun i wr=>∃ (kk:Nat) (o:List Nat),i=.int .i64 kk∧kk≤l.length∧o=l.take kk++List.replicate (l.length - kk) 0 ∧
   Own wr (w.heap.size+1) 142 .u64 (.slice (some ⟨w.heap.size+1,0,none⟩) l.length l.length) o∧Below (w.heap.size+1) W wr) (fun i _=>l.length - (intOf i).toNat)
 case atStart=>exact ⟨0,List.replicate l.length 0,rfl,by omega,by simp,hown,hb1⟩
 case round =>
  obtain ⟨k,o,rfl,hk,ho,hown,hbl⟩:=hrel
  have HO:=Lib.hid ho
  have hol:Hid (o.length=l.length):=by unfold Hid; rw [ho]; simp; omega
  have HBL:=Lib.hid (HB0.out.trans (hbl.mono (by omega)))
  have hsz:=hbl.size
  rw [HS.out] at hsz
  clear ho
  by_cases hkl:k<l.length
  · obtain ⟨ad,had,hcell⟩:=HX.out k hkl
    subst had
    have hcr:=(HBL.out.cell (World.block_lt_of_cell? w _ hcell)).trans hcell
    have hdc:=hown.cell k (by rw [hol.out]; exact hkl)
    have hdf:=hown.free k
    have HW:=Lib.hid hown
    have hx32:=dg_lt H2.out (by omega) k
    clear hcell hown
    go_wp2_with fail
    go_roundw
    case rel=>exact ⟨k+1,o.set k (dg l k),by go_num,by omega,Qp6 HO.out hkl,HW.out.stored k _,hbl.setCell (by simp) _⟩
    case measure=>simp [intOf]; omega
  · have he:o=l:=by have:=HO.out; rw [List.take_of_length_le (by omega)] at this; rw [this]; simp; omega
    have HE:=Lib.hid he
    have HW:=Lib.hid hown
    have hcl:wr.cell? ⟨w.heap.size,0,none⟩=some (Value.slice none 0 0):=(hbl.cell (p:=⟨w.heap.size,0,none⟩) (by simp)).trans HC.out
    have hcf:wr.frozen? ⟨w.heap.size,0,none⟩=false:=(hbl.frozen (p:=⟨w.heap.size,0,none⟩) (by simp)).trans HF.out
    have HCL:=Lib.hid hcl
    have HCF:=Lib.hid hcf
    have H2':Hid (∀ x∈o,x≤8589934592):=by intro x hx; rw [HE.out] at hx; have:=H2.out x hx; omega
    clear he hown hcl hcf
    go_wp2_with fail
    refine (Qkq _ o _ HW.out.rd (by rw [HE.out]; omega) H2'.out).mono ?_
    rintro e w2 ⟨u,rfl,hu,hb2⟩
    obtain ⟨uo,uc,rfl,_,_,_,_⟩:=hu.rd
    have hcl:w2.cell? ⟨w.heap.size,0,none⟩=some (Value.slice none 0 0):=(hb2.cell (p:=⟨w.heap.size,0,none⟩) (by simp; omega)).trans HCL.out
    have hcf:w2.frozen? ⟨w.heap.size,0,none⟩=false:=(hb2.frozen (p:=⟨w.heap.size,0,none⟩) (by simp; omega)).trans HCF.out
    go_wp2_with fail
    refine bodyPost_ret (v:=.agg #[Value.slice uo _ uc]) (by simp [results,Tryz.results199,go_sem,hcl]; rfl) rfl ⟨_,rfl,?_,?_⟩
    · rw [← HE.out]; exact (hu.set (by simp; omega) _).low (by omega)
    · exact (HBL.out.trans (hb2.mono (by omega))).setCell (by simp) _
set_option maxRecDepth 100000 in
set_option maxHeartbeats 1000000 in
theorem QsR (v:Value) (l:List Nat) (w:World) (hv:RdI w v .u64 l) (h1:l.length≤1000000000) (h2:∀ x∈l,x<4294967296) :
  Calls Tryz.prog 201 #[.agg #[v]] w fun e w'=>∃ u,e=.returned u∧Own w' w.heap.size 162 .u32 u l∧Below w.heap.size w w':=by
 have hv':=Lib.hid hv
 obtain ⟨ao,cap,rfl,hc,hm,_,hx⟩:=hv
 have HX:=Lib.hid hx
 have H2:=Lib.hid h2
 clear h2 hx
 unfold maxLen at hm
 obtain ⟨i0,hi,hz0,hz1,hz2⟩:=info_parts Tryz.infoU32
 go_enter Tryz.func201,Tryz.ntmps201
 go_wp2_with fail
 go_loopw [3,9] (fun out i wr=>∃ (kk:Nat),i=.int .i64 kk∧kk≤l.length∧Own wr w.heap.size 162 .u32 out (l.take kk)∧Below w.heap.size w wr) (fun _ i _=>l.length - (intOf i).toNat)
 case atStart=>exact ⟨0,rfl,by omega,World.ownsRow_nil _ _ _ _,(Below.refl _ _).alloc (Nat.le_refl _) _⟩
 case round =>
  obtain ⟨k,rfl,hk,hown,hbl⟩:=hrel
  have hsz:=hbl.size
  by_cases hkl:k<l.length
  · obtain ⟨ad,had,hcell⟩:=HX.out k hkl
    subst had
    have hcr:=(hbl.cell (World.block_lt_of_cell? w _ hcell)).trans hcell
    have hx32:=dg_lt H2.out (by omega) k
    have hlt:(l.take k).length=k:=by simp; omega
    have HL:=Lib.hid hlt
    clear hcell hlt
    go_wp2_with (at_builtin; refine app1 rfl _ _ 23 rfl 162 .u32 i0 4 Tryz.underlying23 hi hz0 hz1 hz2 w.heap.size _ (l.take k) rfl hown _ (dg l k) rfl rfl rfl (by rw [HL.out]; unfold maxLen; omega) (by rw [HL.out]; omega) (by omega) ?_; intro v' w2 hown2 hb2)
    go_roundw
    case rel=>exact ⟨k+1,by go_num,by omega,by rw [List.take_succ_eq_append_getElem hkl,← Qgd l k hkl]; exact hown2,hbl.trans hb2⟩
    case measure=>simp [intOf]; omega
  · have HW:=Lib.hid hown
    clear hown
    go_wp2_with fail
    go_ret
    exact ⟨_,rfl,by have:=HW.out; rw [List.take_of_length_le (by omega)] at this; exact this,hbl⟩
end Go.Proofs.YtijfaigpilfpaaaGreatDoor
namespace Go.Proofs.YtijfaigpilfpaaaGreatDoor
open Go.RowKit
attribute [local go_sem ↓] Go.wp_at_zero Go.wp_at_succ
def rowOf (ls:List (List Nat)) (k:Nat):List Nat:=ls.getD k []
def QpN (w:World) (v:Value) (k:IntKind) (ls:List (List Nat)):Prop :=
 ∃ ao cap,v=.slice ao ls.length cap∧ls.length≤cap∧cap≤maxLen ∧
  ∀ i,i<ls.length→∃ ad row,ao=some ad∧w.cell? (ad.add i)=some row∧RdI w row k (rowOf ls i)
theorem QpN.keep {w w':World} {v:Value} {k:IntKind} {ls:List (List Nat)} (h:QpN w v k ls) (hb:Below w.heap.size w w'):QpN w' v k ls:=by
 obtain ⟨ao,cap,h1,h2,h3,h4⟩:=h
 refine ⟨ao,cap,h1,h2,h3,fun i hi=>?_⟩
 obtain ⟨ad,row,h5,h6,h7⟩:=h4 i hi
 exact ⟨ad,row,h5,by rw [hb.cell (World.block_lt_of_cell? w _ h6)]; exact h6,h7.keep hb⟩
theorem Qmo (l:List Nat) (h:∀ x∈l,x<4294967296):val 1000000000 l<1000000000 ^ (2 * l.length):=by
 induction l with
 | nil=>simp [val]
 | cons x l ih =>
  have h1:=ih (fun y hy=>h y (List.mem_cons_of_mem _ hy))
  have h2:=h x List.mem_cons_self
  have e:2 * (x::l).length=2 * l.length+2:=by simp; omega
  rw [e,Nat.pow_add]
  simp only [val]
  have h3:1≤1000000000 ^ (2 * l.length):=Nat.pow_pos (by omega)
  generalize 1000000000 ^ (2 * l.length)=P at *
  omega
theorem QiW (l:List Nat) (h:∀ x∈l,x<4294967296):(digs 1000000000 (val 1000000000 l)).length≤2 * l.length :=
 Qdm _ (by omega) _ _ (Qmo l h)
end Go.Proofs.YtijfaigpilfpaaaGreatDoor
namespace Go.Proofs.YtijfaigpilfpaaaGreatDoor
open Go.RowKit
attribute [local go_sem ↓] Go.wp_at_zero Go.wp_at_succ
set_option maxHeartbeats 400000 in
theorem QjU (v:Value) (l:List Nat) (w:World) (hv:RdI w v .u32 l) (h1:l.length≤400000000) (h2:∀ x∈l,x<4294967296) :
  Calls Tryz.prog 202 #[v] w fun e w'=>∃ u,e=.returned u∧Own w' w.heap.size 162 .u32 u (digs 1000000000 (val 1000000000 l))∧Below w.heap.size w w':=by
 have HV:=Lib.hid hv
 have H2:=Lib.hid h2
 clear hv h2
 have HL:Hid ((digs 1000000000 (val 1000000000 l)).length≤1000000000):=by have:=QiW l H2.out; unfold Hid; omega
 go_enter Tryz.func202,Tryz.ntmps202
 go_wp2_with (first | (go_at_call 199; refine (of_any _ l _ HV.out (by omega) H2.out).mono ?_; rintro e w2 ⟨x,rfl,hx,hbk⟩) | (go_at_call 201; refine (QsR _ _ _ hx.rd HL.out (fun x hx=>by have:=Qkh 1000000000 (by omega) _ x hx; omega)).mono ?_; rintro e w3 ⟨y,rfl,hy,hbk2⟩))
 go_ret
 exact ⟨_,rfl,hy.low hbk.size,hbk.trans (hbk2.mono hbk.size)⟩
end Go.Proofs.YtijfaigpilfpaaaGreatDoor
namespace Go.Proofs.YtijfaigpilfpaaaGreatDoor
open Go.RowKit
attribute [local go_sem ↓] Go.wp_at_zero Go.wp_at_succ
def rgtB (l:List Nat):Bool:=l.all (fun x=>decide (x<1000000000)) && (l.getLast? != some 0)
theorem Qlc (l:List Nat):rgtB l=true↔Rgt 1000000000 l:=by
 simp [rgtB,Rgt]
theorem Qqb {l:List Nat} {k:Nat} (hk:k<l.length) (h:¬ dg l k<1000000000):rgtB l=false:=by
 rw [Bool.eq_false_iff]
 intro hc
 have:=((Qlc l).1 hc).1 (dg l k) (by rw [Qgd l k hk]; exact List.getElem_mem hk)
 exact h this
theorem Qqc:rgtB []=true:=rfl
theorem Qn4 {l:List Nat} (h0:0<l.length) (hx:∀ x∈l,x<1000000000):rgtB l=((dg l (l.length - 1):Int) != 0):=by
 rw [Bool.eq_iff_iff,Qlc]
 simp only [bne_iff_ne,ne_eq]
 constructor
 · intro h hc
   apply h.2
   rw [List.getLast?_eq_getElem?]
   rw [dg_get? l _ (by omega)]
   congr 1; omega
 · intro h
   exact Qfm hx (.inr (by omega))
set_option maxRecDepth 100000 in
set_option maxHeartbeats 1000000 in
theorem QiG (v:Value) (l:List Nat) (w:World) (hv:RdI w v .u32 l) (h1:l.length≤1000000000) :
  Calls Tryz.prog 140 #[v] w fun e w'=>e=.returned (.bool (rgtB l))∧w=w':=by
 obtain ⟨ao,ac,rfl,_,hm,_,hx⟩:=hv
 have HX:=Lib.hid hx
 clear hx
 go_enter Tryz.func140,Tryz.ntmps140
 go_wp2_with fail
 go_loop [7] (fun i=>∃ kk:Nat,i=.int .i64 kk∧kk≤l.length∧(∀ x∈l.take kk,x<1000000000)) (fun i=>l.length - (intOf i).toNat)
 case atStart=>exact ⟨0,rfl,by omega,by simp⟩
 case round =>
  obtain ⟨k,rfl,hk,hxs⟩:=hrel
  have HXS:=Lib.hid hxs
  clear hxs
  by_cases hkl:k<l.length
  · obtain ⟨ad,had,hcell⟩:=HX.out k hkl
    subst had
    by_cases hlt:dg l k<1000000000
    · have hge:¬ (1000000000:Int)≤(dg l k:Int):=by omega
      go_wp2_with fail
      go_round
      case rel =>
       refine ⟨k+1,by go_num,by omega,?_⟩
       intro x hx
       rw [List.take_succ_eq_append_getElem hkl,← Qgd l k hkl] at hx
       rcases List.mem_append.1 hx with h | h
       · exact HXS.out x h
       · simp at h; omega
      case measure=>simp [intOf]; omega
    · have hge:(1000000000:Int)≤(dg l k:Int):=by omega
      go_wp2_with fail
      go_ret
      exact ⟨by rw [Qqb hkl hlt]; rfl,rfl⟩
  · have HALL:Hid (∀ x∈l,x<1000000000):=by have:=HXS.out; rw [List.take_of_length_le (by omega)] at this; exact this
    by_cases h0:0<l.length
    · obtain ⟨ad,had,hcell⟩:=HX.out (l.length - 1) (by omega)
      subst had
      have hne:((l.length:Int)==0)=false:=by simp; exact fun h=>by simp [h] at h0
      go_wp2_with fail
      go_ret
      exact ⟨by rw [Qn4 h0 HALL.out]; rfl,rfl⟩
    · have he:l=[]:=List.eq_nil_of_length_eq_zero (by omega)
      subst he
      go_wp2_with fail
      go_ret
      exact ⟨by rw [Qqc]; rfl,rfl⟩
end Go.Proofs.YtijfaigpilfpaaaGreatDoor
