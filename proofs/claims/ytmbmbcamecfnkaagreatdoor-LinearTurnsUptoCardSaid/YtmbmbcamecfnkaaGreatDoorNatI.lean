/- nat: Right; DivMod. -/
import Derived.Test.YtmbmbcamecfnkaaGreatDoorChecked
import Derived.Test.YtmbmbcamecfnkaaGreatDoorBase
import Derived.Deep.RegionHeld3
import Derived.Deep.DrawnRows
import Derived.StillTailTactics
import Derived.Deep.DeepCutAuto
import Derived.Deep.RegionLaw
set_option linter.unusedSimpArgs false
namespace Go.Proofs.YtmbmbcamecfnkaaGreatDoor
open Go.RowKit
theorem Tryz.infoU64:(Tryz.prog.info? 132).map (fun i=>(i.zero,i.size,i.bytes))=some (some (.int .u64 0),1,8):=by kernel_rfl
set_option maxHeartbeats 400000 in
theorem QdE (v:Value) (l:List Nat) (k:Int) (w:World) (hv:RdI w v .u64 l) (h0:0≤k∨l=[]) (h1:k≤1000000000000) (h2:-1≤k) :
  Calls Tryz.prog 287 #[v,.int .i64 k] w fun e w'=>e=.returned (.int .u64 (dg l k.toNat:Nat))∧w=w':=by
 obtain ⟨ao,cap,rfl,hc,hm,_,hx⟩:=hv
 unfold maxLen at hm
 by_cases hk:0≤k
 · obtain ⟨k,rfl⟩:=Int.eq_ofNat_of_zero_le hk
   by_cases hk:k<l.length
   · obtain ⟨ad,rfl,hcell⟩:=hx k hk
     clear hx h0 h2
     go_enter Tryz.func287,Tryz.ntmps287
     go_wp2
     go_ret
     exact ⟨by simp,rfl⟩
   · have e1:=QcM l k (by omega)
     have E1:=Lib.hid e1
     clear hx h0 h2 e1
     have hk':decide ((k:Int)<(l.length:Int))=false:=by simp; omega
     go_enter Tryz.func287,Tryz.ntmps287
     go_wp2
     go_ret
     exact ⟨by rw [Int.toNat_natCast,E1.out]; rfl,rfl⟩
 · have hl:l=[]:=by rcases h0 with h | h; exact absurd h hk; exact h
   subst hl
   clear hx h0
   have hk':decide ((0:Int)≤k)=false:=by simp; omega
   go_enter Tryz.func287,Tryz.ntmps287
   go_wp2
   go_ret
   exact ⟨by simp [dg],rfl⟩
set_option maxHeartbeats 400000 in
theorem Qku (v:Value) (l:List Nat) (w:World) (hv:RdI w v .u64 l) (h1:l.length≤1000000000000) :
  Calls Tryz.prog 286 #[v] w fun e w'=>e=.returned (.int .u64 (dg l (l.length - 1):Nat))∧w=w':=by
 have hv':=Lib.hid hv
 obtain ⟨ao,cap,rfl,hc,hm,_,hx⟩:=hv
 clear hx
 unfold maxLen at hm
 have hl:0≤(l.length:Int) - 1∨l=[]:=by
  cases l with
  | nil=>exact .inr rfl
  | cons x l=>left; simp
 have HL:=Lib.hid hl
 clear hl
 go_enter Tryz.func286,Tryz.ntmps286
 go_wp2_with (go_at_call 287; refine (QdE _ l _ _ hv'.out HL.out (by omega) (by omega)).mono ?_; rintro e w' ⟨rfl,rfl⟩)
 go_ret
 exact ⟨rfl,rfl⟩
theorem Qoj {l o:List Nat} {k c:Nat} (h:val 1000000000 o+1000000000 ^ k * c=val 1000000000 (l.take k)) (ho:o.length=k) (x:Nat) (hx:x=dg l k) :
  val 1000000000 (o++[(c+x) % 1000000000])+1000000000 ^ (k+1) * ((c+x) / 1000000000)=val 1000000000 (l.take (k+1)):=by
 subst hx
 have e:val 1000000000 (l.take (k+1))=val 1000000000 (l.take k)+1000000000 ^ k * dg l k:=by
  by_cases hk:k<l.length
  · exact QbA _ l k hk
  · rw [QcM l k (by omega),List.take_of_length_le (by omega),List.take_of_length_le (by omega)]; rfl
 rw [e,← h,Qbb,ho,Nat.pow_succ]
 have:=Nat.mod_add_div (c+dg l k) 1000000000
 generalize (c+dg l k) % 1000000000=r at *
 generalize (c+dg l k) / 1000000000=q at *
 have e2:1000000000 ^ k * c+1000000000 ^ k * dg l k=1000000000 ^ k * (r+1000000000 * q):=by rw [← Nat.mul_add,← this]
 rw [Nat.mul_add,← Nat.mul_assoc] at e2
 omega
set_option maxRecDepth 100000 in
set_option maxHeartbeats 1000000 in
theorem Qbw (v:Value) (l:List Nat) (w:World) (hv:RdI w v .u64 l) (h1:l.length≤1000000000) (h2:∀ x∈l,x≤8589934592) :
  Calls Tryz.prog 293 #[v] w fun e w'=>∃ u,e=.returned (.agg #[u])∧Own w' w.heap.size 132 .u64 u (digs 1000000000 (val 1000000000 l))∧Below w.heap.size w w':=by
 have hv':=Lib.hid hv
 obtain ⟨ao,cap,rfl,hc,hm,_,hx⟩:=hv
 clear hx
 have H2:=Lib.hid h2
 clear h2
 unfold maxLen at hm
 obtain ⟨i0,hi,hz0,hz1,hz2⟩:=info_parts Tryz.infoU64
 go_enter Tryz.func293,Tryz.ntmps293
 go_wp2_with (at_make; refine wpList_make_own _ rfl _ _ 273 rfl (w.heap.size+1) 132 i0 (.int .u64 0) 1 Tryz.underlying273 hi hz0 hz1 _ _ _ (l.length+2) rfl rfl (by simp) (by rw [hz2]; omega) (by unfold maxLen; omega) (by simp) ?_)
 intro w1 hown hgrow
 have hb1:Below (w.heap.size+1) (w.alloc (Obj.cells #[Value.slice none 0 0] 275)) w1:=(Below.refl _ _).grown hgrow (by simp) (by simp)
 have hb0:Below w.heap.size w (w.alloc (Obj.cells #[Value.slice none 0 0] 275)):=(Below.refl _ _).alloc (Nat.le_refl _) _
 have HB0:=Lib.hid hb0
 clear hb0 hgrow
 obtain ⟨W,hW⟩:∃ W,W=w.alloc (Obj.cells #[Value.slice none 0 0] 275):=⟨_,rfl⟩
 rw [← hW] at HB0 hb1
 have hwc:W.cell? ⟨w.heap.size,0,none⟩=some (Value.slice none 0 0):=by rw [hW]; simp
 have hwf:W.frozen? ⟨w.heap.size,0,none⟩=false:=by rw [hW]; simp
 have hws:W.heap.size=w.heap.size+1:=by rw [hW]; simp
 have HC:=Lib.hid hwc
 have HF:=Lib.hid hwf
 have HS:=Lib.hid hws
 clear hwc hwf hws hW
 go_wp2_with fail
 go_loopw [3,4,5] (fun out c k wr=>∃ (o:List Nat) (cc kk:Nat),k=.int .i64 kk∧c=.int .u64 cc∧Own wr (w.heap.size+1) 132 .u64 out o∧o.length=kk∧kk≤l.length+1∧cc≤9∧(kk=l.length+1→cc=0) ∧
   val 1000000000 o+1000000000 ^ kk * cc=val 1000000000 (l.take kk)∧(∀ x∈o,x<1000000000)∧Below (w.heap.size+1) W wr) (fun _ _ k _=>l.length+1 - (intOf k).toNat)
 case atStart=>exact ⟨[],0,0,rfl,rfl,hown,rfl,by omega,by omega,by omega,by simp [val],by simp,hb1⟩
 case round =>
  obtain ⟨o,c,k,rfl,rfl,hown,hol,hk,hc9,hkc,hval,hox,hbl⟩:=hrel
  have hd:dg l k≤8589934592:=dg_le H2.out k
  have HV:=Lib.hid hval
  have HL:=Lib.hid hol
  have HOX:=Lib.hid hox
  have HBL:=Lib.hid (HB0.out.trans (hbl.mono (by omega)))
  have HR:=Lib.hid (hv'.out.keep HBL.out)
  have hsz:=hbl.size
  rw [HS.out] at hsz
  clear hval hol hox
  by_cases hkl:k<l.length∨(¬ k<l.length∧0<c)
  · have hk1:k<l.length+1:=by omega
    have HX:Hid (((c:Int)+(dg l k:Int)) % 1000000000=((c+dg l k) % 1000000000:Nat)):=by unfold Hid; omega
    have HK:Hid (k+1=l.length+1→(c+dg l k) / 1000000000=0):=by
     intro h; rw [QcM l k (by omega)]; omega
    clear hkc
    rcases hkl with hkl | ⟨hkn,hkl⟩
    all_goals
     go_wp2_with (first
      | (go_at_call 287; refine (QdE _ l _ _ HR.out (by omega) (by omega) (by omega)).mono ?_; rintro e w' ⟨rfl,rfl⟩)
      | (at_builtin; refine app1 rfl _ _ 273 rfl 132 .u64 i0 8 Tryz.underlying273 hi hz0 hz1 hz2 (w.heap.size+1) _ o rfl hown _ ((c+dg l k) % 1000000000) HX.out rfl rfl (by rw [HL.out]; unfold maxLen; omega) (by rw [HL.out]; omega) (by omega) ?_; intro v' w2 hown2 hb2))
     go_roundw
     case rel=>exact ⟨o++[(c+dg l k) % 1000000000],(c+dg l k) / 1000000000,k+1,by go_num,by go_num,hown2,by simp [HL.out],by omega,by omega,HK.out,
      Qoj HV.out HL.out _ rfl,by intro x hx; rcases List.mem_append.1 hx with h | h; exact HOX.out x h; simp at h; omega,hbl.trans hb2⟩
     case measure=>simp [intOf]; omega
  · have hc0:c=0:=by omega
    have HC0:=Lib.hid hc0
    have hv0:Hid (val 1000000000 o=val 1000000000 l):=by
     have:=HV.out
     rw [List.take_of_length_le (by omega),hc0] at this
     unfold Hid; omega
    have hcase:¬ k<l.length:=by omega
    obtain ⟨oo,oc,rfl,hoc,hom,_,hox⟩:=hown.rd
    have HW:=Lib.hid hown
    have hol:o.length≤1000000001:=by have:=HL.out; omega
    have hcn:¬ 0<c:=by omega
    have HOX':=HOX
    clear hown hox HV HL hkl hkc hoc hom HR hc0 HC0 HOX hc9 hd hk
    go_wp2_with fail
    go_loopw [3] (fun out w2=>∃ (p:List Nat),Own w2 (w.heap.size+1) 132 .u64 out p∧val 1000000000 p=val 1000000000 l∧(∀ x∈p,x<1000000000)∧p.length≤1000000001∧Below (w.heap.size+1) W w2) (fun out _=>QrA out)
    case atStart=>exact ⟨o,HW.out,hv0.out,HOX'.out,hol,hbl⟩
    case round =>
     obtain ⟨p,hown,hvp,hpx,hpl,hbp⟩:=hrel
     have HV:=Lib.hid hvp
     have HPX:=Lib.hid hpx
     have HB:=Lib.hid hbp
     have HR:=Lib.hid hown.rd
     have hcl:wr.cell? ⟨w.heap.size,0,none⟩=some (Value.slice none 0 0):=(hbp.cell (p:=⟨w.heap.size,0,none⟩) (by simp)).trans HC.out
     have hcf:wr.frozen? ⟨w.heap.size,0,none⟩=false:=(hbp.frozen (p:=⟨w.heap.size,0,none⟩) (by simp)).trans HF.out
     clear hvp hpx hbp
     by_cases hp:0<p.length
     · obtain ⟨g,gc,rfl,hgc,hgm,hgb,hgs⟩:=hown.at hp
       have HO:=Lib.hid hown
       clear hown
       unfold maxLen at hgm
       by_cases ht:dg p (p.length - 1)=0
       · have hb:((dg p (p.length - 1):Int)==0)=true:=by simp [ht]
         have HT:=Lib.hid ht
         clear ht
         go_wp2_with (go_at_call 286; refine (Qku _ p _ HR.out (by omega)).mono ?_; rintro e w' ⟨rfl,rfl⟩)
         go_roundw
         case rel=>exact ⟨p.dropLast,HO.out.pop hp,(Qfr _ _ hp HT.out).trans HV.out,fun x hx=>HPX.out x ((List.dropLast_sublist p).subset hx),by simp; omega,HB.out⟩
         case measure=>simp [QrA]; omega
       · have hb:((dg p (p.length - 1):Int)==0)=false:=by simp; omega
         have HT:=Lib.hid ht
         clear ht
         go_wp2_with (go_at_call 286; refine (Qku _ p _ HR.out (by omega)).mono ?_; rintro e w' ⟨rfl,rfl⟩)
         refine bodyPost_ret (v:=.agg #[Value.slice (some ⟨g,0,none⟩) p.length gc]) (by simp [results,Tryz.results293,go_sem,hcl]) rfl ⟨_,rfl,?_,?_⟩
         · rw [← HV.out,← (QcS HPX.out (.inr HT.out)).digs (by omega)]
           exact (HO.out.set (by simp) _).low (by omega)
         · exact (HB0.out.trans (HB.out.mono (by omega))).setCell (by simp) _
     · have hp0:p=[]:=List.eq_nil_of_length_eq_zero (by omega)
       subst hp0
       obtain ⟨po,pc,rfl,_,hpm,_,_⟩:=hown.rd
       have HO:=Lib.hid hown
       clear hown
       go_wp2_with fail
       refine bodyPost_ret (v:=.agg #[Value.slice po 0 pc]) (by simp [results,Tryz.results293,go_sem,hcl]) rfl ⟨_,rfl,?_,?_⟩
       · rw [← HV.out,val,Qav]
         exact (HO.out.set (by simp) _).low (by omega)
       · exact (HB0.out.trans (HB.out.mono (by omega))).setCell (by simp) _
end Go.Proofs.YtmbmbcamecfnkaaGreatDoor
namespace Go.Proofs.YtmbmbcamecfnkaaGreatDoor
open Go.RowKit
theorem Tryz.infoU32:(Tryz.prog.info? 190).map (fun i=>(i.zero,i.size,i.bytes))=some (some (.int .u32 0),1,4):=by kernel_rfl
theorem Qq6 {l o:List Nat} {k:Nat} (h:o=l.take k++List.replicate (l.length - k) 0) (hk:k<l.length):o.set k (dg l k)=l.take (k+1)++List.replicate (l.length - (k+1)) 0:=by
 subst h
 have e:l.length - k=(l.length - (k+1))+1:=by omega
 rw [e,List.replicate_succ,List.set_append_right _ _ (by simp; omega)]
 have:k - (l.take k).length=0:=by simp; omega
 rw [this,List.set_cons_zero,List.take_succ_eq_append_getElem hk,QcN l k hk,List.append_assoc]
 rfl
set_option maxRecDepth 100000 in
set_option maxHeartbeats 1000000 in
theorem Qdc (v:Value) (l:List Nat) (w:World) (hv:RdI w v .u32 l) (h1:l.length≤1000000000) (h2:∀ x∈l,x<4294967296) :
  Calls Tryz.prog 229 #[v] w fun e w'=>∃ u,e=.returned (.agg #[u])∧Own w' w.heap.size 132 .u64 u (digs 1000000000 (val 1000000000 l))∧Below w.heap.size w w':=by
 have hv':=Lib.hid hv
 obtain ⟨ao,cap,rfl,hc,hm,_,hx⟩:=hv
 have HX:=Lib.hid hx
 have H2:=Lib.hid h2
 clear h2 hx
 unfold maxLen at hm
 obtain ⟨i0,hi,hz0,hz1,hz2⟩:=info_parts Tryz.infoU64
 go_enter Tryz.func229,Tryz.ntmps229
 go_wp2_with (at_make; refine mk0 rfl _ _ 273 rfl 132 .u64 i0 8 Tryz.underlying273 hi hz0 hz1 hz2 _ _ _ _ l.length rfl rfl rfl rfl (by omega) (by unfold maxLen; omega) ?_)
 intro w1 hown hb1
 obtain ⟨W,hW⟩:∃ W,W=w.alloc (Obj.cells #[Value.slice none 0 0] 275):=⟨_,rfl⟩
 have HB0:Hid (Below w.heap.size w W):=by rw [hW]; exact (Below.refl _ _).alloc (Nat.le_refl _) _
 have HC:Hid (W.cell? ⟨w.heap.size,0,none⟩=some (Value.slice none 0 0)):=by unfold Hid; rw [hW]; simp
 have HF:Hid (W.frozen? ⟨w.heap.size,0,none⟩=false):=by unfold Hid; rw [hW]; simp
 have HS:Hid (W.heap.size=w.heap.size+1):=by unfold Hid; rw [hW]; simp
 rw [← hW] at hb1
 clear hW
 go_wp2_with fail
 go_loopw [11] (fun i wr=>∃ (kk:Nat) (o:List Nat),i=.int .i64 kk∧kk≤l.length∧o=l.take kk++List.replicate (l.length - kk) 0 ∧
   Own wr (w.heap.size+1) 132 .u64 (.slice (some ⟨w.heap.size+1,0,none⟩) l.length l.length) o∧Below (w.heap.size+1) W wr) (fun i _=>l.length - (intOf i).toNat)
 case atStart=>exact ⟨0,List.replicate l.length 0,rfl,by omega,by simp,hown,hb1⟩
 case round =>
  obtain ⟨k,o,rfl,hk,ho,hown,hbl⟩:=hrel
  have HO:=Lib.hid ho
  have hol:Hid (o.length=l.length):=by unfold Hid; rw [ho]; simp; omega
  have HBL:=Lib.hid (HB0.out.trans (hbl.mono (by omega)))
  have hsz:=hbl.size
  rw [HS.out] at hsz
  clear ho
  by_cases hkl:k<l.length
  · obtain ⟨ad,had,hcell⟩:=HX.out k hkl
    subst had
    have hcr:=(HBL.out.cell (World.block_lt_of_cell? w _ hcell)).trans hcell
    have hdc:=hown.cell k (by rw [hol.out]; exact hkl)
    have hdf:=hown.free k
    have HW:=Lib.hid hown
    have hx32:=Qbv H2.out (by omega) k
    clear hcell hown
    go_wp2_with fail
    go_roundw
    case rel=>exact ⟨k+1,o.set k (dg l k),by go_num,by omega,Qq6 HO.out hkl,HW.out.stored k _,hbl.setCell (by simp) _⟩
    case measure=>simp [intOf]; omega
  · have he:o=l:=by have:=HO.out; rw [List.take_of_length_le (by omega)] at this; rw [this]; simp; omega
    have HE:=Lib.hid he
    have HW:=Lib.hid hown
    have hcl:wr.cell? ⟨w.heap.size,0,none⟩=some (Value.slice none 0 0):=(hbl.cell (p:=⟨w.heap.size,0,none⟩) (by simp)).trans HC.out
    have hcf:wr.frozen? ⟨w.heap.size,0,none⟩=false:=(hbl.frozen (p:=⟨w.heap.size,0,none⟩) (by simp)).trans HF.out
    have HCL:=Lib.hid hcl
    have HCF:=Lib.hid hcf
    have H2':Hid (∀ x∈o,x≤8589934592):=by intro x hx; rw [HE.out] at hx; have:=H2.out x hx; omega
    clear he hown hcl hcf
    go_wp2_with fail
    refine (Qbw _ o _ HW.out.rd (by rw [HE.out]; omega) H2'.out).mono ?_
    rintro e w2 ⟨u,rfl,hu,hb2⟩
    obtain ⟨uo,uc,rfl,_,_,_,_⟩:=hu.rd
    have hcl:w2.cell? ⟨w.heap.size,0,none⟩=some (Value.slice none 0 0):=(hb2.cell (p:=⟨w.heap.size,0,none⟩) (by simp; omega)).trans HCL.out
    have hcf:w2.frozen? ⟨w.heap.size,0,none⟩=false:=(hb2.frozen (p:=⟨w.heap.size,0,none⟩) (by simp; omega)).trans HCF.out
    go_wp2_with fail
    refine bodyPost_ret (v:=.agg #[Value.slice uo _ uc]) (by simp [results,Tryz.results229,go_sem,hcl]; rfl) rfl ⟨_,rfl,?_,?_⟩
    · rw [← HE.out]; exact (hu.set (by simp; omega) _).low (by omega)
    · exact (HBL.out.trans (hb2.mono (by omega))).setCell (by simp) _
set_option maxHeartbeats 400000 in
theorem Qhq (a b:Int) (w:World) :
  Calls Tryz.prog 306 #[.int .i64 a,.int .i64 b] w fun e w'=>e=.returned (.int .i64 (cmpI a b))∧w=w':=by
 rcases Int.lt_trichotomy a b with h | h | h
 · go_enter Tryz.func306,Tryz.ntmps306
   go_wp2
   go_ret
   exact ⟨by rw [Qcd h]; rfl,rfl⟩
 · subst h
   go_enter Tryz.func306,Tryz.ntmps306
   go_wp2
   go_ret
   exact ⟨by rw [QeU]; rfl,rfl⟩
 · go_enter Tryz.func306,Tryz.ntmps306
   go_wp2
   go_ret
   exact ⟨by rw [Qce h]; rfl,rfl⟩
set_option maxHeartbeats 400000 in
theorem Qhp (a b:Int) (w:World) :
  Calls Tryz.prog 307 #[.int .u64 a,.int .u64 b] w fun e w'=>e=.returned (.int .i64 (cmpI a b))∧w=w':=by
 rcases Int.lt_trichotomy a b with h | h | h
 · go_enter Tryz.func307,Tryz.ntmps307
   go_wp2
   go_ret
   exact ⟨by rw [Qcd h]; rfl,rfl⟩
 · subst h
   go_enter Tryz.func307,Tryz.ntmps307
   go_wp2
   go_ret
   exact ⟨by rw [QeU]; rfl,rfl⟩
 · go_enter Tryz.func307,Tryz.ntmps307
   go_wp2
   go_ret
   exact ⟨by rw [Qce h]; rfl,rfl⟩
set_option maxRecDepth 100000 in
set_option maxHeartbeats 1000000 in
theorem Qfg (v:Value) (l:List Nat) (w:World) (hv:RdI w v .u64 l) (h1:l.length≤1000000000) (h2:∀ x∈l,x<4294967296) :
  Calls Tryz.prog 231 #[.agg #[v]] w fun e w'=>∃ u,e=.returned u∧Own w' w.heap.size 190 .u32 u l∧Below w.heap.size w w':=by
 have hv':=Lib.hid hv
 obtain ⟨ao,cap,rfl,hc,hm,_,hx⟩:=hv
 have HX:=Lib.hid hx
 have H2:=Lib.hid h2
 clear h2 hx
 unfold maxLen at hm
 obtain ⟨i0,hi,hz0,hz1,hz2⟩:=info_parts Tryz.infoU32
 go_enter Tryz.func231,Tryz.ntmps231
 go_wp2_with fail
 go_loopw [3,9] (fun out i wr=>∃ (kk:Nat),i=.int .i64 kk∧kk≤l.length∧Own wr w.heap.size 190 .u32 out (l.take kk)∧Below w.heap.size w wr) (fun _ i _=>l.length - (intOf i).toNat)
 case atStart=>exact ⟨0,rfl,by omega,World.ownsRow_nil _ _ _ _,(Below.refl _ _).alloc (Nat.le_refl _) _⟩
 case round =>
  obtain ⟨k,rfl,hk,hown,hbl⟩:=hrel
  have hsz:=hbl.size
  by_cases hkl:k<l.length
  · obtain ⟨ad,had,hcell⟩:=HX.out k hkl
    subst had
    have hcr:=(hbl.cell (World.block_lt_of_cell? w _ hcell)).trans hcell
    have hx32:=Qbv H2.out (by omega) k
    have hlt:(l.take k).length=k:=by simp; omega
    have HL:=Lib.hid hlt
    clear hcell hlt
    go_wp2_with (at_builtin; refine app1 rfl _ _ 24 rfl 190 .u32 i0 4 Tryz.underlying24 hi hz0 hz1 hz2 w.heap.size _ (l.take k) rfl hown _ (dg l k) rfl rfl rfl (by rw [HL.out]; unfold maxLen; omega) (by rw [HL.out]; omega) (by omega) ?_; intro v' w2 hown2 hb2)
    go_roundw
    case rel=>exact ⟨k+1,by go_num,by omega,by rw [List.take_succ_eq_append_getElem hkl,← QcN l k hkl]; exact hown2,hbl.trans hb2⟩
    case measure=>simp [intOf]; omega
  · have HW:=Lib.hid hown
    clear hown
    go_wp2_with fail
    go_ret
    exact ⟨_,rfl,by have:=HW.out; rw [List.take_of_length_le (by omega)] at this; exact this,hbl⟩
set_option maxRecDepth 100000 in
set_option maxHeartbeats 1000000 in
theorem Qcc (v u:Value) (l m:List Nat) (w:World) (hv:RdI w v .u64 l) (hu:RdI w u .u64 m) (hl:Rgt 1000000000 l) (hm:Rgt 1000000000 m) (h1:l.length≤1000000000) (h2:m.length≤1000000000) :
  Calls Tryz.prog 252 #[.agg #[v],.agg #[u]] w fun e w'=>e=.returned (.int .i64 (cmpI (val 1000000000 l:Nat) (val 1000000000 m:Nat)))∧Below w.heap.size w w':=by
 have hv':=Lib.hid hv
 have hu':=Lib.hid hu
 have HL:=Lib.hid hl
 have HM:=Lib.hid hm
 obtain ⟨ao,ac,rfl,_,_,_,_⟩:=hv
 obtain ⟨bo,bc,rfl,_,_,_,_⟩:=hu
 clear hl hm
 go_enter Tryz.func252,Tryz.ntmps252
 go_wp2_with (go_at_call 306; refine (Qhq _ _ _).mono ?_; rintro e w' ⟨rfl,rfl⟩)
 obtain ⟨W,hW⟩:∃ W,W=(w.alloc (Obj.cells #[Value.slice ao l.length ac] 275)).alloc (Obj.cells #[Value.slice bo m.length bc] 275):=⟨_,rfl⟩
 have HB0:Hid (Below w.heap.size w W):=by rw [hW]; exact ((Below.refl _ _).alloc (Nat.le_refl _) _).alloc (by simp) _
 have HC0:Hid (W.cell? ⟨w.heap.size,0,none⟩=some (Value.slice ao l.length ac)):=by unfold Hid; rw [hW]; simp
 have HC1:Hid (W.cell? ⟨w.heap.size+1,0,none⟩=some (Value.slice bo m.length bc)):=by unfold Hid; rw [hW]; simp
 have HS:Hid (W.heap.size=w.heap.size+2):=by unfold Hid; rw [hW]; simp
 have hb1:Below (w.heap.size+2) W W:=Below.refl _ _
 rw [← hW]
 clear hW
 have hstart:Hid ((cmpI l.length m.length=0∧l.length=m.length∧l.drop l.length=m.drop l.length)∨(cmpI l.length m.length≠0∧cmpI l.length m.length=cmpI (val 1000000000 l:Nat) (val 1000000000 m:Nat))):=by
  unfold Hid
  rcases Nat.lt_trichotomy l.length m.length with h | h | h
  · right; rw [Qcd (by omega),Qcd (by have:=Qe8 (by omega) HL.out HM.out h; omega)]; simp
  · left; exact ⟨Qg9 (by omega),h,by rw [List.drop_length,h,List.drop_length]⟩
  · right; rw [Qce (by omega),Qce (by have:=Qe8 (by omega) HM.out HL.out h; omega)]; simp
 go_loopw [5,6] (fun c k wr=>∃ (z k':Int),c=.int .i64 z∧k=.int .i64 k'∧-1≤k'∧k'<l.length∧Below (w.heap.size+2) W wr ∧
   ((z=0∧l.length=m.length∧l.drop (k'+1).toNat=m.drop (k'+1).toNat)∨(z≠0∧z=cmpI (val 1000000000 l:Nat) (val 1000000000 m:Nat)))) (fun _ k _=>(intOf k+1).toNat)
 case atStart =>
  refine ⟨_,_,rfl,rfl,by omega,by omega,hb1,?_⟩
  rw [show ((l.length:Int) - 1+1).toNat=l.length from by omega]
  exact hstart.out
 case round =>
  obtain ⟨z,k,rfl,rfl,hk1,hk2,hbl,hz⟩:=hrel
  have HZ:=Lib.hid hz
  have HB:=Lib.hid (HB0.out.trans (hbl.mono (by omega)))
  have hc0:wr.cell? ⟨w.heap.size,0,none⟩=some (Value.slice ao l.length ac):=(hbl.cell (p:=⟨w.heap.size,0,none⟩) (by simp)).trans HC0.out
  have hc1:wr.cell? ⟨w.heap.size+1,0,none⟩=some (Value.slice bo m.length bc):=(hbl.cell (p:=⟨w.heap.size+1,0,none⟩) (by simp)).trans HC1.out
  have HR:=Lib.hid (hv'.out.keep HB.out)
  have HU:=Lib.hid (hu'.out.keep HB.out)
  clear hz
  by_cases hk0:0≤k
  · obtain ⟨i,rfl⟩:=Int.eq_ofNat_of_zero_le hk0
    by_cases hz0:z=0
    · subst hz0
      have hzz:Hid (l.length=m.length∧l.drop (i+1)=m.drop (i+1)):=by
       rcases HZ.out with h | h
       · have:=h.2.2; rw [show ((i:Int)+1).toNat=i+1 from by omega] at this; exact ⟨h.2.1,this⟩
       · exact absurd rfl h.1
      have hlm:i<m.length:=by have:=hzz.out.1; omega
      clear HZ
      go_wp2_with fail
      go_quiet ((first | (go_at_call 287; first | exact qs (QdE _ l _ _ (HR.out.drewN _) (by omega) (by omega) (by omega)) | exact qs (QdE _ m _ _ (HU.out.drewN _) (by omega) (by omega) (by omega))) | (go_at_call 307; exact qs (Qhp _ _ _))))
      go_wp2_with fail
      go_roundw
      case rel =>
       refine ⟨_,_,rfl,rfl,by omega,by omega,QaE hbl _,?_⟩
       rw [show ((i:Int) - 1+1).toNat=i from by omega]
       rcases Nat.lt_trichotomy (dg l i) (dg m i) with h | h | h
       · right; rw [Qcd (by omega),Qcd (by have:=Qe7 1000000000 HL.out.1 (by omega) hlm hzz.out.2 h; omega)]; simp
       · left; exact ⟨Qg9 (by omega),hzz.out.1,by rw [Qa4 l i (by omega),Qa4 m i hlm,h,hzz.out.2]⟩
       · right; rw [Qce (by omega),Qce (by have:=Qe7 1000000000 HM.out.1 hlm (by omega) hzz.out.2.symm h; omega)]; simp
      case measure=>simp [intOf]
    · have hzb:(z==0)=false:=by simp [hz0]
      have HZ0:=Lib.hid hz0
      clear hz0
      go_wp2_with fail
      go_ret
      refine ⟨?_,HB.out⟩
      rcases HZ.out with h | h
      · exact absurd h.1 HZ0.out
      · rw [← h.2]; rfl
  · go_wp2_with fail
    go_ret
    refine ⟨?_,HB.out⟩
    rcases HZ.out with h | h
    · have h2:=h.2.2
      rw [show (k+1).toNat=0 from by omega] at h2
      simp only [List.drop_zero] at h2
      subst h2
      have e:z=cmpI (val 1000000000 l:Nat) (val 1000000000 l:Nat):=by rw [QeU,h.1]
      rw [← e]; rfl
    · rw [← h.2]; rfl
end Go.Proofs.YtmbmbcamecfnkaaGreatDoor
namespace Go.Proofs.YtmbmbcamecfnkaaGreatDoor
open Go.RowKit
def QeS (f:Nat→Nat) (n k:Nat):List Nat:=(List.range k).map f++List.replicate (n - k) 0
theorem QiV (f:Nat→Nat) (n k:Nat) (h:k≤n):(QeS f n k).length=n:=by simp [QeS]; omega
theorem Qn7 (f:Nat→Nat) (n k:Nat) (h:k<n):(QeS f n k).set k (f k)=QeS f n (k+1):=by
 unfold QeS
 have e:n - k=(n - (k+1))+1:=by omega
 rw [e,List.replicate_succ,List.set_append_right _ _ (by simp)]
 have:k - ((List.range k).map f).length=0:=by simp
 rw [this,List.set_cons_zero,List.range_succ,List.map_append,List.append_assoc]
 rfl
theorem Qn8 (f:Nat→Nat) (n:Nat):QeS f n n=(List.range n).map f:=by simp [QeS]
theorem Qfq (b:Nat) (l:List Nat) (n:Nat) (h:l.length≤n):val b ((List.range n).map (dg l))=val b l:=by
 induction n with
 | zero => have : l = [] := List.eq_nil_of_length_eq_zero (by omega)
           subst this; rfl
 | succ n ih =>
  rw [List.range_succ,List.map_append,List.map_singleton,Qbb]
  by_cases hl:l.length≤n
  · rw [ih hl,QcM l n hl]; rfl
  · have hl:l.length=n+1:=by omega
    have e1:(List.range n).map (dg l)=l.take n:=by
     apply List.ext_getElem
     · simp; omega
     · intro i h1 h2
       simp at h1 ⊢
       exact QcN l i (by omega)
    have:=QbA b l n (by omega)
    rw [← hl,List.take_length] at this
    rw [e1,this,List.length_take,Nat.min_eq_left (by omega)]
theorem Qh7 (b:Nat) (f g:Nat→Nat) (n:Nat):val b ((List.range n).map fun k=>f k+g k)=val b ((List.range n).map f)+val b ((List.range n).map g):=by
 induction n with
 | zero=>rfl
 | succ n ih =>
  rw [List.range_succ,List.map_append,List.map_append,List.map_append,List.map_singleton,List.map_singleton,List.map_singleton,Qbb,Qbb,Qbb,ih]
  simp only [List.length_map,List.length_range,Nat.mul_add]
  omega
set_option maxRecDepth 100000 in
set_option maxHeartbeats 1000000 in
theorem Qrk (v u:Value) (l m:List Nat) (w:World) (hv:RdI w v .u64 l) (hu:RdI w u .u64 m) (hl:∀ x∈l,x<1000000000) (hm:∀ x∈m,x<1000000000) (h1:l.length≤1000000000) (h2:m.length≤1000000000) :
  Calls Tryz.prog 251 #[.agg #[v],.agg #[u]] w fun e w'=>∃ u,e=.returned (.agg #[u])∧Own w' w.heap.size 132 .u64 u (digs 1000000000 (val 1000000000 l+val 1000000000 m))∧Below w.heap.size w w':=by
 have hv':=Lib.hid hv
 have hu':=Lib.hid hu
 have HL:=Lib.hid hl
 have HM:=Lib.hid hm
 obtain ⟨ao,ac,rfl,_,_,_,_⟩:=hv
 obtain ⟨bo,bc,rfl,_,_,_,_⟩:=hu
 clear hl hm
 obtain ⟨i0,hi,hz0,hz1,hz2⟩:=info_parts Tryz.infoU64
 obtain ⟨n,hn⟩:∃ n,n=max l.length m.length:=⟨_,rfl⟩
 have hln:l.length≤n:=by omega
 have hmn:m.length≤n:=by omega
 have hn1:n≤1000000000:=by omega
 have hmx:∀ (ts:Array TypeId) (t:TypeId) (w:World),(Builtin.max_ ts t #[.int .i64 (l.length:Int),.int .i64 (m.length:Int)]).run Tryz.prog w=.ok (.int .i64 (n:Int)) w:=by
  intro ts t w
  rw [run_max_int2]
  congr 2
  subst hn
  split <;> omega
 clear hn
 go_enter Tryz.func251,Tryz.ntmps251
 go_wp2_with (at_make; refine mk0 rfl _ _ 273 rfl 132 .u64 i0 8 Tryz.underlying273 hi hz0 hz1 hz2 _ _ _ _ n rfl rfl rfl rfl (by omega) (by unfold maxLen; omega) ?_)
 intro w1 hown hb1
 obtain ⟨W,hW⟩:∃ W,W=((w.alloc (Obj.cells #[Value.slice ao l.length ac] 275)).alloc (Obj.cells #[Value.slice bo m.length bc] 275)).alloc (Obj.cells #[Value.slice none 0 0] 275):=⟨_,rfl⟩
 have HB0:Hid (Below w.heap.size w W):=by rw [hW]; exact ((((Below.refl _ _).alloc (Nat.le_refl _) _).alloc (by simp only [Qaa] <;> omega) _).alloc (by simp only [Qaa] <;> omega) _)
 have HC0:Hid (W.cell? ⟨w.heap.size,0,none⟩=some (Value.slice ao l.length ac)):=by unfold Hid; rw [hW]; simp (disch:=first | omega | (simp only [Qaa]; omega) | simp only [Qaa]) only [Qal,Qaq]; all_goals rfl
 have HC1:Hid (W.cell? ⟨w.heap.size+1,0,none⟩=some (Value.slice bo m.length bc)):=by unfold Hid; rw [hW]; simp (disch:=first | omega | (simp only [Qaa]; omega) | simp only [Qaa]) only [Qal,Qaq]; all_goals rfl
 have HC2:Hid (W.cell? ⟨w.heap.size+1+1,0,none⟩=some (Value.slice none 0 0)):=by unfold Hid; rw [hW]; simp (disch:=first | omega | (simp only [Qaa]; omega) | simp only [Qaa]) only [Qal]; all_goals rfl
 have HF2:Hid (W.frozen? ⟨w.heap.size+1+1,0,none⟩=false):=by unfold Hid; rw [hW]; simp (disch:=first | omega | (simp only [Qaa]; omega) | simp only [Qaa]) only [QaW]
 have HS:Hid (W.heap.size=w.heap.size+1+1+1):=by unfold Hid; rw [hW]; simp only [Qaa]
 rw [← hW] at hb1
 clear hW
 go_wp2_with fail
 go_loopw [17] (fun i wr=>∃ kk:Nat,i=.int .i64 kk∧kk≤n∧Own wr (w.heap.size+1+1+1) 132 .u64 (.slice (some ⟨w.heap.size+1+1+1,0,none⟩) n n) (QeS (fun k=>dg l k+dg m k) n kk)∧Below (w.heap.size+1+1+1) W wr) (fun i _=>n - (intOf i).toNat)
 case atStart=>exact ⟨0,rfl,by omega,by simpa [QeS] using hown,hb1⟩
 case round =>
  obtain ⟨k,rfl,hk,hown,hbl⟩:=hrel
  have HB:=Lib.hid (HB0.out.trans (hbl.mono (by omega)))
  have hsz:=hbl.size
  rw [HS.out] at hsz
  have HR:=Lib.hid (hv'.out.keep HB.out)
  have HU:=Lib.hid (hu'.out.keep HB.out)
  have hc0:wr.cell? ⟨w.heap.size,0,none⟩=some (Value.slice ao l.length ac):=(hbl.cell (p:=⟨w.heap.size,0,none⟩) (by (try dsimp only); omega)).trans HC0.out
  have hc1:wr.cell? ⟨w.heap.size+1,0,none⟩=some (Value.slice bo m.length bc):=(hbl.cell (p:=⟨w.heap.size+1,0,none⟩) (by (try dsimp only); omega)).trans HC1.out
  have hc2:wr.cell? ⟨w.heap.size+1+1,0,none⟩=some (Value.slice none 0 0):=(hbl.cell (p:=⟨w.heap.size+1+1,0,none⟩) (by (try dsimp only); omega)).trans HC2.out
  have hf2:wr.frozen? ⟨w.heap.size+1+1,0,none⟩=false:=(hbl.frozen (p:=⟨w.heap.size+1+1,0,none⟩) (by (try dsimp only); omega)).trans HF2.out
  have HW:=Lib.hid hown
  by_cases hkn:k<n
  · have hdl:=Qbv HL.out (by omega) k
    have hdm:=Qbv HM.out (by omega) k
    have hdc:=hown.cell k (by rw [QiV _ _ _ hk]; exact hkn)
    have hdf:=hown.free k
    clear hown
    have hki:(0:Int)≤(k:Int):=by omega
    have hkj:(k:Int)<(n:Int):=by omega
    go_wp2_with fail
    refine wp_region_still_tail 12 (by kernel_rfl) (by kernel_rfl) ?_
    simp only [List.take_succ_cons,List.take_zero,List.drop_succ_cons,List.drop_zero]
    repeat still_step
    still_call (st (QdE _ l k _ HR.out.drew (by omega) (by omega) (by omega)))
    repeat still_step
    still_call (st (QdE _ m k _ HU.out.drew (by omega) (by omega) (by omega)))
    repeat still_step
    refine wpStill_nil ?_
    change wpList _ _ _ _ _ wr.drew
    go_wp2_with fail
    go_roundw
    case rel =>
     refine ⟨k+1,by go_num,by omega,?_,(hbl.setCell (by simp) _).drew⟩
     rw [← Qn7 _ _ _ hkn]
     exact (HW.out.stored k (dg l k+dg m k)).drew
    case measure=>simp [intOf]; omega
  · have he:k=n:=by omega
    subst he
    rw [Qn8] at HW
    have HX:Hid (∀ x∈(List.range k).map (fun k=>dg l k+dg m k),x≤8589934592):=by
     intro x hx
     obtain ⟨j,_,rfl⟩:=List.mem_map.1 hx
     have h1:=Qbv HL.out (by omega) j
     have h2:=Qbv HM.out (by omega) j
     omega
    have HE:Hid (val 1000000000 ((List.range k).map (fun k=>dg l k+dg m k))=val 1000000000 l+val 1000000000 m):=by
     unfold Hid; rw [Qh7,Qfq _ _ _ hln,Qfq _ _ _ hmn]
    clear hown
    go_wp2_with fail
    refine (Qbw _ _ _ HW.out.rd (by simp; omega) HX.out).mono ?_
    rintro e w2 ⟨u,rfl,hu,hb2⟩
    rw [HE.out] at hu
    obtain ⟨uo,uc,rfl,_,_,_,_⟩:=hu.rd
    have hc2:w2.cell? ⟨w.heap.size+1+1,0,none⟩=some (Value.slice none 0 0):=(hb2.cell (p:=⟨w.heap.size+1+1,0,none⟩) (by dsimp only; omega)).trans hc2
    have hf2:w2.frozen? ⟨w.heap.size+1+1,0,none⟩=false:=(hb2.frozen (p:=⟨w.heap.size+1+1,0,none⟩) (by dsimp only; omega)).trans hf2
    go_wp2_with fail
    refine bodyPost_ret (v:=.agg #[Value.slice uo _ uc]) (by simp [results,Tryz.results251,go_sem,hc2]; rfl) rfl ⟨_,rfl,?_,?_⟩
    · exact (hu.set (by dsimp only; omega) _).low (by omega)
    · exact (HB.out.trans (hb2.mono (by omega))).setCell (by dsimp only; omega) _
theorem QtK (o:List Nat) (n k x:Nat) (ho:o.length=k) (h:k<n):(o++List.replicate (n - k) 0).set k x=(o++[x])++List.replicate (n - (k+1)) 0:=by
 have e:n - k=(n - (k+1))+1:=by omega
 rw [e,List.replicate_succ,List.set_append_right _ _ (by omega)]
 have:k - o.length=0:=by omega
 rw [this,List.set_cons_zero,List.append_assoc]
 rfl
theorem QbB (b:Nat) (l:List Nat) (k:Nat):val b (l.take (k+1))=val b (l.take k)+b ^ k * dg l k:=by
 by_cases hk:k<l.length
 · exact QbA _ l k hk
 · rw [QcM l k (by omega),List.take_of_length_le (by omega),List.take_of_length_le (by omega)]; rfl
theorem QlE {l m o:List Nat} {k c x:Nat} (h:val 1000000000 o+val 1000000000 (m.take k)=val 1000000000 (l.take k)+1000000000 ^ k * c) (ho:o.length=k)
  (hx:x+dg m k+c=dg l k+1000000000) (hc:x / 1000000000≤1) :
  val 1000000000 (o++[x % 1000000000])+val 1000000000 (m.take (k+1))=val 1000000000 (l.take (k+1))+1000000000 ^ (k+1) * (1 - x / 1000000000):=by
 rw [QbB,QbB,Qbb,ho,Nat.pow_succ]
 have h1:=Nat.mod_add_div x 1000000000
 generalize x % 1000000000=r at *
 generalize x / 1000000000=q at *
 generalize dg l k=a at *
 generalize dg m k=d at *
 generalize 1000000000 ^ k=p at *
 have e2:p * (r+d+c)=p * (a+1000000000 * (1 - q)):=by
  congr 1; omega
 rw [Nat.mul_add,Nat.mul_add,Nat.mul_add,← Nat.mul_assoc] at e2
 omega
set_option maxRecDepth 100000 in
set_option maxHeartbeats 1000000 in
theorem QmC (v u:Value) (l m:List Nat) (w:World) (hv:RdI w v .u64 l) (hu:RdI w u .u64 m) (hl:∀ x∈l,x<1000000000) (hm:∀ x∈m,x<1000000000) (h1:l.length≤1000000000) (h2:m.length≤l.length) (h3:val 1000000000 m≤val 1000000000 l) :
  Calls Tryz.prog 253 #[.agg #[v],.agg #[u]] w fun e w'=>∃ u,e=.returned (.agg #[u])∧Own w' w.heap.size 132 .u64 u (digs 1000000000 (val 1000000000 l - val 1000000000 m))∧Below w.heap.size w w':=by
 have hv':=Lib.hid hv
 have hu':=Lib.hid hu
 have HL:=Lib.hid hl
 have HM:=Lib.hid hm
 have H3:=Lib.hid h3
 obtain ⟨ao,ac,rfl,_,_,_,_⟩:=hv
 obtain ⟨bo,bc,rfl,_,_,_,_⟩:=hu
 clear hl hm h3
 obtain ⟨i0,hi,hz0,hz1,hz2⟩:=info_parts Tryz.infoU64
 go_enter Tryz.func253,Tryz.ntmps253
 go_wp2_with (at_make; refine mk0 rfl _ _ 273 rfl 132 .u64 i0 8 Tryz.underlying273 hi hz0 hz1 hz2 _ _ _ _ l.length rfl rfl rfl rfl (by omega) (by unfold maxLen; omega) ?_)
 intro w1 hown hb1
 obtain ⟨W,hW⟩:∃ W,W=((w.alloc (Obj.cells #[Value.slice ao l.length ac] 275)).alloc (Obj.cells #[Value.slice bo m.length bc] 275)).alloc (Obj.cells #[Value.slice none 0 0] 275):=⟨_,rfl⟩
 have HB0:Hid (Below w.heap.size w W):=by rw [hW]; exact ((((Below.refl _ _).alloc (Nat.le_refl _) _).alloc (by simp only [Qaa] <;> omega) _).alloc (by simp only [Qaa] <;> omega) _)
 have HC0:Hid (W.cell? ⟨w.heap.size,0,none⟩=some (Value.slice ao l.length ac)):=by unfold Hid; rw [hW]; simp (disch:=first | omega | (simp only [Qaa]; omega) | simp only [Qaa]) only [Qal,Qaq]; all_goals rfl
 have HC1:Hid (W.cell? ⟨w.heap.size+1,0,none⟩=some (Value.slice bo m.length bc)):=by unfold Hid; rw [hW]; simp (disch:=first | omega | (simp only [Qaa]; omega) | simp only [Qaa]) only [Qal,Qaq]; all_goals rfl
 have HC2:Hid (W.cell? ⟨w.heap.size+1+1,0,none⟩=some (Value.slice none 0 0)):=by unfold Hid; rw [hW]; simp (disch:=first | omega | (simp only [Qaa]; omega) | simp only [Qaa]) only [Qal]; all_goals rfl
 have HF2:Hid (W.frozen? ⟨w.heap.size+1+1,0,none⟩=false):=by unfold Hid; rw [hW]; simp (disch:=first | omega | (simp only [Qaa]; omega) | simp only [Qaa]) only [QaW]
 have HS:Hid (W.heap.size=w.heap.size+1+1+1):=by unfold Hid; rw [hW]; simp only [Qaa]
 rw [← hW] at hb1
 clear hW
 go_wp2_with fail
 go_loopw [6,15] (fun c i wr=>∃ (kk cc:Nat) (o:List Nat),i=.int .i64 kk∧c=.int .u64 cc∧kk≤l.length∧cc≤1∧o.length=kk∧(∀ x∈o,x<1000000000) ∧
   val 1000000000 o+val 1000000000 (m.take kk)=val 1000000000 (l.take kk)+1000000000 ^ kk * cc ∧
   Own wr (w.heap.size+1+1+1) 132 .u64 (.slice (some ⟨w.heap.size+1+1+1,0,none⟩) l.length l.length) (o++List.replicate (l.length - kk) 0)∧Below (w.heap.size+1+1+1) W wr) (fun _ i _=>l.length - (intOf i).toNat)
 case atStart=>exact ⟨0,0,[],rfl,rfl,by omega,by omega,rfl,by simp,by simp [val],by simpa using hown,hb1⟩
 case round =>
  obtain ⟨k,c,o,rfl,rfl,hk,hc,hol,hox,hval,hown,hbl⟩:=hrel
  have HB:=Lib.hid (HB0.out.trans (hbl.mono (by omega)))
  have hsz:=hbl.size
  rw [HS.out] at hsz
  have HR:=Lib.hid (hv'.out.keep HB.out)
  have HU:=Lib.hid (hu'.out.keep HB.out)
  have hc0:wr.cell? ⟨w.heap.size,0,none⟩=some (Value.slice ao l.length ac):=(hbl.cell (p:=⟨w.heap.size,0,none⟩) (by (try dsimp only); omega)).trans HC0.out
  have hc1:wr.cell? ⟨w.heap.size+1,0,none⟩=some (Value.slice bo m.length bc):=(hbl.cell (p:=⟨w.heap.size+1,0,none⟩) (by (try dsimp only); omega)).trans HC1.out
  have hc2:wr.cell? ⟨w.heap.size+1+1,0,none⟩=some (Value.slice none 0 0):=(hbl.cell (p:=⟨w.heap.size+1+1,0,none⟩) (by (try dsimp only); omega)).trans HC2.out
  have hf2:wr.frozen? ⟨w.heap.size+1+1,0,none⟩=false:=(hbl.frozen (p:=⟨w.heap.size+1+1,0,none⟩) (by (try dsimp only); omega)).trans HF2.out
  have HW:=Lib.hid hown
  have HV:=Lib.hid hval
  have HOL:=Lib.hid hol
  have HOX:=Lib.hid hox
  clear hval hox
  by_cases hkn:k<l.length
  · have hdl:=Qbv HL.out (by omega) k
    have hdm:=Qbv HM.out (by omega) k
    have hdc:=hown.cell k (by simp; omega)
    have hdf:=hown.free k
    clear hown hol
    have hki:(0:Int)≤(k:Int):=by omega
    have hkj:(k:Int)<(l.length:Int):=by omega
    have HX:Hid (((dg l k:Int)+1000000000 - (dg m k:Int) - (c:Int)) % 1000000000=((dg l k+1000000000 - dg m k - c) % 1000000000:Nat)):=by unfold Hid; omega
    go_wp2_with fail
    go_quiet ((go_at_call 287; first | exact qs (QdE _ l _ _ (HR.out.drewN _) (by omega) (by omega) (by omega)) | exact qs (QdE _ m _ _ (HU.out.drewN _) (by omega) (by omega) (by omega))))
    go_wp2_with fail
    go_roundw
    case rel =>
     refine ⟨k+1,1 - (dg l k+1000000000 - dg m k - c) / 1000000000,o++[(dg l k+1000000000 - dg m k - c) % 1000000000],by go_num,by go_num,by omega,by omega,by simp [HOL.out],?_,QlE HV.out HOL.out (by omega) (by omega),?_,(QaE hbl _).setCell (by simp) _⟩
     · intro x hx
       rcases List.mem_append.1 hx with h | h
       · exact HOX.out x h
       · simp at h; omega
     · rw [← QtK o l.length k _ HOL.out hkn,HX.out]
       exact (HW.out.drewN _).stored k _
    case measure=>simp [intOf]; omega
  · have he:k=l.length:=by omega
    subst he
    have hE:Hid (val 1000000000 o=val 1000000000 l - val 1000000000 m):=by
     unfold Hid
     have e:=HV.out
     rw [List.take_of_length_le h2,List.take_length] at e
     have hlt:=Qby 1000000000 o HOX.out
     rw [HOL.out] at hlt
     have h3:=H3.out
     rcases Nat.lt_or_ge 0 c with h | h
     · obtain rfl:c=1:=by omega
       omega
     · obtain rfl:c=0:=by omega
       omega
    have hW2:Hid (Own wr (w.heap.size+1+1+1) 132 .u64 (.slice (some ⟨w.heap.size+1+1+1,0,none⟩) l.length l.length) o):=by
     have:=HW.out
     rw [Nat.sub_self,List.replicate_zero,List.append_nil] at this
     exact this
    clear hown hol HW HV
    go_wp2_with fail
    refine (Qbw _ _ _ hW2.out.rd (by rw [HOL.out]; omega) (fun x hx=>by have:=HOX.out x hx; omega)).mono ?_
    rintro e w2 ⟨u,rfl,hu,hb2⟩
    rw [hE.out] at hu
    obtain ⟨uo,uc,rfl,_,_,_,_⟩:=hu.rd
    have hc2:w2.cell? ⟨w.heap.size+1+1,0,none⟩=some (Value.slice none 0 0):=(hb2.cell (p:=⟨w.heap.size+1+1,0,none⟩) (by dsimp only; omega)).trans hc2
    have hf2:w2.frozen? ⟨w.heap.size+1+1,0,none⟩=false:=(hb2.frozen (p:=⟨w.heap.size+1+1,0,none⟩) (by dsimp only; omega)).trans hf2
    go_wp2_with fail
    refine bodyPost_ret (v:=.agg #[Value.slice uo _ uc]) (by simp [results,Tryz.results253,go_sem,hc2]; rfl) rfl ⟨_,rfl,?_,?_⟩
    · exact (hu.set (by dsimp only; omega) _).low (by omega)
    · exact (HB.out.trans (hb2.mono (by omega))).setCell (by dsimp only; omega) _
end Go.Proofs.YtmbmbcamecfnkaaGreatDoor
namespace Go.Proofs.YtmbmbcamecfnkaaGreatDoor
open Go.RowKit
theorem QoC (b:Nat) (l:List Nat) (j y:Nat) (h:j<l.length):val b (l.set j y)+b ^ j * dg l j=val b l+b ^ j * y:=by
 rw [Qdg b l j (by omega),Qdg b (l.set j y) j (by simp; omega),Qa4 l j h,List.take_set_of_le (by omega)]
 have e:(l.set j y).drop j=y::l.drop (j+1):=by
  rw [Qa4 _ j (by simpa using h),QcN _ j (by simpa using h)]
  simp [List.drop_set]
 rw [e]
 simp only [val,Nat.mul_add]
 omega
theorem Qks (b:Nat) (l:List Nat) (k:Nat):val b (l.take k)≤val b l:=by
 have:=Qb3 b (l.take k) (l.drop k)
 rw [List.take_append_drop] at this
 rw [this]; exact Nat.le_add_right _ _
theorem Qns {D m:List Nat} {A x i k c P:Nat} (hP:P=1000000000 ^ i) (h:val 1000000000 D+1000000000 ^ (i+k) * c=A+P * (x * val 1000000000 (m.take k))) (hj:i+k<D.length) (p:Nat) (hp:p=x * dg m k) :
  val 1000000000 (D.set (i+k) ((c+(dg D (i+k)+p)) % 1000000000))+1000000000 ^ (i+(k+1)) * ((c+(dg D (i+k)+p)) / 1000000000)=A+P * (x * val 1000000000 (m.take (k+1))):=by
 have e1:=QoC 1000000000 D (i+k) ((c+(dg D (i+k)+p)) % 1000000000) hj
 have e2:=Nat.mod_add_div (c+(dg D (i+k)+p)) 1000000000
 generalize (c+(dg D (i+k)+p)) % 1000000000=r at *
 generalize (c+(dg D (i+k)+p)) / 1000000000=q at *
 rw [QbB,Nat.mul_add,Nat.mul_add]
 have e3:P * (x * (1000000000 ^ k * dg m k))=1000000000 ^ (i+k) * p:=by
  subst hp hP
  rw [Nat.pow_add,Nat.mul_left_comm x,← Nat.mul_assoc]
 have e4:1000000000 ^ (i+(k+1)) * q=1000000000 ^ (i+k) * (1000000000 * q):=by
  rw [← Nat.add_assoc,Nat.pow_succ,Nat.mul_assoc]
 rw [e3,e4]
 generalize 1000000000 ^ (i+k)=R at *
 have e5:R * (r+1000000000 * q)=R * (c+(dg D (i+k)+p)):=by rw [e2]
 rw [Nat.mul_add,Nat.mul_add,Nat.mul_add] at e5
 omega
theorem QpO {a b:Nat} (ha:a<1000000000) (hb:b<1000000000):a * b≤999999998000000001:=by
 have:=Nat.mul_le_mul (show a≤999999999 by omega) (show b≤999999999 by omega)
 omega
theorem Qnt {l m:List Nat} {i k:Nat} {T c:Nat} (hl:∀ x∈l,x<1000000000) (hm:∀ x∈m,x<1000000000) (hi:i<l.length)
  (h:T+1000000000 ^ (i+k) * c=val 1000000000 (l.take i) * val 1000000000 m+1000000000 ^ i * (dg l i * val 1000000000 (m.take k))) (hc:0<c):k≤m.length:=by
 have h1:1000000000 ^ i * (dg l i * val 1000000000 (m.take k))≤1000000000 ^ i * (dg l i * val 1000000000 m):=Nat.mul_le_mul_left _ (Nat.mul_le_mul_left _ (Qks _ _ _))
 have h2:val 1000000000 (l.take (i+1)) * val 1000000000 m=val 1000000000 (l.take i) * val 1000000000 m+1000000000 ^ i * (dg l i * val 1000000000 m):=by
  rw [QbB,Nat.add_mul,Nat.mul_assoc]
 have h3:=Qby 1000000000 (l.take (i+1)) (fun x hx=>hl x (List.mem_of_mem_take hx))
 rw [List.length_take,Nat.min_eq_left (by omega)] at h3
 have h4:=Qby 1000000000 m hm
 have h5:=Nat.mul_lt_mul'' h3 h4
 rw [← Nat.pow_add] at h5
 have h6:1000000000 ^ (i+k) * 1≤1000000000 ^ (i+k) * c:=Nat.mul_le_mul_left _ hc
 have h7:1000000000 ^ (i+k)<1000000000 ^ (i+1+m.length):=by omega
 have:=(Nat.pow_lt_pow_iff_right (by omega)).1 h7
 omega
set_option maxRecDepth 100000 in
set_option maxHeartbeats 2000000 in
theorem Qji (v u:Value) (l m:List Nat) (w:World) (hv:RdI w v .u64 l) (hu:RdI w u .u64 m) (hl:∀ x∈l,x<1000000000) (hm:∀ x∈m,x<1000000000) (h1:l.length≤400000000) (h2:m.length≤400000000) :
  Calls Tryz.prog 258 #[.agg #[v],.agg #[u]] w fun e w'=>∃ u,e=.returned (.agg #[u])∧Own w' w.heap.size 132 .u64 u (digs 1000000000 (val 1000000000 l * val 1000000000 m))∧Below w.heap.size w w':=by
 have hv':=Lib.hid hv
 have hu':=Lib.hid hu
 have HL:=Lib.hid hl
 have HM:=Lib.hid hm
 obtain ⟨ao,ac,rfl,_,hac,_,hx⟩:=hv
 have HX:=Lib.hid hx
 obtain ⟨bo,bc,rfl,_,_,_,_⟩:=hu
 clear hl hm hx
 obtain ⟨i0,hi,hz0,hz1,hz2⟩:=info_parts Tryz.infoU64
 go_enter Tryz.func258,Tryz.ntmps258
 go_wp2_with (at_make; refine mk0 rfl _ _ 273 rfl 132 .u64 i0 8 Tryz.underlying273 hi hz0 hz1 hz2 _ _ _ _ (l.length+m.length+1) rfl rfl (by simp) (by simp) (by omega) (by unfold maxLen; omega) ?_)
 intro w1 hown hb1
 obtain ⟨W,hW⟩:∃ W,W=((w.alloc (Obj.cells #[Value.slice ao l.length ac] 275)).alloc (Obj.cells #[Value.slice bo m.length bc] 275)).alloc (Obj.cells #[Value.slice none 0 0] 275):=⟨_,rfl⟩
 have HB0:Hid (Below w.heap.size w W):=by rw [hW]; exact ((((Below.refl _ _).alloc (Nat.le_refl _) _).alloc (by simp only [Qaa] <;> omega) _).alloc (by simp only [Qaa] <;> omega) _)
 have HC0:Hid (W.cell? ⟨w.heap.size,0,none⟩=some (Value.slice ao l.length ac)):=by unfold Hid; rw [hW]; simp (disch:=first | omega | (simp only [Qaa]; omega) | simp only [Qaa]) only [Qal,Qaq]; all_goals rfl
 have HC1:Hid (W.cell? ⟨w.heap.size+1,0,none⟩=some (Value.slice bo m.length bc)):=by unfold Hid; rw [hW]; simp (disch:=first | omega | (simp only [Qaa]; omega) | simp only [Qaa]) only [Qal,Qaq]; all_goals rfl
 have HC2:Hid (W.cell? ⟨w.heap.size+1+1,0,none⟩=some (Value.slice none 0 0)):=by unfold Hid; rw [hW]; simp (disch:=first | omega | (simp only [Qaa]; omega) | simp only [Qaa]) only [Qal]; all_goals rfl
 have HF2:Hid (W.frozen? ⟨w.heap.size+1+1,0,none⟩=false):=by unfold Hid; rw [hW]; simp (disch:=first | omega | (simp only [Qaa]; omega) | simp only [Qaa]) only [QaW]
 have HS:Hid (W.heap.size=w.heap.size+1+1+1):=by unfold Hid; rw [hW]; simp only [Qaa]
 rw [← hW] at hb1
 clear hW
 have hc0:w1.cell? ⟨w.heap.size,0,none⟩=some (Value.slice ao l.length ac):=(hb1.cell (p:=⟨w.heap.size,0,none⟩) (by (try dsimp only); omega)).trans HC0.out
 have hc1:w1.cell? ⟨w.heap.size+1,0,none⟩=some (Value.slice bo m.length bc):=(hb1.cell (p:=⟨w.heap.size+1,0,none⟩) (by (try dsimp only); omega)).trans HC1.out
 have hc2:w1.cell? ⟨w.heap.size+1+1,0,none⟩=some (Value.slice none 0 0):=(hb1.cell (p:=⟨w.heap.size+1+1,0,none⟩) (by (try dsimp only); omega)).trans HC2.out
 have hf2:w1.frozen? ⟨w.heap.size+1+1,0,none⟩=false:=(hb1.frozen (p:=⟨w.heap.size+1+1,0,none⟩) (by (try dsimp only); omega)).trans HF2.out
 go_wp2_with fail
 clear hc0 hc1 hc2 hf2
 go_loopw [22] (fun i wr=>∃ (ii:Nat) (D:List Nat),i=.int .i64 ii∧ii≤l.length∧D.length=l.length+m.length+1∧(∀ x∈D,x<1000000000)∧val 1000000000 D=val 1000000000 (l.take ii) * val 1000000000 m ∧
   Own wr (w.heap.size+1+1+1) 132 .u64 (.slice (some ⟨w.heap.size+1+1+1,0,none⟩) (l.length+m.length+1) (l.length+m.length+1)) D∧Below (w.heap.size+1+1+1) W wr) (fun i _=>l.length - (intOf i).toNat)
 case atStart=>exact ⟨0,List.replicate (l.length+m.length+1) 0,rfl,by omega,by simp,by intro x hx; rw [List.eq_of_mem_replicate hx]; omega,by
  have:∀ n,val 1000000000 (List.replicate n 0)=0:=by intro n; induction n with | zero=>rfl | succ n ih=>rw [List.replicate_succ,val,ih]
  rw [this]; simp [val],hown,hb1⟩
 case round =>
  obtain ⟨i,D,rfl,hi1,hDl,hDx,hDv,hown,hbl⟩:=hrel
  have HB:=Lib.hid (HB0.out.trans (hbl.mono (by omega)))
  have hsz:=hbl.size
  rw [HS.out] at hsz
  have hc0:wr.cell? ⟨w.heap.size,0,none⟩=some (Value.slice ao l.length ac):=(hbl.cell (p:=⟨w.heap.size,0,none⟩) (by (try dsimp only); omega)).trans HC0.out
  have hc1:wr.cell? ⟨w.heap.size+1,0,none⟩=some (Value.slice bo m.length bc):=(hbl.cell (p:=⟨w.heap.size+1,0,none⟩) (by (try dsimp only); omega)).trans HC1.out
  have hc2:wr.cell? ⟨w.heap.size+1+1,0,none⟩=some (Value.slice none 0 0):=(hbl.cell (p:=⟨w.heap.size+1+1,0,none⟩) (by (try dsimp only); omega)).trans HC2.out
  have hf2:wr.frozen? ⟨w.heap.size+1+1,0,none⟩=false:=(hbl.frozen (p:=⟨w.heap.size+1+1,0,none⟩) (by (try dsimp only); omega)).trans HF2.out
  have HW:=Lib.hid hown
  have HDV:=Lib.hid hDv
  have HDL:=Lib.hid hDl
  have HDX:=Lib.hid hDx
  clear hDv hDl hDx hown
  by_cases hil:i<l.length
  · obtain ⟨ad,had,hcell⟩:=HX.out i hil
    subst had
    have hcr:=(HB.out.cell (World.block_lt_of_cell? w _ hcell)).trans hcell
    clear hcell
    have hii:(0:Int)≤(i:Int):=by omega
    have hij:(i:Int)<(l.length:Int):=by omega
    go_wp2_with fail
    go_loopw [8,9] (fun c k wr=>∃ (cc kk:Nat) (D:List Nat),c=.int .u64 cc∧k=.int .i64 kk∧cc<1000000000∧kk≤m.length+1∧D.length=l.length+m.length+1∧(∀ x∈D,x<1000000000) ∧
      val 1000000000 D+1000000000 ^ (i+kk) * cc=val 1000000000 (l.take i) * val 1000000000 m+1000000000 ^ i * (dg l i * val 1000000000 (m.take kk)) ∧
      Own wr (w.heap.size+1+1+1) 132 .u64 (.slice (some ⟨w.heap.size+1+1+1,0,none⟩) (l.length+m.length+1) (l.length+m.length+1)) D∧Below (w.heap.size+1+1+1) W wr) (fun _ k _=>m.length+2 - (intOf k).toNat)
    case atStart=>exact ⟨0,0,D,rfl,rfl,by omega,by omega,HDL.out,HDX.out,by rw [HDV.out]; simp [val],HW.out,hbl⟩
    case round =>
     obtain ⟨c,k,E,rfl,rfl,hc,hk,hEl,hEx,hEv,hown,hbl2⟩:=hrel
     have HB2:=Lib.hid (HB0.out.trans (hbl2.mono (by omega)))
     have hsz2:=hbl2.size
     rw [HS.out] at hsz2
     have HU:=Lib.hid (hu'.out.keep HB2.out)
     have hd0:wr.cell? ⟨w.heap.size,0,none⟩=some (Value.slice (some ad) l.length ac):=(hbl2.cell (p:=⟨w.heap.size,0,none⟩) (by (try dsimp only); omega)).trans HC0.out
     have hd1:wr.cell? ⟨w.heap.size+1,0,none⟩=some (Value.slice bo m.length bc):=(hbl2.cell (p:=⟨w.heap.size+1,0,none⟩) (by (try dsimp only); omega)).trans HC1.out
     have hd2:wr.cell? ⟨w.heap.size+1+1,0,none⟩=some (Value.slice none 0 0):=(hbl2.cell (p:=⟨w.heap.size+1+1,0,none⟩) (by (try dsimp only); omega)).trans HC2.out
     have hg2:wr.frozen? ⟨w.heap.size+1+1,0,none⟩=false:=(hbl2.frozen (p:=⟨w.heap.size+1+1,0,none⟩) (by (try dsimp only); omega)).trans HF2.out
     have HEV:=Lib.hid hEv
     have HEL:=Lib.hid hEl
     have HEX:=Lib.hid hEx
     have HO:=Lib.hid hown
     have hroom:0<c→k≤m.length:=Qnt HL.out HM.out hil hEv
     have HROOM:=Lib.hid hroom
     clear hEv hEl hEx hroom
     by_cases hkc:k<m.length∨(¬ k<m.length∧0<c)
     · have hkm:k≤m.length:=by rcases hkc with h | h; omega; exact HROOM.out h.2
       have hdl:=Qbv HL.out (by omega) i
       have hdm:=Qbv HM.out (by omega) k
       have hde:=Qbv HEX.out (by omega) (i+k)
       obtain ⟨p,hp⟩:∃ p,p=dg l i * dg m k:=⟨_,rfl⟩
       have hp1:p≤999999998000000001:=by rw [hp]; exact QpO hdl hdm
       have hpi:(dg l i:Int) * (dg m k:Int)=(p:Int):=by rw [hp]; simp
       have HP:=Lib.hid hp
       clear hp
       have hec:=hown.cell (i+k) (by rw [HEL.out]; omega)
       have hef:=hown.free (i+k)
       have hik0:(0:Int)≤(i:Int)+(k:Int):=by omega
       have hik1:(i:Int)+(k:Int)<(l.length:Int)+(m.length:Int)+1:=by omega
       have HXX:Hid (((c:Int)+((dg E (i+k):Int)+(p:Int))) % 1000000000=((c+(dg E (i+k)+p)) % 1000000000:Nat)):=by unfold Hid; omega
       clear hown
       rcases hkc with hkc | ⟨hkn,hkc⟩
       all_goals
        go_wp2_with fail
        go_quiet ((go_at_call 287; exact qs (QdE _ m _ _ (HU.out.drewN _) (by omega) (by omega) (by omega))))
        go_wp2_with fail
        go_roundw
        case rel =>
         refine ⟨(c+(dg E (i+k)+p)) / 1000000000,k+1,E.set (i+k) ((c+(dg E (i+k)+p)) % 1000000000),by go_num,by go_num,by omega,by omega,by simp [HEL.out],?_,Qns rfl HEV.out (by rw [HEL.out]; omega) p HP.out,?_,(QaE hbl2 _).setCell (by simp) _⟩
         · intro x hx
           rcases List.mem_or_eq_of_mem_set hx with h | h
           · exact HEX.out x h
           · omega
         · rw [HXX.out]
           exact (HO.out.drewN _).stored _ _
        case measure=>simp [intOf]; omega
     · have hc0:c=0:=by omega
       have HC:=Lib.hid hc0
       have hkm:¬ k<m.length:=by omega
       have HKM:Hid (m.length≤k):=by unfold Hid; omega
       have hcn:¬ 0<c:=by omega
       clear hc0 hkc hown
       go_wp2_with fail
       go_roundw
       case rel =>
        refine ⟨i+1,E,by go_num,by omega,HEL.out,HEX.out,?_,HO.out,hbl2⟩
        have:=HEV.out
        rw [HC.out,List.take_of_length_le HKM.out] at this
        rw [QbB,Nat.add_mul,Nat.mul_assoc]
        omega
       case measure=>simp [intOf]; omega
  · have he:i=l.length:=by omega
    subst he
    have HE:Hid (val 1000000000 D=val 1000000000 l * val 1000000000 m):=by
     have:=HDV.out
     rw [List.take_length] at this; exact this
    go_wp2_with fail
    refine (Qbw _ _ _ HW.out.rd (by rw [HDL.out]; omega) (fun x hx=>by have:=HDX.out x hx; omega)).mono ?_
    rintro e w2 ⟨u,rfl,hu,hb2⟩
    rw [HE.out] at hu
    obtain ⟨uo,uc,rfl,_,_,_,_⟩:=hu.rd
    have hc2:w2.cell? ⟨w.heap.size+1+1,0,none⟩=some (Value.slice none 0 0):=(hb2.cell (p:=⟨w.heap.size+1+1,0,none⟩) (by dsimp only; omega)).trans hc2
    have hf2:w2.frozen? ⟨w.heap.size+1+1,0,none⟩=false:=(hb2.frozen (p:=⟨w.heap.size+1+1,0,none⟩) (by dsimp only; omega)).trans hf2
    go_wp2_with fail
    refine bodyPost_ret (v:=.agg #[Value.slice uo _ uc]) (by simp [results,Tryz.results258,go_sem,hc2]; rfl) rfl ⟨_,rfl,?_,?_⟩
    · exact (hu.set (by dsimp only; omega) _).low (by omega)
    · exact (HB.out.trans (hb2.mono (by omega))).setCell (by dsimp only; omega) _
end Go.Proofs.YtmbmbcamecfnkaaGreatDoor
namespace Go.Proofs.YtmbmbcamecfnkaaGreatDoor
open Go.RowKit
attribute [local go_sem ↓] Go.wp_at_zero Go.wp_at_succ
set_option maxRecDepth 100000 in
set_option maxHeartbeats 2000000 in
theorem Qfd (v:Value) (l:List Nat) (x:Nat) (w:World) (hv:RdI w v .u64 l) (hl:∀ x∈l,x<1000000000) (hx:x<1000000000) (h1:l.length≤400000000) :
  Calls Tryz.prog 295 #[.agg #[v],.int .u64 x] w fun e w'=>∃ u,e=.returned (.agg #[u])∧Own w' w.heap.size 132 .u64 u (digs 1000000000 (val 1000000000 l * x))∧Below w.heap.size w w':=by
 have hv':=Lib.hid hv
 have HL:=Lib.hid hl
 obtain ⟨ao,ac,rfl,_,_,_,_⟩:=hv
 clear hl
 have HX:Hid (∀ y∈[x],y≤8589934592):=by intro y hy; simp at hy; omega
 have HV:Hid (val 1000000000 l * val 1000000000 (digs 1000000000 (val 1000000000 [x]))=val 1000000000 l * x):=by
  unfold Hid; rw [Qah _ (by omega)]; simp [val]
 have HD:Hid ((digs 1000000000 (val 1000000000 [x])).length≤1):=Qay _ (by omega) _ _ (by simp [val]; omega)
 go_enter Tryz.func295,Tryz.ntmps295
 go_wp2_with fail
 obtain ⟨W,hW⟩:∃ W,W=(w.alloc (Obj.cells #[Value.slice ao l.length ac] 275)).alloc (Obj.cells #[Value.slice none 0 0] 275):=⟨_,rfl⟩
 have HB0:Hid (Below w.heap.size w W):=by rw [hW]; exact (((Below.refl _ _).alloc (Nat.le_refl _) _).alloc (by simp only [Qaa] <;> omega) _)
 have HC0:Hid (W.cell? ⟨w.heap.size,0,none⟩=some (Value.slice ao l.length ac)):=by unfold Hid; rw [hW]; simp (disch:=first | omega | (simp only [Qaa]; omega) | simp only [Qaa]) only [Qal,Qaq]; all_goals rfl
 have HC1:Hid (W.cell? ⟨w.heap.size+1,0,none⟩=some (Value.slice none 0 0)):=by unfold Hid; rw [hW]; simp (disch:=first | omega | (simp only [Qaa]; omega) | simp only [Qaa]) only [Qal]; all_goals rfl
 have HF1:Hid (W.frozen? ⟨w.heap.size+1,0,none⟩=false):=by unfold Hid; rw [hW]; simp (disch:=first | omega | (simp only [Qaa]; omega) | simp only [Qaa]) only [QaW]
 have HS:Hid (W.heap.size=w.heap.size+1+1):=by unfold Hid; rw [hW]; simp only [Qaa]
 rw [← hW]
 clear hW
 have hc0:=HC0.out
 have hsW:=HS.out
 have HSW:=HS
 clear HS
 go_region_held3 (fun w'=>w'.cell? ⟨w.heap.size,0,none⟩=some (Value.slice ao l.length ac)) ((go_split_ands; (first | (first | assumption | (simp (disch:=(first | omega | (simp only [Qaa,Qac,Qab,Qad]; omega) | simp only [Qaa,Qac,Qab,Qad])) only [QaS,Qaq,Qba] <;> first | rfl | assumption)) | ((first | refine (hbk.cell ?_).trans ?_ | refine (hbk.frozen ?_).trans ?_) <;> first | (first | omega | (simp only [Qaa,Qac]; omega) | simp only [Qaa,Qac,Qab,Qad]) | (first | assumption | (simp (disch:=(first | omega | (simp only [Qaa,Qac,Qab,Qad]; omega) | simp only [Qaa,Qac,Qab,Qad])) only [QaS,Qbp,Qbl,Qbk,Qal,Qaq,QaW,Qbj,Qba,QaJ,QaH] <;> first | rfl | assumption))))))
  (first | (go_at_call 293; refine (Qbw _ [x] _ ?_ ?_ HX.out).mono ?_; (exact (Qpu _ _ _ _ _ hsW.symm).drew); (simp); rintro e w2 ⟨u,rfl,hu,hbk⟩; have hz2:w.heap.size+1+1<w2.heap.size:=(by have:=hbk.size; simp only [Qaa,Qac] at this; omega); have hB2:Below (w.heap.size+1+1) W w2:=(by refine Below.trans ?_ (Below.mono hbk ?_) <;> first | ((repeat (first | exact Below.refl _ _ | assumption | refine Below.drew ?_ | refine QaE ?_ _ | refine Below.alloc ?_ (by (first | omega | (simp only [Qaa,Qac,Qab,Qad]; omega) | simp only [Qaa,Qac,Qab,Qad])) _ | refine Below.setCell ?_ (by (first | omega | (simp only [Qaa,Qac,Qab,Qad]; omega) | simp only [Qaa,Qac,Qab,Qad])) _)); done) | (first | omega | (simp only [Qaa,Qac]; omega) | simp only [Qaa,Qac,Qab,Qad]))) | (go_at_call 258; refine (Qji _ _ l (digs 1000000000 (val 1000000000 [x])) _ (hv'.out.keep (HB0.out.trans (hB2.mono (by omega)))) hu.rd HL.out (Qau _ (by omega) _) h1 (Nat.le_trans HD.out (by omega))).mono ?_; rintro e w3 ⟨u3,rfl,hu3,hbk⟩; have hB3:Below (w.heap.size+1+1) W w3:=(by refine Below.trans ?_ (Below.mono hbk ?_) <;> first | ((repeat (first | exact Below.refl _ _ | assumption | refine Below.drew ?_ | refine QaE ?_ _ | refine Below.alloc ?_ (by (first | omega | (simp only [Qaa,Qac,Qab,Qad]; omega) | simp only [Qaa,Qac,Qab,Qad])) _ | refine Below.setCell ?_ (by (first | omega | (simp only [Qaa,Qac,Qab,Qad]; omega) | simp only [Qaa,Qac,Qab,Qad])) _)); done) | (first | omega | (simp only [Qaa,Qac,Qab,Qad]; omega) | simp only [Qaa,Qac,Qab,Qad])); have hc0:w3.cell? ⟨w.heap.size,0,none⟩=some (Value.slice ao l.length ac):=(hB3.cell (p:=⟨w.heap.size,0,none⟩) (by (try dsimp only); omega)).trans HC0.out; have hc1:w3.cell? ⟨w.heap.size+1,0,none⟩=some (Value.slice none 0 0):=(hB3.cell (p:=⟨w.heap.size+1,0,none⟩) (by (try dsimp only); omega)).trans HC1.out; have hf1:w3.frozen? ⟨w.heap.size+1,0,none⟩=false:=(hB3.frozen (p:=⟨w.heap.size+1,0,none⟩) (by (try dsimp only); omega)).trans HF1.out; rw [HV.out] at hu3; obtain ⟨uo,uc,rfl,_,_,_,_⟩:=hu3.rd))
 go_wp2_with fail
 refine bodyPost_ret (v:=.agg #[Value.slice uo _ uc]) (by simp [results,Tryz.results295,go_sem,hc1]; rfl) rfl ⟨_,rfl,?_,?_⟩
 · exact (hu3.set (by dsimp only; omega) _).low (by omega)
 · exact (HB0.out.trans (hB3.mono (by omega))).setCell (by dsimp only; omega) _
theorem QnA {M N x:Nat} (h1:M * x≤N) (h2:N<M * (x+1)):x=N / M:=by
 have hM:0<M:=by
  rcases Nat.eq_zero_or_pos M with h | h
  · subst h; omega
  · exact h
 symm
 exact Nat.div_eq_of_lt_le (by rw [Nat.mul_comm]; exact h1) (by rw [Nat.mul_comm]; exact h2)
set_option maxRecDepth 100000 in
set_option maxHeartbeats 2000000 in
theorem Qqq (v u:Value) (l m:List Nat) (w:World) (hv:RdI w v .u64 l) (hu:RdI w u .u64 m) (hl:Rgt 1000000000 l) (hm:Rgt 1000000000 m) (h1:l.length≤400000000) (h2:m.length≤400000000) (h3:val 1000000000 l<val 1000000000 m * 1000000000) :
  Calls Tryz.prog 294 #[.agg #[v],.agg #[u]] w fun e w'=>e=.returned (.int .u64 (val 1000000000 l / val 1000000000 m:Nat))∧Below w.heap.size w w':=by
 have hv':=Lib.hid hv
 have hu':=Lib.hid hu
 have HL:=Lib.hid hl
 have HM:=Lib.hid hm
 have H3:=Lib.hid h3
 obtain ⟨ao,ac,rfl,_,_,_,_⟩:=hv
 obtain ⟨bo,bc,rfl,_,_,_,_⟩:=hu
 clear hl hm h3
 go_enter Tryz.func294,Tryz.ntmps294
 go_wp2_with fail
 obtain ⟨W,hW⟩:∃ W,W=(w.alloc (Obj.cells #[Value.slice ao l.length ac] 275)).alloc (Obj.cells #[Value.slice bo m.length bc] 275):=⟨_,rfl⟩
 have HB0:Hid (Below w.heap.size w W):=by rw [hW]; exact (((Below.refl _ _).alloc (Nat.le_refl _) _).alloc (by simp only [Qaa] <;> omega) _)
 have HC0:Hid (W.cell? ⟨w.heap.size,0,none⟩=some (Value.slice ao l.length ac)):=by unfold Hid; rw [hW]; simp (disch:=first | omega | (simp only [Qaa]; omega) | simp only [Qaa]) only [Qal,Qaq]; all_goals rfl
 have HC1:Hid (W.cell? ⟨w.heap.size+1,0,none⟩=some (Value.slice bo m.length bc)):=by unfold Hid; rw [hW]; simp (disch:=first | omega | (simp only [Qaa]; omega) | simp only [Qaa]) only [Qal]; all_goals rfl
 have HS:Hid (W.heap.size=w.heap.size+1+1):=by unfold Hid; rw [hW]; simp only [Qaa]
 rw [← hW]
 clear hW
 have hb1:Below (w.heap.size+1+1) W W:=Below.refl _ _
 go_loopw [5,6] (fun lo hi wr=>∃ (a b:Nat),lo=.int .u64 a∧hi=.int .u64 b∧a≤b∧b≤999999999∧val 1000000000 m * a≤val 1000000000 l∧val 1000000000 l<val 1000000000 m * (b+1)∧Below (w.heap.size+1+1) W wr) (fun lo hi _=>(intOf hi - intOf lo).toNat)
 case atStart=>exact ⟨0,999999999,rfl,rfl,by omega,by omega,by omega,H3.out,hb1⟩
 case round =>
  obtain ⟨a,b,rfl,rfl,hab,hb9,hlo,hhi,hbl⟩:=hrel
  have HB:=Lib.hid (HB0.out.trans (hbl.mono (by omega)))
  have hsz:=hbl.size
  rw [HS.out] at hsz
  have HLO:=Lib.hid hlo
  have HHI:=Lib.hid hhi
  clear hlo hhi
  have hc0:wr.cell? ⟨w.heap.size,0,none⟩=some (Value.slice ao l.length ac):=(hbl.cell (p:=⟨w.heap.size,0,none⟩) (by (try dsimp only); omega)).trans HC0.out
  have hc1:wr.cell? ⟨w.heap.size+1,0,none⟩=some (Value.slice bo m.length bc):=(hbl.cell (p:=⟨w.heap.size+1,0,none⟩) (by (try dsimp only); omega)).trans HC1.out
  by_cases hlt:a<b
  · obtain ⟨mid,hmid⟩:∃ mid,mid=(a+b+1) / 2:=⟨_,rfl⟩
    have hm1:a<mid:=by omega
    have hm2:mid≤b:=by omega
    have hmi:((a:Int)+(b:Int)+1) / 2=(mid:Int):=by omega
    have HMID:=Lib.hid hmid
    clear hmid
    have HVM:Hid (val 1000000000 (digs 1000000000 (val 1000000000 m * mid))=val 1000000000 m * mid):=Qah _ (by omega) _
    have HDL:Hid ((digs 1000000000 (val 1000000000 m * mid)).length≤m.length+1):=by
     refine Qay _ (by omega) _ _ ?_
     have e1:=Qby 1000000000 m HM.out.1
     have e2:val 1000000000 m * mid<1000000000 ^ m.length * 1000000000:=Nat.mul_lt_mul'' e1 (by omega)
     rw [← Nat.pow_succ] at e2
     exact e2
    by_cases hc:val 1000000000 m * mid≤val 1000000000 l
    all_goals
     have HCC:=Lib.hid hc
     clear hc
    · have hle:cmpI (val 1000000000 (digs 1000000000 (val 1000000000 m * mid)):Nat) (val 1000000000 l:Nat)≤0:=by
       rw [HVM.out]; unfold cmpI; split
       · omega
       · split
         · have:=HCC.out; omega
         · omega
      have hle2:decide (cmpI (val 1000000000 (digs 1000000000 (val 1000000000 m * mid)):Nat) (val 1000000000 l:Nat)≤0)=true:=by simp [hle]
      clear hle
      go_wp2_with fail
      go_region_held3 (fun w'=>w'.cell? ⟨w.heap.size,0,none⟩=some (Value.slice ao l.length ac)∧w'.cell? ⟨w.heap.size+1,0,none⟩=some (Value.slice bo m.length bc)) ((go_split_ands; refine ⟨?_,?_⟩ <;> (first | (first | assumption | (simp (disch:=(first | omega | (simp only [Qaa,Qac,Qab,Qad]; omega) | simp only [Qaa,Qac,Qab,Qad])) only [QaS,Qbp,Qbl,Qbk,Qal,Qaq,QaW,Qbj,Qba,QaJ,QaH] <;> first | rfl | assumption)) | ((first | refine (hbk.cell ?_).trans ?_ | refine (hbk.frozen ?_).trans ?_) <;> first | (first | omega | (simp only [Qac]; omega) | simp only [Qaa,Qac,Qab,Qad]) | (first | assumption | (simp (disch:=(first | omega | (simp only [Qaa,Qac,Qab,Qad]; omega) | simp only [Qaa,Qac,Qab,Qad])) only [QaS,Qbp,Qbl,Qbk,Qal,Qaq,QaW,Qbj,Qba,QaJ,QaH] <;> first | rfl | assumption))))))
       (first | (go_at_call 295; refine (Qfd _ m mid _ (hu'.out.keep HB.out).drew HM.out.1 (by omega) h2).mono ?_; rintro e w2 ⟨u,rfl,hu,hbk⟩; have hz2:w.heap.size+1+1≤w2.heap.size:=(by have:=hbk.size; simp only [Qac] at this; omega); have hB2:Below (w.heap.size+1+1) W w2:=(by refine Below.trans ?_ (Below.mono hbk ?_) <;> first | ((repeat (first | exact Below.refl _ _ | assumption | refine Below.drew ?_ | refine QaE ?_ _ | refine Below.alloc ?_ (by (first | omega | (simp only [Qaa,Qac,Qab,Qad]; omega) | simp only [Qaa,Qac,Qab,Qad])) _ | refine Below.setCell ?_ (by (first | omega | (simp only [Qaa,Qac,Qab,Qad]; omega) | simp only [Qaa,Qac,Qab,Qad])) _)); done) | (first | omega | (simp only [Qaa,Qac,Qab,Qad]; omega) | simp only [Qaa,Qac,Qab,Qad]))) | (go_at_call 252; refine (Qcc _ _ (digs 1000000000 (val 1000000000 m * mid)) l _ hu.rd (hv'.out.keep (HB0.out.trans (hB2.mono (by omega)))) (QaP _ (by omega) _) HL.out (Nat.le_trans HDL.out (by omega)) (by omega)).mono ?_; rintro e w3 ⟨rfl,hbk⟩; have hB3:Below (w.heap.size+1+1) W w3:=(by refine Below.trans ?_ (Below.mono hbk ?_) <;> first | ((repeat (first | exact Below.refl _ _ | assumption | refine Below.drew ?_ | refine QaE ?_ _ | refine Below.alloc ?_ (by (first | omega | (simp only [Qaa,Qac,Qab,Qad]; omega) | simp only [Qaa,Qac,Qab,Qad])) _ | refine Below.setCell ?_ (by (first | omega | (simp only [Qaa,Qac,Qab,Qad]; omega) | simp only [Qaa,Qac,Qab,Qad])) _)); done) | (first | omega | (simp only [Qaa,Qac,Qab,Qad]; omega) | simp only [Qaa,Qac,Qab,Qad]))))
      go_wp2_with fail
      go_roundw
      case rel=>exact ⟨mid,b,rfl,rfl,by omega,hb9,HCC.out,HHI.out,hB3⟩
      case measure=>simp [intOf]; omega
    · have hle:0<cmpI (val 1000000000 (digs 1000000000 (val 1000000000 m * mid)):Nat) (val 1000000000 l:Nat):=by
       rw [HVM.out]; unfold cmpI; have:=HCC.out; rw [if_neg (by omega),if_pos (by omega)]; omega
      have hle2:decide (cmpI (val 1000000000 (digs 1000000000 (val 1000000000 m * mid)):Nat) (val 1000000000 l:Nat)≤0)=false:=by simp; omega
      clear hle
      go_wp2_with fail
      go_region_held3 (fun w'=>w'.cell? ⟨w.heap.size,0,none⟩=some (Value.slice ao l.length ac)∧w'.cell? ⟨w.heap.size+1,0,none⟩=some (Value.slice bo m.length bc)) ((go_split_ands; refine ⟨?_,?_⟩ <;> (first | (first | assumption | (simp (disch:=(first | omega | (simp only [Qaa,Qac,Qab,Qad]; omega) | simp only [Qaa,Qac,Qab,Qad])) only [QaS,Qbp,Qbl,Qbk,Qal,Qaq,QaW,Qbj,Qba,QaJ,QaH] <;> first | rfl | assumption)) | ((first | refine (hbk.cell ?_).trans ?_ | refine (hbk.frozen ?_).trans ?_) <;> first | (first | omega | (simp only [Qac]; omega) | simp only [Qaa,Qac,Qab,Qad]) | (first | assumption | (simp (disch:=(first | omega | (simp only [Qaa,Qac,Qab,Qad]; omega) | simp only [Qaa,Qac,Qab,Qad])) only [QaS,Qbp,Qbl,Qbk,Qal,Qaq,QaW,Qbj,Qba,QaJ,QaH] <;> first | rfl | assumption))))))
       (first | (go_at_call 295; refine (Qfd _ m mid _ (hu'.out.keep HB.out).drew HM.out.1 (by omega) h2).mono ?_; rintro e w2 ⟨u,rfl,hu,hbk⟩; have hz2:w.heap.size+1+1≤w2.heap.size:=(by have:=hbk.size; simp only [Qac] at this; omega); have hB2:Below (w.heap.size+1+1) W w2:=(by refine Below.trans ?_ (Below.mono hbk ?_) <;> first | ((repeat (first | exact Below.refl _ _ | assumption | refine Below.drew ?_ | refine QaE ?_ _ | refine Below.alloc ?_ (by (first | omega | (simp only [Qaa,Qac,Qab,Qad]; omega) | simp only [Qaa,Qac,Qab,Qad])) _ | refine Below.setCell ?_ (by (first | omega | (simp only [Qaa,Qac,Qab,Qad]; omega) | simp only [Qaa,Qac,Qab,Qad])) _)); done) | (first | omega | (simp only [Qaa,Qac,Qab,Qad]; omega) | simp only [Qaa,Qac,Qab,Qad]))) | (go_at_call 252; refine (Qcc _ _ (digs 1000000000 (val 1000000000 m * mid)) l _ hu.rd (hv'.out.keep (HB0.out.trans (hB2.mono (by omega)))) (QaP _ (by omega) _) HL.out (Nat.le_trans HDL.out (by omega)) (by omega)).mono ?_; rintro e w3 ⟨rfl,hbk⟩; have hB3:Below (w.heap.size+1+1) W w3:=(by refine Below.trans ?_ (Below.mono hbk ?_) <;> first | ((repeat (first | exact Below.refl _ _ | assumption | refine Below.drew ?_ | refine QaE ?_ _ | refine Below.alloc ?_ (by (first | omega | (simp only [Qaa,Qac,Qab,Qad]; omega) | simp only [Qaa,Qac,Qab,Qad])) _ | refine Below.setCell ?_ (by (first | omega | (simp only [Qaa,Qac,Qab,Qad]; omega) | simp only [Qaa,Qac,Qab,Qad])) _)); done) | (first | omega | (simp only [Qaa,Qac,Qab,Qad]; omega) | simp only [Qaa,Qac,Qab,Qad]))))
      go_wp2_with fail
      go_roundw
      case rel=>exact ⟨a,mid - 1,rfl,by go_num,by omega,by omega,HLO.out,by have:=HCC.out; rw [show mid - 1+1=mid from by omega]; omega,hB3⟩
      case measure=>simp [intOf]; omega
  · have he:a=b:=by omega
    subst he
    have HE:Hid (a=val 1000000000 l / val 1000000000 m):=QnA HLO.out HHI.out
    go_wp2_with fail
    go_ret
    exact ⟨by rw [← HE.out]; rfl,HB.out⟩
end Go.Proofs.YtmbmbcamecfnkaaGreatDoor
namespace Go.Proofs.YtmbmbcamecfnkaaGreatDoor
open Go.RowKit
attribute [local go_sem ↓] Go.wp_at_zero Go.wp_at_succ
theorem QpC {M Q R x:Nat} (hR:R<M) (hx:x<1000000000) :
  x+1000000000 * R<M * 1000000000∧(x+1000000000 * R) / M<1000000000∧(x+1000000000 * R) % M<M ∧
   x+1000000000 * (Q * M+R)=((x+1000000000 * R) / M+1000000000 * Q) * M+(x+1000000000 * R) % M:=by
 have h1:x+1000000000 * R<M * 1000000000:=by
  have:1000000000 * (R+1)≤1000000000 * M:=Nat.mul_le_mul_left _ hR
  rw [Nat.mul_comm M]; omega
 refine ⟨h1,Nat.div_lt_of_lt_mul h1,Nat.mod_lt _ (by omega),?_⟩
 have h2:=Nat.div_add_mod (x+1000000000 * R) M
 rw [Nat.add_mul,Nat.mul_assoc]
 rw [Nat.mul_comm M] at h2
 omega
set_option maxRecDepth 100000 in
set_option maxHeartbeats 4000000 in
theorem QnN (v u:Value) (l m:List Nat) (w:World) (hv:RdI w v .u64 l) (hu:RdI w u .u64 m) (hl:∀ x∈l,x<1000000000) (hm:Rgt 1000000000 m) (h1:l.length≤300000000) (h2:m.length≤300000000) (h3:0<val 1000000000 m) :
  Calls Tryz.prog 230 #[.agg #[v],.agg #[u]] w fun e w'=>∃ q r,e=.returned (.tuple #[.agg #[q],.agg #[r]])∧Own w' w.heap.size 132 .u64 q (digs 1000000000 (val 1000000000 l / val 1000000000 m)) ∧
   Own w' w.heap.size 132 .u64 r (digs 1000000000 (val 1000000000 l % val 1000000000 m))∧Below w.heap.size w w':=by
 have hv':=Lib.hid hv
 have hu':=Lib.hid hu
 have HL:=Lib.hid hl
 have HM:=Lib.hid hm
 have H3:=Lib.hid h3
 obtain ⟨ao,ac,rfl,_,_,_,_⟩:=hv
 obtain ⟨bo,bc,rfl,_,_,_,_⟩:=hu
 clear hl hm h3
 obtain ⟨i0,hi,hz0,hz1,hz2⟩:=info_parts Tryz.infoU64
 go_enter Tryz.func230,Tryz.ntmps230
 go_wp2_with (at_make; refine mk0 rfl _ _ 273 rfl 132 .u64 i0 8 Tryz.underlying273 hi hz0 hz1 hz2 _ _ _ _ l.length rfl rfl rfl rfl (by omega) (by unfold maxLen; omega) ?_)
 intro w1 hown hb1
 obtain ⟨W,hW⟩:∃ W,W=(((w.alloc (Obj.cells #[Value.slice ao l.length ac] 275)).alloc (Obj.cells #[Value.slice bo m.length bc] 275)).alloc (Obj.cells #[Value.slice none 0 0] 275)).alloc (Obj.cells #[Value.slice none 0 0] 275):=⟨_,rfl⟩
 have HB0:Hid (Below w.heap.size w W):=by rw [hW]; exact (((((Below.refl _ _).alloc (Nat.le_refl _) _).alloc (by simp only [Qaa] <;> omega) _).alloc (by simp only [Qaa] <;> omega) _).alloc (by simp only [Qaa] <;> omega) _)
 have HC0:Hid (W.cell? ⟨w.heap.size,0,none⟩=some (Value.slice ao l.length ac)):=by unfold Hid; rw [hW]; simp (disch:=first | omega | (simp only [Qaa]; omega) | simp only [Qaa]) only [Qal,Qaq]; all_goals rfl
 have HC1:Hid (W.cell? ⟨w.heap.size+1,0,none⟩=some (Value.slice bo m.length bc)):=by unfold Hid; rw [hW]; simp (disch:=first | omega | (simp only [Qaa]; omega) | simp only [Qaa]) only [Qal,Qaq]; all_goals rfl
 have HC2:Hid (W.cell? ⟨w.heap.size+1+1,0,none⟩=some (Value.slice none 0 0)):=by unfold Hid; rw [hW]; simp (disch:=first | omega | (simp only [Qaa]; omega) | simp only [Qaa]) only [Qal,Qaq]; all_goals rfl
 have HF2:Hid (W.frozen? ⟨w.heap.size+1+1,0,none⟩=false):=by unfold Hid; rw [hW]; simp (disch:=first | omega | (simp only [Qaa]; omega) | simp only [Qaa]) only [QaW,Qbj]
 have HC3:Hid (W.cell? ⟨w.heap.size+1+1+1,0,none⟩=some (Value.slice none 0 0)):=by unfold Hid; rw [hW]; simp (disch:=first | omega | (simp only [Qaa]; omega) | simp only [Qaa]) only [Qal]; all_goals rfl
 have HF3:Hid (W.frozen? ⟨w.heap.size+1+1+1,0,none⟩=false):=by unfold Hid; rw [hW]; simp (disch:=first | omega | (simp only [Qaa]; omega) | simp only [Qaa]) only [QaW]
 have HS:Hid (W.heap.size=w.heap.size+1+1+1+1):=by unfold Hid; rw [hW]; simp only [Qaa]
 rw [← hW] at hb1
 clear hW
 go_wp2_with fail
 go_loopw [7] (fun k wr=>∃ (k':Int) (j R:Nat) (rv:Value) (ds:List Nat),k=.int .i64 k'∧k'+1=(j:Int)∧j≤l.length∧R<val 1000000000 m∧ds.length=l.length - j∧(∀ x∈ds,x<1000000000) ∧
   val 1000000000 (l.drop j)=val 1000000000 ds * val 1000000000 m+R ∧
   Own wr (w.heap.size+1+1+1+1) 132 .u64 (.slice (some ⟨w.heap.size+1+1+1+1,0,none⟩) l.length l.length) (List.replicate j 0++ds) ∧
   Own wr (w.heap.size+1+1+1+1+1) 132 .u64 rv (digs 1000000000 R)∧wr.cell? ⟨w.heap.size+1+1+1,0,none⟩=some rv∧wr.frozen? ⟨w.heap.size+1+1+1,0,none⟩=false∧Below (w.heap.size+1+1+1) W wr) (fun k _=>(intOf k+1).toNat)
 case atStart=>exact ⟨_,l.length,0,.slice none 0 0,[],rfl,by omega,by omega,H3.out,by simp,by simp,by simp [val],by simpa using hown,World.ownsRow_nil _ _ _ _,(hb1.cell (p:=⟨w.heap.size+1+1+1,0,none⟩) (by dsimp only; omega)).trans HC3.out,(hb1.frozen (p:=⟨w.heap.size+1+1+1,0,none⟩) (by dsimp only; omega)).trans HF3.out,hb1.mono (by omega)⟩
 case round =>
  obtain ⟨k',j,R,rv,ds,rfl,hkj,hj,hRM,hdl,hdx,hdv,hown,hrown,hrc,hrf,hbl⟩:=hrel
  have HB:=Lib.hid (HB0.out.trans (hbl.mono (by omega)))
  have hsz:=hown.lts.2
  have HRn:=Lib.hid (hv'.out.keep HB.out)
  have HUn:=Lib.hid (hu'.out.keep HB.out)
  have hc0:wr.cell? ⟨w.heap.size,0,none⟩=some (Value.slice ao l.length ac):=(hbl.cell (p:=⟨w.heap.size,0,none⟩) (by dsimp only; omega)).trans HC0.out
  have hc1:wr.cell? ⟨w.heap.size+1,0,none⟩=some (Value.slice bo m.length bc):=(hbl.cell (p:=⟨w.heap.size+1,0,none⟩) (by dsimp only; omega)).trans HC1.out
  have HDV:=Lib.hid hdv
  have HDX:=Lib.hid hdx
  have HDL:=Lib.hid hdl
  have HOW:=Lib.hid hown
  have HRO:=Lib.hid hrown
  obtain ⟨ro,rc,rfl,_,hrm,_,_⟩:=hrown.rd
  clear hdv hdx hdl hown hrown
  by_cases hk0:0≤k'
  · obtain ⟨i,rfl⟩:=Int.eq_ofNat_of_zero_le hk0
    obtain rfl:j=i+1:=by omega
    have hRl:Hid ((digs 1000000000 R).length≤m.length):=by
     refine Qay _ (by omega) _ _ ?_
     have:=Qby 1000000000 m HM.out.1
     omega
    have hxi:=Qbv HL.out (by omega) i
    have HAL:Hid (([dg l i]++digs 1000000000 R).length≤1000000000):=by unfold Hid; simp; have:=hRl.out; omega
    have HAX:Hid (∀ x∈[dg l i]++digs 1000000000 R,x≤8589934592):=by
     intro x hx
     rcases List.mem_append.1 hx with h | h
     · simp at h; omega
     · have:=Qau 1000000000 (by omega) R x h; omega
    have HAV:Hid (val 1000000000 ([dg l i]++digs 1000000000 R)=dg l i+1000000000 * R):=by unfold Hid; simp only [List.singleton_append,val]; rw [Qah _ (by omega)]
    go_wp2_with fail
    go_upto_region 5 with (fail)
    go_cut [] (fun wx=>∃ rv,Own wx (w.heap.size+1+1+1+1+1) 132 .u64 rv (digs 1000000000 (dg l i+1000000000 * R))∧wx.cell? ⟨w.heap.size+1+1+1,0,none⟩=some rv∧wx.frozen? ⟨w.heap.size+1+1+1,0,none⟩=false∧Below (w.heap.size+1+1+1) W wx ∧
     Own wx (w.heap.size+1+1+1+1) 132 .u64 (.slice (some ⟨w.heap.size+1+1+1+1,0,none⟩) l.length l.length) (List.replicate (i+1) 0++ds))
    case first =>
     have hl0:w.heap.size<wr.heap.size:=by omega
     have hl1:w.heap.size+1<wr.heap.size:=by omega
     have hl3:w.heap.size+1+1+1<wr.heap.size:=by omega
     have hn3:=World.new_ne wr _ hrc
     have hn0:=World.new_ne wr _ hc0
     go_region_law (first | (go_simp; go_at_call 287; refine (QdE _ l i _ (HRn.out.keep (by (repeat (first | exact Below.refl _ _ | assumption | refine Below.drew ?_ | refine QaE ?_ _ | refine Below.alloc ?_ (by (first | omega | (simp only [Qaa,Qac,Qab,Qad]; omega) | simp only [Qaa,Qac,Qab,Qad])) _ | refine Below.setCell ?_ (by (first | omega | (simp only [Qaa,Qac,Qab,Qad]; omega) | simp only [Qaa,Qac,Qab,Qad])) _)))) (by omega) (by omega) (by omega)).mono ?_; rintro e w' ⟨rfl,rfl⟩) | (refine appS rfl _ _ 273 rfl 132 .u64 i0 8 Tryz.underlying273 hi hz0 hz1 hz2 wr.heap.size _ [dg l i] rfl (QtM _ _ _ _ _ _ rfl (Nat.le_refl _)).drew _ (digs 1000000000 R) rfl (HRO.out.rd.keep (by (repeat (first | exact Below.refl _ _ | assumption | refine Below.drew ?_ | refine QaE ?_ _ | refine Below.alloc ?_ (by (first | omega | (simp only [Qaa,Qac,Qab,Qad]; omega) | simp only [Qaa,Qac,Qab,Qad])) _ | refine Below.setCell ?_ (by (first | omega | (simp only [Qaa,Qac,Qab,Qad]; omega) | simp only [Qaa,Qac,Qab,Qad])) _)))) (by simp; unfold maxLen; have:=hRl.out; omega) (by simp; have:=hRl.out; omega) (by simp) ?_; intro v' w2 hown2 hbk) | (go_simp; go_at_call 293; refine (Qbw _ ([dg l i]++digs 1000000000 R) _ hown2.rd HAL.out HAX.out).mono ?_; rintro e w3 ⟨u,rfl,hu,hbk2⟩; have hB2:Below wr.heap.size wr w2:=(by refine Below.trans ?_ (Below.mono hbk ?_) <;> first | ((repeat (first | exact Below.refl _ _ | assumption | refine Below.drew ?_ | refine QaE ?_ _ | refine Below.alloc ?_ (by (first | omega | (simp only [Qaa,Qac,Qab,Qad]; omega) | simp only [Qaa,Qac,Qab,Qad])) _ | refine Below.setCell ?_ (by (first | omega | (simp only [Qaa,Qac,Qab,Qad]; omega) | simp only [Qaa,Qac,Qab,Qad])) _)); done) | (first | omega | (simp only [Qaa,Qac,Qab,Qad]; omega) | simp only [Qaa,Qac,Qab,Qad])); have hB3:Below wr.heap.size wr w3:=hB2.trans (hbk2.mono hB2.size); have hc3:=(hB3.cell (p:=⟨w.heap.size+1+1+1,0,none⟩) hl3).trans hrc; have hf3:=(hB3.frozen (p:=⟨w.heap.size+1+1+1,0,none⟩) hl3).trans hrf; have hs2:=hB2.size; rw [HAV.out] at hu; obtain ⟨uo,uc,rfl,_,_,_,_⟩:=hu.rd))
     all_goals
      go_wp2_with fail
      go_meet
      refine ⟨_,(hu.set ?_ _).low ?_,QaH hc3,(QaJ _ _ _ _ _ _).trans hf3,(hbl.trans (hB3.mono ?_)).setCell ?_ _,(HOW.out.keep hB3).set ?_ _⟩ <;> first | omega | (dsimp only; omega)
    case rest =>
     obtain ⟨rv2,hro2,hrc2,hrf2,hbl2,hown2⟩:=hcut
     obtain ⟨hp1,hp2,hp3,hp4⟩:=QpC (Q:=val 1000000000 ds) hRM hxi
     obtain ⟨R1,hR1⟩:∃ R1,R1=dg l i+1000000000 * R:=⟨_,rfl⟩
     rw [← hR1] at hp1 hp2 hp3 hp4 hro2
     obtain ⟨q,hq⟩:∃ q,q=R1 / val 1000000000 m:=⟨_,rfl⟩
     rw [← hq] at hp2 hp4
     have HQ:=Lib.hid hq
     have HP1:=Lib.hid hp1
     have HP3:=Lib.hid hp3
     have HP4:=Lib.hid hp4
     have HR1:=Lib.hid hR1
     obtain ⟨ro2,rc2,rfl,_,hrm2,_,_⟩:=hro2.rd
     have HB2:=Lib.hid (HB0.out.trans (hbl2.mono (by omega)))
     have HU2:=Lib.hid (hu'.out.keep HB2.out)
     have hcm:wc.cell? ⟨w.heap.size+1,0,none⟩=some (Value.slice bo m.length bc):=(hbl2.cell (p:=⟨w.heap.size+1,0,none⟩) (by dsimp only; omega)).trans HC1.out
     have HVD:Hid (val 1000000000 (digs 1000000000 R1) / val 1000000000 m=q):=by unfold Hid; rw [Qah _ (by omega),HQ.out]
     have HR1l:Hid ((digs 1000000000 R1).length≤m.length+1):=by
      refine Qay _ (by omega) _ _ ?_
      have e1:=Qby 1000000000 m HM.out.1
      have e2:val 1000000000 m * 1000000000<1000000000 ^ m.length * 1000000000:=Nat.mul_lt_mul_of_pos_right e1 (by omega)
      rw [← Nat.pow_succ] at e2
      exact Nat.lt_trans HP1.out e2
     have hsz2:=hown2.lts.2
     have HRO2:=Lib.hid hro2
     have HOW2:=Lib.hid hown2
     have HLT3:Hid (w.heap.size+1+1+1<wc.heap.size):=by unfold Hid; omega
     have hii:(0:Int)≤(i:Int):=by omega
     have hij:(i:Int)<(l.length:Int):=by omega
     have hil:i<l.length:=by omega
     clear hq hp1 hp3 hp4 hR1 hro2 hown2
     go_wp2_with (go_at_call 294; refine (Qqq _ _ (digs 1000000000 R1) m _ HRO2.out.rd HU2.out (QaP _ (by omega) _) HM.out (by have:=HR1l.out; omega) (by omega) (by rw [Qah _ (by omega)]; exact HP1.out)).mono ?_; rintro e w4 ⟨he,hbk⟩; rw [HVD.out] at he; subst he; have hdc:=(HOW2.out.keep hbk).cell i (by simp; omega); have hdf:=(HOW2.out.keep hbk).free i)
     obtain ⟨w5,hw5⟩:∃ w5,w5=w4.setCell ⟨w.heap.size+1+1+1+1,i,none⟩ (.int .u64 (q:Int)):=⟨_,rfl⟩
     have hB5:Below (w.heap.size+1+1+1) W w5:=by rw [hw5]; exact (hbl2.trans (hbk.mono (by omega))).setCell (by dsimp only; omega) _
     have hcr5:w5.cell? ⟨w.heap.size+1+1+1,0,none⟩=some (Value.slice ro2 (digs 1000000000 R1).length rc2):=by rw [hw5,Qba _ _ _ _ _ _ (by omega)]; exact (hbk.cell (p:=⟨w.heap.size+1+1+1,0,none⟩) HLT3.out).trans hrc2
     have hfr5:w5.frozen? ⟨w.heap.size+1+1+1,0,none⟩=false:=by rw [hw5,QaJ]; exact (hbk.frozen (p:=⟨w.heap.size+1+1+1,0,none⟩) HLT3.out).trans hrf2
     have hcd5:w5.cell? ⟨w.heap.size+1+1+1+1,i,none⟩=some (.int .u64 (q:Int)):=by rw [hw5]; exact QaH hdc
     have hcm5:w5.cell? ⟨w.heap.size+1,0,none⟩=some (Value.slice bo m.length bc):=(hB5.cell (p:=⟨w.heap.size+1,0,none⟩) (by dsimp only; omega)).trans HC1.out
     have HOW5:Hid (Own w5 (w.heap.size+1+1+1+1) 132 .u64 (.slice (some ⟨w.heap.size+1+1+1+1,0,none⟩) l.length l.length) (List.replicate i 0++q::ds)):=by
      have:=(HOW2.out.keep hbk).stored i q
      rw [← hw5] at this
      have e:(List.replicate (i+1) 0++ds).set i q=List.replicate i 0++q::ds:=by
       rw [List.replicate_succ',List.append_assoc,List.set_append_right _ _ (by simp)]
       simp
      rw [e] at this; exact this
     have HRO5:Hid (Own w5 (w.heap.size+1+1+1+1+1) 132 .u64 (.slice ro2 (digs 1000000000 R1).length rc2) (digs 1000000000 R1)):=by unfold Hid; rw [hw5]; exact (HRO2.out.keep hbk).set (by dsimp only; omega) _
     have hsz5:=HOW5.out.lts.2
     rw [← hw5]
     clear hw5 hdc hdf hbk hrc2 hrf2 hcm
     have HU5:=Lib.hid (hu'.out.keep (HB0.out.trans (hB5.mono (by omega))))
     have HQM:Hid (val 1000000000 m * q≤R1):=by unfold Hid; rw [HQ.out]; exact Nat.mul_div_le _ _
     have HVM:Hid (val 1000000000 (digs 1000000000 R1) - val 1000000000 (digs 1000000000 (val 1000000000 m * q))=R1 % val 1000000000 m):=by
      unfold Hid; rw [Qah _ (by omega),Qah _ (by omega),HQ.out]
      have:=Nat.div_add_mod R1 (val 1000000000 m); omega
     have hl1:w.heap.size+1<w5.heap.size:=by omega
     have hl3:w.heap.size+1+1+1<w5.heap.size:=by omega
     have hl4:w.heap.size+1+1+1+1<w5.heap.size:=by omega
     go_region_law (first | (go_simp; go_at_call 295; refine (Qfd _ m q _ (HU5.out.keep (by (repeat (first | exact Below.refl _ _ | assumption | refine Below.drew ?_ | refine QaE ?_ _ | refine Below.alloc ?_ (by (first | omega | (simp only [Qaa,Qac,Qab,Qad]; omega) | simp only [Qaa,Qac,Qab,Qad])) _ | refine Below.setCell ?_ (by (first | omega | (simp only [Qaa,Qac,Qab,Qad]; omega) | simp only [Qaa,Qac,Qab,Qad])) _)))) HM.out.1 hp2 (by omega)).mono ?_; rintro e w6 ⟨u,rfl,hu,hbk⟩; have hB6:Below w5.heap.size w5 w6:=(by refine Below.trans ?_ (Below.mono hbk ?_) <;> first | ((repeat (first | exact Below.refl _ _ | assumption | refine Below.drew ?_ | refine QaE ?_ _ | refine Below.alloc ?_ (by (first | omega | (simp only [Qaa,Qac,Qab,Qad]; omega) | simp only [Qaa,Qac,Qab,Qad])) _ | refine Below.setCell ?_ (by (first | omega | (simp only [Qaa,Qac,Qab,Qad]; omega) | simp only [Qaa,Qac,Qab,Qad])) _)); done) | (first | omega | (simp only [Qac]; omega) | simp only [Qaa,Qac,Qab,Qad])); have hcr6:=(hB6.cell (p:=⟨w.heap.size+1+1+1,0,none⟩) hl3).trans hcr5) | (go_simp; go_at_call 253; refine (QmC _ _ (digs 1000000000 R1) (digs 1000000000 (val 1000000000 m * q)) _ (HRO5.out.rd.keep hB6) hu.rd (Qau _ (by omega) _) (Qau _ (by omega) _) (by have:=HR1l.out; omega) (Qar _ (by omega) HQM.out) (by rw [Qah _ (by omega),Qah _ (by omega)]; exact HQM.out)).mono ?_; rintro e w7 ⟨x,rfl,hx,hbk2⟩; have hB7:Below w5.heap.size w5 w7:=hB6.trans (hbk2.mono hB6.size); have hcr7:=(hB7.cell (p:=⟨w.heap.size+1+1+1,0,none⟩) hl3).trans hcr5; have hfr7:=(hB7.frozen (p:=⟨w.heap.size+1+1+1,0,none⟩) hl3).trans hfr5; have hs6:=hB6.size; rw [HVM.out] at hx; obtain ⟨xo,xc,rfl,_,_,_,_⟩:=hx.rd))
     all_goals
      go_wp2_with fail
      go_roundw
      case rel =>
       have HE:val 1000000000 (l.drop i)=val 1000000000 (q::ds) * val 1000000000 m+R1 % val 1000000000 m:=by
        rw [Qa4 l i hil]
        simp only [val]
        rw [HDV.out,HR1.out]
        have:=HP4.out
        rw [HR1.out] at this
        exact this
       refine ⟨_,i,R1 % val 1000000000 m,_,q::ds,rfl,by omega,by omega,HP3.out,by simp [HDL.out]; omega,?_,HE,(HOW5.out.keep hB7).set ?_ _,(hx.set ?_ _).low ?_,QaH hcr7,(QaJ _ _ _ _ _ _).trans hfr7,(hB5.trans (hB7.mono ?_)).setCell ?_ _⟩ <;> first | omega | (dsimp only; omega) | (intro x hx; rcases List.mem_cons.1 hx with h | h; (subst h; exact hp2); exact HDX.out x h)
      case measure=>simp [intOf]
  · obtain rfl:j=0:=by omega
    have HE:Hid (val 1000000000 ds=val 1000000000 l / val 1000000000 m∧R=val 1000000000 l % val 1000000000 m):=by
     have e:=HDV.out
     rw [List.drop_zero] at e
     have e1:val 1000000000 l / val 1000000000 m=val 1000000000 ds:=by
      rw [e,Nat.mul_comm,Nat.mul_add_div H3.out,Nat.div_eq_of_lt hRM,Nat.add_zero]
     have e2:val 1000000000 l % val 1000000000 m=R:=by
      rw [e,Nat.mul_comm,Nat.mul_add_mod,Nat.mod_eq_of_lt hRM]
     exact ⟨e1.symm,e2.symm⟩
    have HOW0:Hid (Own wr (w.heap.size+1+1+1+1) 132 .u64 (.slice (some ⟨w.heap.size+1+1+1+1,0,none⟩) l.length l.length) ds):=by
     have:=HOW.out
     rw [List.replicate_zero,List.nil_append] at this; exact this
    have hc2:wr.cell? ⟨w.heap.size+1+1,0,none⟩=some (Value.slice none 0 0):=(hbl.cell (p:=⟨w.heap.size+1+1,0,none⟩) (by dsimp only; omega)).trans HC2.out
    have hf2:wr.frozen? ⟨w.heap.size+1+1,0,none⟩=false:=(hbl.frozen (p:=⟨w.heap.size+1+1,0,none⟩) (by dsimp only; omega)).trans HF2.out
    have hl2:w.heap.size+1+1<wr.heap.size:=by omega
    have hl3:w.heap.size+1+1+1<wr.heap.size:=by omega
    clear HOW
    go_wp2_with fail
    go_region_held3 (fun w'=>w'.cell? ⟨w.heap.size+1+1+1,0,none⟩=some (Value.slice ro (digs 1000000000 R).length rc)) ((go_split_ands; (first | (first | assumption | (simp (disch:=(first | omega | (simp only [Qaa,Qac,Qab,Qad]; omega) | simp only [Qaa,Qac,Qab,Qad])) only [Qba,QaH] <;> first | rfl | assumption)) | ((first | refine (hbk.cell ?_).trans ?_ | refine (hbk.frozen ?_).trans ?_) <;> first | (first | omega | (simp only [Qaa,Qac,Qab,Qad]; omega) | simp only [Qaa,Qac,Qab,Qad]) | (first | assumption | (simp (disch:=(first | omega | (simp only [Qaa,Qac,Qab,Qad]; omega) | simp only [Qaa,Qac,Qab,Qad])) only [QaS,Qbp,Qbl,Qbk,Qal,Qaq,QaW,Qbj,Qba,QaJ,QaH] <;> first | rfl | assumption))))))
     (first | (go_at_call 293; refine (Qbw _ ds _ (HOW0.out.rd.keep (by (repeat (first | exact Below.refl _ _ | assumption | refine Below.drew ?_ | refine QaE ?_ _ | refine Below.alloc ?_ (by (first | omega | (simp only [Qaa,Qac,Qab,Qad]; omega) | simp only [Qaa,Qac,Qab,Qad])) _ | refine Below.setCell ?_ (by (first | omega | (simp only [Qaa,Qac,Qab,Qad]; omega) | simp only [Qaa,Qac,Qab,Qad])) _)))) (by rw [HDL.out]; omega) (fun x hx=>by have:=HDX.out x hx; omega)).mono ?_; rintro e w2 ⟨u,rfl,hu,hbk⟩; have hB2:Below wr.heap.size wr w2:=(by refine Below.trans ?_ (Below.mono hbk ?_) <;> first | ((repeat (first | exact Below.refl _ _ | assumption | refine Below.drew ?_ | refine QaE ?_ _ | refine Below.alloc ?_ (by (first | omega | (simp only [Qaa,Qac,Qab,Qad]; omega) | simp only [Qaa,Qac,Qab,Qad])) _ | refine Below.setCell ?_ (by (first | omega | (simp only [Qaa,Qac,Qab,Qad]; omega) | simp only [Qaa,Qac,Qab,Qad])) _)); done) | (first | omega | (simp only [Qac]; omega) | simp only [Qaa,Qac,Qab,Qad])); have hc2b:=(hB2.cell (p:=⟨w.heap.size+1+1,0,none⟩) hl2).trans hc2; have hf2b:=(hB2.frozen (p:=⟨w.heap.size+1+1,0,none⟩) hl2).trans hf2; have hc3b:=(hB2.cell (p:=⟨w.heap.size+1+1+1,0,none⟩) hl3).trans hrc; have hf3b:=(hB2.frozen (p:=⟨w.heap.size+1+1+1,0,none⟩) hl3).trans hrf; obtain ⟨uo,uc,rfl,_,_,_,_⟩:=hu.rd))
    all_goals
     go_wp2_with fail
     refine bodyPost_ret (v:=.tuple #[.agg #[Value.slice uo _ uc],.agg #[Value.slice ro _ rc]]) (by simp [results,Tryz.results230,go_sem,hc2b,hc3b]; exact ⟨rfl,rfl⟩) rfl ⟨_,_,rfl,?_,?_,?_⟩
     · rw [← HE.out.1]
       refine ((hu.set ?_ _).set ?_ _).low ?_ <;> first | omega | (dsimp only [Qac]; omega)
     · rw [← HE.out.2]
       refine ((((HRO.out.keep hB2).set ?_ _).set ?_ _).low ?_) <;> first | omega | (dsimp only; omega)
     · refine ((HB.out.trans (hB2.mono ?_)).setCell ?_ _).setCell ?_ _ <;> first | omega | (dsimp only; omega)
end Go.Proofs.YtmbmbcamecfnkaaGreatDoor
namespace Go.Proofs.YtmbmbcamecfnkaaGreatDoor
open Go.RowKit
attribute [local go_sem ↓] Go.wp_at_zero Go.wp_at_succ
def Qbi (ls:List (List Nat)) (k:Nat):List Nat:=ls.getD k []
theorem Qez (ls:List (List Nat)) (k:Nat) (h:k<ls.length):Qbi ls k=ls[k]:=by simp [Qbi,List.getD,h]
def Qeg (w:World) (v:Value) (k:IntKind) (ls:List (List Nat)):Prop :=
 ∃ ao cap,v=.slice ao ls.length cap∧ls.length≤cap∧cap≤maxLen ∧
  ∀ i,i<ls.length→∃ ad row,ao=some ad∧w.cell? (ad.add i)=some row∧RdI w row k (Qbi ls i)
theorem Qeg.keep {w w':World} {v:Value} {k:IntKind} {ls:List (List Nat)} (h:Qeg w v k ls) (hb:Below w.heap.size w w'):Qeg w' v k ls:=by
 obtain ⟨ao,cap,h1,h2,h3,h4⟩:=h
 refine ⟨ao,cap,h1,h2,h3,fun i hi=>?_⟩
 obtain ⟨ad,row,h5,h6,h7⟩:=h4 i hi
 exact ⟨ad,row,h5,by rw [hb.cell (World.block_lt_of_cell? w _ h6)]; exact h6,h7.keep hb⟩
theorem Qbx (l:List Nat) (h:∀ x∈l,x<4294967296):val 1000000000 l<1000000000 ^ (2 * l.length):=by
 induction l with
 | nil=>simp [val]
 | cons x l ih =>
  have h1:=ih (fun y hy=>h y (List.mem_cons_of_mem _ hy))
  have h2:=h x List.mem_cons_self
  have e:2 * (x::l).length=2 * l.length+2:=by simp; omega
  rw [e,Nat.pow_add]
  simp only [val]
  have h3:1≤1000000000 ^ (2 * l.length):=Nat.pow_pos (by omega)
  generalize 1000000000 ^ (2 * l.length)=P at *
  omega
theorem QaK (l:List Nat) (h:∀ x∈l,x<4294967296):(digs 1000000000 (val 1000000000 l)).length≤2 * l.length :=
 Qay _ (by omega) _ _ (Qbx l h)
theorem Qh2 {a b p q:Nat} (ha:a<1000000000 ^ p) (hb:b<1000000000 ^ q):a+b<1000000000 ^ (p+q+1):=by
 have h1:1000000000 ^ p≤1000000000 ^ (p+q):=Nat.pow_le_pow_right (by omega) (by omega)
 have h2:1000000000 ^ q≤1000000000 ^ (p+q):=Nat.pow_le_pow_right (by omega) (by omega)
 rw [Nat.pow_succ]; omega
theorem QhJ {a b p q:Nat} (ha:a<1000000000 ^ p) (hb:b<1000000000 ^ q):a * b<1000000000 ^ (p+q+1):=by
 have h1:=Nat.mul_lt_mul'' ha hb
 rw [← Nat.pow_add] at h1
 exact Nat.lt_of_lt_of_le h1 (Nat.pow_le_pow_right (by omega) (by omega))
def wgt:List (List Nat)→Nat
 | []=>0
 | a::l=>2 * a.length+1+wgt l
theorem Qbz (ls:List (List Nat)) (k:Nat) (h:k<ls.length):wgt (ls.take (k+1))=wgt (ls.take k)+(2 * (Qbi ls k).length+1):=by
 induction ls generalizing k with
 | nil=>simp at h
 | cons a l ih =>
  cases k with
  | zero=>simp [wgt,Qbi]
  | succ k =>
   have:=ih k (by simp at h; omega)
   have e:Qbi (a::l) (k+1)=Qbi l k:=by simp [Qbi]
   rw [e]
   simp only [List.take_succ_cons,wgt] at *
   omega
theorem Qb6 (ls:List (List Nat)) (k:Nat):wgt (ls.take k)≤wgt ls:=by
 induction ls generalizing k with
 | nil=>simp
 | cons a l ih =>
  cases k with
  | zero=>simp [wgt]
  | succ k=>simp only [List.take_succ_cons,wgt]; have:=ih k; omega
theorem QbF (f:Nat→List Nat→Nat) (n:Nat) (ls:List (List Nat)) (k:Nat) (h:k<ls.length):(ls.take (k+1)).foldl f n=f ((ls.take k).foldl f n) (Qbi ls k):=by
 rw [List.take_succ_eq_append_getElem h,List.foldl_append]
 simp [Qez ls k h]
theorem Qe6 (ls:List (List Nat)) (k:Nat) (h:k<ls.length):2 * (Qbi ls k).length+1≤wgt ls:=by
 have h1:=Qbz ls k h
 have h2:=Qb6 ls (k+1)
 omega
set_option maxRecDepth 100000 in
set_option maxHeartbeats 2000000 in
theorem Qlj (v u:Value) (n:Nat) (ls:List (List Nat)) (w:World) (hv:RdI w v .u64 (digs 1000000000 n)) (hu:Qeg w u .u32 ls) (h1:(digs 1000000000 n).length≤100000) (h2:wgt ls≤100000000) (h3:∀ l∈ls,∀ x∈l,x<4294967296) (h4:ls.length≤100000000) :
  Calls Tryz.prog 250 #[.agg #[v],.func (.func 251) #[] #[],u] w fun e w'=>∃ u,e=.returned u∧Own w' w.heap.size 190 .u32 u (digs 1000000000 (ls.foldl (fun n a=>n+val 1000000000 a) n))∧Below w.heap.size w w':=by
 have hv':=Lib.hid hv
 have hu':=Lib.hid hu
 have H3:=Lib.hid h3
 obtain ⟨ao,ac,rfl,_,_,_,_⟩:=hv
 obtain ⟨bo,bc,rfl,_,hbm,hx⟩:=hu
 have HX:=Lib.hid hx
 clear h3 hx
 go_enter Tryz.func250,Tryz.ntmps250
 have hb1:Hid (Below w.heap.size w (w.alloc (Obj.cells #[Value.slice ao (digs 1000000000 n).length ac] 275))):=(Below.refl _ _).alloc (Nat.le_refl _) _
 have HS0:Hid (n<1000000000 ^ (digs 1000000000 n).length):=by
  have:=Qby 1000000000 (digs 1000000000 n) (Qau _ (by omega) _)
  rw [Qah _ (by omega)] at this; exact this
 go_wp2_with fail
 go_loopw [11] (fun i wr=>∃ (kk T:Nat) (tv:Value),i=.int .i64 kk∧kk≤ls.length∧T=(ls.take kk).foldl (fun n a=>n+val 1000000000 a) n∧T<1000000000 ^ ((digs 1000000000 n).length+wgt (ls.take kk))∧RdI wr tv .u64 (digs 1000000000 T) ∧
   wr.cell? ⟨w.heap.size,0,none⟩=some tv∧wr.frozen? ⟨w.heap.size,0,none⟩=false∧Below w.heap.size w wr) (fun i _=>ls.length - (intOf i).toNat)
 case atStart=>exact ⟨0,n,_,rfl,by omega,by simp,by simpa [wgt] using HS0.out,hv'.out.keep hb1.out,by simp,by simp,hb1.out⟩
 case round =>
  obtain ⟨k,T,tv,rfl,hk,hT,hTl,hTr,hcb,hfb,hbl⟩:=hrel
  have HT:=Lib.hid hT
  have HTL:Hid ((digs 1000000000 T).length≤100100000):=by
   have h5:=Qay 1000000000 (by omega) T _ hTl
   have h6:=Qb6 ls k
   unfold Hid; omega
  have HTB:=Lib.hid hTl
  have HTR:=Lib.hid hTr
  have hl0:w.heap.size<wr.heap.size:=World.block_lt_of_cell? wr _ hcb
  obtain ⟨tto,ttc,rfl,_,_,_,_⟩:=hTr
  clear hT hTl
  by_cases hkl:k<ls.length
  · obtain ⟨ad,row,had,hcell,hrow⟩:=HX.out k hkl
    subst had
    have HROW:=Lib.hid (hrow.keep hbl)
    obtain ⟨rro,rrc,rfl,_,_,_,_⟩:=hrow
    have hcr:=(hbl.cell (World.block_lt_of_cell? w _ hcell)).trans hcell
    have HLX:Hid (∀ x∈Qbi ls k,x<4294967296):=by
     refine H3.out _ ?_
     rw [Qez ls k hkl]; exact List.getElem_mem hkl
    have HDL:Hid ((digs 1000000000 (val 1000000000 (Qbi ls k))).length≤100000000):=by
     have h5:=QaK _ HLX.out
     have h6:=Qe6 ls k hkl
     unfold Hid; omega
    have HRL:Hid ((Qbi ls k).length≤100000000):=by
     have h6:=Qe6 ls k hkl
     unfold Hid; omega
    clear hcell
    go_wp2_with fail
    go_region_law (first | (go_simp; go_at_call 229; refine (Qdc _ (Qbi ls k) _ (HROW.out.keep (by (repeat (first | exact Below.refl _ _ | assumption | refine Below.drew ?_ | refine QaE ?_ _ | refine Below.alloc ?_ (by (first | omega | (simp only [Qaa,Qac,Qab,Qad]; omega) | simp only [Qaa,Qac,Qab,Qad])) _ | refine Below.setCell ?_ (by (first | omega | (simp only [Qaa,Qac,Qab,Qad]; omega) | simp only [Qaa,Qac,Qab,Qad])) _)))) (by have:=HRL.out; omega) HLX.out).mono ?_; rintro e w2 ⟨x,rfl,hx2,hbk⟩; have hB2:Below wr.heap.size wr w2:=(by refine Below.trans ?_ (Below.mono hbk ?_) <;> first | ((repeat (first | exact Below.refl _ _ | assumption | refine Below.drew ?_ | refine QaE ?_ _ | refine Below.alloc ?_ (by (first | omega | (simp only [Qaa,Qac,Qab,Qad]; omega) | simp only [Qaa,Qac,Qab,Qad])) _ | refine Below.setCell ?_ (by (first | omega | (simp only [Qaa,Qac,Qab,Qad]; omega) | simp only [Qaa,Qac,Qab,Qad])) _)); done) | (first | omega | (simp only [Qac]; omega) | simp only [Qaa,Qac,Qab,Qad])); have RTN:=HTR.out.keep hB2; have hcb2:=(hB2.cell (p:=⟨w.heap.size,0,none⟩) hl0).trans hcb) | (go_simp; go_at_call 251; refine (Qrk _ _ (digs 1000000000 T) (digs 1000000000 (val 1000000000 (Qbi ls k))) _ RTN hx2.rd (Qau _ (by omega) _) (Qau _ (by omega) _) (by have:=HTL.out; omega) (by have:=HDL.out; omega)).mono ?_; rintro e w3 ⟨y,rfl,hy,hbk2⟩; have hB3:Below wr.heap.size wr w3:=hB2.trans (hbk2.mono hB2.size); have hs2:=hB2.size; have hcb3:=(hB3.cell (p:=⟨w.heap.size,0,none⟩) hl0).trans hcb; have hfb3:=(hB3.frozen (p:=⟨w.heap.size,0,none⟩) hl0).trans hfb; rw [Qah _ (by omega),Qah _ (by omega)] at hy; obtain ⟨yo,yc,rfl,_,_,_,_⟩:=hy.rd))
    all_goals
     go_wp2_with fail
     go_roundw
     case rel =>
      refine ⟨k+1,_,_,by go_num,by omega,?_,?_,(hy.set ?_ _).rd,QaH hcb3,(QaJ _ _ _ _ _ _).trans hfb3,(hbl.trans (hB3.mono ?_)).setCell ?_ _⟩
      · rw [QbF _ _ _ _ hkl,← HT.out]
      · have e:(digs 1000000000 n).length+wgt (ls.take (k+1))=(digs 1000000000 n).length+wgt (ls.take k)+2 * (Qbi ls k).length+1:=by rw [Qbz _ _ hkl]; omega
        rw [e]
        exact Qh2 HTB.out (Qbx _ HLX.out)
      all_goals first | omega | (dsimp only; omega)
     case measure=>simp [intOf]; omega
  · have he:k=ls.length:=by omega
    have HE:=Lib.hid he
    go_wp2_with (go_at_call 231; refine (Qfg _ (digs 1000000000 T) _ HTR.out (by have:=HTL.out; omega) (fun x hx=>by have:=Qau 1000000000 (by omega) T x hx; omega)).mono ?_; rintro e w2 ⟨u,rfl,hu,hbk⟩)
    go_ret
    refine ⟨_,rfl,?_,hbl.trans (hbk.mono (by omega))⟩
    have e:ls.foldl (fun n a=>n+val 1000000000 a) n=T:=by have:=HT.out; rw [HE.out,List.take_length] at this; exact this.symm
    rw [e]; exact hu.low (by omega)
set_option maxRecDepth 100000 in
set_option maxHeartbeats 2000000 in
theorem QjW (v u:Value) (n:Nat) (ls:List (List Nat)) (w:World) (hv:RdI w v .u64 (digs 1000000000 n)) (hu:Qeg w u .u32 ls) (h1:(digs 1000000000 n).length≤100000) (h2:wgt ls≤100000000) (h3:∀ l∈ls,∀ x∈l,x<4294967296) (h4:ls.length≤100000000) :
  Calls Tryz.prog 250 #[.agg #[v],.func (.func 258) #[] #[],u] w fun e w'=>∃ u,e=.returned u∧Own w' w.heap.size 190 .u32 u (digs 1000000000 (ls.foldl (fun n a=>n * val 1000000000 a) n))∧Below w.heap.size w w':=by
 have hv':=Lib.hid hv
 have hu':=Lib.hid hu
 have H3:=Lib.hid h3
 obtain ⟨ao,ac,rfl,_,_,_,_⟩:=hv
 obtain ⟨bo,bc,rfl,_,hbm,hx⟩:=hu
 have HX:=Lib.hid hx
 clear h3 hx
 go_enter Tryz.func250,Tryz.ntmps250
 have hb1:Hid (Below w.heap.size w (w.alloc (Obj.cells #[Value.slice ao (digs 1000000000 n).length ac] 275))):=(Below.refl _ _).alloc (Nat.le_refl _) _
 have HS0:Hid (n<1000000000 ^ (digs 1000000000 n).length):=by
  have:=Qby 1000000000 (digs 1000000000 n) (Qau _ (by omega) _)
  rw [Qah _ (by omega)] at this; exact this
 go_wp2_with fail
 go_loopw [11] (fun i wr=>∃ (kk T:Nat) (tv:Value),i=.int .i64 kk∧kk≤ls.length∧T=(ls.take kk).foldl (fun n a=>n * val 1000000000 a) n∧T<1000000000 ^ ((digs 1000000000 n).length+wgt (ls.take kk))∧RdI wr tv .u64 (digs 1000000000 T) ∧
   wr.cell? ⟨w.heap.size,0,none⟩=some tv∧wr.frozen? ⟨w.heap.size,0,none⟩=false∧Below w.heap.size w wr) (fun i _=>ls.length - (intOf i).toNat)
 case atStart=>exact ⟨0,n,_,rfl,by omega,by simp,by simpa [wgt] using HS0.out,hv'.out.keep hb1.out,by simp,by simp,hb1.out⟩
 case round =>
  obtain ⟨k,T,tv,rfl,hk,hT,hTl,hTr,hcb,hfb,hbl⟩:=hrel
  have HT:=Lib.hid hT
  have HTL:Hid ((digs 1000000000 T).length≤100100000):=by
   have h5:=Qay 1000000000 (by omega) T _ hTl
   have h6:=Qb6 ls k
   unfold Hid; omega
  have HTB:=Lib.hid hTl
  have HTR:=Lib.hid hTr
  have hl0:w.heap.size<wr.heap.size:=World.block_lt_of_cell? wr _ hcb
  obtain ⟨tto,ttc,rfl,_,_,_,_⟩:=hTr
  clear hT hTl
  by_cases hkl:k<ls.length
  · obtain ⟨ad,row,had,hcell,hrow⟩:=HX.out k hkl
    subst had
    have HROW:=Lib.hid (hrow.keep hbl)
    obtain ⟨rro,rrc,rfl,_,_,_,_⟩:=hrow
    have hcr:=(hbl.cell (World.block_lt_of_cell? w _ hcell)).trans hcell
    have HLX:Hid (∀ x∈Qbi ls k,x<4294967296):=by
     refine H3.out _ ?_
     rw [Qez ls k hkl]; exact List.getElem_mem hkl
    have HDL:Hid ((digs 1000000000 (val 1000000000 (Qbi ls k))).length≤100000000):=by
     have h5:=QaK _ HLX.out
     have h6:=Qe6 ls k hkl
     unfold Hid; omega
    have HRL:Hid ((Qbi ls k).length≤100000000):=by
     have h6:=Qe6 ls k hkl
     unfold Hid; omega
    clear hcell
    go_wp2_with fail
    go_region_law (first | (go_simp; go_at_call 229; refine (Qdc _ (Qbi ls k) _ (HROW.out.keep (by (repeat (first | exact Below.refl _ _ | assumption | refine Below.drew ?_ | refine QaE ?_ _ | refine Below.alloc ?_ (by (first | omega | (simp only [Qaa,Qac,Qab,Qad]; omega) | simp only [Qaa,Qac,Qab,Qad])) _ | refine Below.setCell ?_ (by (first | omega | (simp only [Qaa,Qac,Qab,Qad]; omega) | simp only [Qaa,Qac,Qab,Qad])) _)))) (by have:=HRL.out; omega) HLX.out).mono ?_; rintro e w2 ⟨x,rfl,hx2,hbk⟩; have hB2:Below wr.heap.size wr w2:=(by refine Below.trans ?_ (Below.mono hbk ?_) <;> first | ((repeat (first | exact Below.refl _ _ | assumption | refine Below.drew ?_ | refine QaE ?_ _ | refine Below.alloc ?_ (by (first | omega | (simp only [Qaa,Qac,Qab,Qad]; omega) | simp only [Qaa,Qac,Qab,Qad])) _ | refine Below.setCell ?_ (by (first | omega | (simp only [Qaa,Qac,Qab,Qad]; omega) | simp only [Qaa,Qac,Qab,Qad])) _)); done) | (first | omega | (simp only [Qac]; omega) | simp only [Qaa,Qac,Qab,Qad])); have RTN:=HTR.out.keep hB2; have hcb2:=(hB2.cell (p:=⟨w.heap.size,0,none⟩) hl0).trans hcb) | (go_simp; go_at_call 258; refine (Qji _ _ (digs 1000000000 T) (digs 1000000000 (val 1000000000 (Qbi ls k))) _ RTN hx2.rd (Qau _ (by omega) _) (Qau _ (by omega) _) (by have:=HTL.out; omega) (by have:=HDL.out; omega)).mono ?_; rintro e w3 ⟨y,rfl,hy,hbk2⟩; have hB3:Below wr.heap.size wr w3:=hB2.trans (hbk2.mono hB2.size); have hs2:=hB2.size; have hcb3:=(hB3.cell (p:=⟨w.heap.size,0,none⟩) hl0).trans hcb; have hfb3:=(hB3.frozen (p:=⟨w.heap.size,0,none⟩) hl0).trans hfb; rw [Qah _ (by omega),Qah _ (by omega)] at hy; obtain ⟨yo,yc,rfl,_,_,_,_⟩:=hy.rd))
    all_goals
     go_wp2_with fail
     go_roundw
     case rel =>
      refine ⟨k+1,_,_,by go_num,by omega,?_,?_,(hy.set ?_ _).rd,QaH hcb3,(QaJ _ _ _ _ _ _).trans hfb3,(hbl.trans (hB3.mono ?_)).setCell ?_ _⟩
      · rw [QbF _ _ _ _ hkl,← HT.out]
      · have e:(digs 1000000000 n).length+wgt (ls.take (k+1))=(digs 1000000000 n).length+wgt (ls.take k)+2 * (Qbi ls k).length+1:=by rw [Qbz _ _ hkl]; omega
        rw [e]
        exact QhJ HTB.out (Qbx _ HLX.out)
      all_goals first | omega | (dsimp only; omega)
     case measure=>simp [intOf]; omega
  · have he:k=ls.length:=by omega
    have HE:=Lib.hid he
    go_wp2_with (go_at_call 231; refine (Qfg _ (digs 1000000000 T) _ HTR.out (by have:=HTL.out; omega) (fun x hx=>by have:=Qau 1000000000 (by omega) T x hx; omega)).mono ?_; rintro e w2 ⟨u,rfl,hu,hbk⟩)
    go_ret
    refine ⟨_,rfl,?_,hbl.trans (hbk.mono (by omega))⟩
    have e:ls.foldl (fun n a=>n * val 1000000000 a) n=T:=by have:=HT.out; rw [HE.out,List.take_length] at this; exact this.symm
    rw [e]; exact hu.low (by omega)
end Go.Proofs.YtmbmbcamecfnkaaGreatDoor
namespace Go.Proofs.YtmbmbcamecfnkaaGreatDoor
open Go.RowKit
attribute [local go_sem ↓] Go.wp_at_zero Go.wp_at_succ
def sumV (ls:List (List Nat)):Nat:=ls.foldl (fun n a=>n+val 1000000000 a) 0
def Qpy (ls:List (List Nat)):Nat:=ls.foldl (fun n a=>n * val 1000000000 a) 1
set_option maxHeartbeats 400000 in
theorem QnV (u:Value) (ls:List (List Nat)) (w:World) (hu:Qeg w u .u32 ls) (h2:wgt ls≤100000000) (h3:∀ l∈ls,∀ x∈l,x<4294967296) (h4:ls.length≤100000000) :
  Calls Tryz.prog 174 #[u] w fun e w'=>∃ u,e=.returned u∧Own w' w.heap.size 190 .u32 u (digs 1000000000 (sumV ls))∧Below w.heap.size w w':=by
 have HU:=Lib.hid hu
 have H3:=Lib.hid h3
 clear hu h3
 have HZ:Hid (RdI w (.slice none 0 0) .u64 (digs 1000000000 0)):=⟨none,0,rfl,by rw [Qav]; exact Nat.le_refl _,by unfold maxLen; omega,fun _=>rfl,fun i hi=>by rw [Qav] at hi; simp at hi⟩
 go_enter Tryz.func174,Tryz.ntmps174
 go_wp2_with (go_at_call 250; refine (Qlj (.slice none 0 0) _ 0 ls _ HZ.out HU.out (by rw [Qav]; exact Nat.zero_le _) h2 H3.out h4).mono ?_; rintro e w2 ⟨v,rfl,hv,hbk⟩)
 go_ret
 exact ⟨_,rfl,hv,hbk⟩
set_option maxHeartbeats 400000 in
theorem QnT (u:Value) (ls:List (List Nat)) (w:World) (hu:Qeg w u .u32 ls) (h2:wgt ls≤100000000) (h3:∀ l∈ls,∀ x∈l,x<4294967296) (h4:ls.length≤100000000) :
  Calls Tryz.prog 182 #[u] w fun e w'=>∃ u,e=.returned u∧Own w' w.heap.size 190 .u32 u (digs 1000000000 (Qpy ls))∧Below w.heap.size w w':=by
 have HU:=Lib.hid hu
 have H3:=Lib.hid h3
 clear hu h3
 have H1:Hid (RdI (w.alloc (Obj.cells #[Value.int .u64 1] 132)) (.slice (some ⟨w.heap.size,0,none⟩) 1 1) .u64 (digs 1000000000 1)):=Qpu w .u64 1 132 _ rfl
 have HB:Hid (Below w.heap.size w (w.alloc (Obj.cells #[Value.int .u64 1] 132))):=(Below.refl _ _).alloc (Nat.le_refl _) _
 go_enter Tryz.func182,Tryz.ntmps182
 go_wp2_with (go_at_call 250; refine (QjW (.slice (some ⟨w.heap.size,0,none⟩) 1 1) _ 1 ls _ H1.out (HU.out.keep HB.out) (by decide) h2 H3.out h4).mono ?_; rintro e w2 ⟨v,rfl,hv,hbk⟩)
 go_ret
 exact ⟨_,rfl,hv.low (by simp),HB.out.trans (hbk.mono (by simp))⟩
set_option maxHeartbeats 400000 in
theorem QkX (v:Value) (l:List Nat) (w:World) (hv:RdI w v .u32 l) (h1:l.length≤400000000) (h2:∀ x∈l,x<4294967296) :
  Calls Tryz.prog 232 #[v] w fun e w'=>∃ u,e=.returned u∧Own w' w.heap.size 190 .u32 u (digs 1000000000 (val 1000000000 l))∧Below w.heap.size w w':=by
 have HV:=Lib.hid hv
 have H2:=Lib.hid h2
 clear hv h2
 have HL:Hid ((digs 1000000000 (val 1000000000 l)).length≤1000000000):=by have:=QaK l H2.out; unfold Hid; omega
 go_enter Tryz.func232,Tryz.ntmps232
 go_wp2_with (first | (go_at_call 229; refine (Qdc _ l _ HV.out (by omega) H2.out).mono ?_; rintro e w2 ⟨x,rfl,hx,hbk⟩) | (go_at_call 231; refine (Qfg _ _ _ hx.rd HL.out (fun x hx=>by have:=Qau 1000000000 (by omega) _ x hx; omega)).mono ?_; rintro e w3 ⟨y,rfl,hy,hbk2⟩))
 go_ret
 exact ⟨_,rfl,hy.low hbk.size,hbk.trans (hbk2.mono hbk.size)⟩
set_option maxHeartbeats 400000 in
theorem QnU (v u:Value) (l m:List Nat) (w:World) (hv:RdI w v .u32 l) (hu:RdI w u .u32 m) (h1:l.length≤400000000) (h2:∀ x∈l,x<4294967296) (h3:m.length≤400000000) (h4:∀ x∈m,x<4294967296) :
  Calls Tryz.prog 183 #[v,u] w fun e w'=>e=.returned (.int .i64 (cmpI (val 1000000000 l:Nat) (val 1000000000 m:Nat)))∧Below w.heap.size w w':=by
 have HV:=Lib.hid hv
 have HU:=Lib.hid hu
 have H2:=Lib.hid h2
 have H4:=Lib.hid h4
 clear hv hu h2 h4
 have HL:Hid ((digs 1000000000 (val 1000000000 l)).length≤1000000000):=by have:=QaK l H2.out; unfold Hid; omega
 have HM:Hid ((digs 1000000000 (val 1000000000 m)).length≤1000000000):=by have:=QaK m H4.out; unfold Hid; omega
 go_enter Tryz.func183,Tryz.ntmps183
 go_wp2_with fail
 refine (Qdc _ l _ HV.out (by omega) H2.out).mono ?_
 rintro e w2 ⟨x,rfl,hx,hbk⟩
 go_wp2_with fail
 refine (Qdc _ m _ (HU.out.keep hbk) (by omega) H4.out).mono ?_
 rintro e w3 ⟨y,rfl,hy,hbk2⟩
 go_wp2_with fail
 refine (Qcc _ _ _ _ _ (hx.keep hbk2).rd hy.rd (QaP _ (by omega) _) (QaP _ (by omega) _) HL.out HM.out).mono ?_
 rintro e w4 ⟨rfl,hbk3⟩
 go_wp2_with fail
 go_ret
 exact ⟨by rw [Qah _ (by omega),Qah _ (by omega)]; rfl,(hbk.trans (hbk2.mono hbk.size)).trans (hbk3.mono (Nat.le_trans hbk.size hbk2.size))⟩
def QuH (l m:List Nat) (w:World) (e:Ending) (w':World):Prop :=
 ∃ u,e=.returned (.tuple #[u,.bool (decide (val 1000000000 m≤val 1000000000 l))])∧Own w' w.heap.size 190 .u32 u (digs 1000000000 (val 1000000000 l - val 1000000000 m))∧Below w.heap.size w w'
set_option maxHeartbeats 1000000 in
theorem QnS (v u:Value) (l m:List Nat) (w:World) (hv:RdI w v .u32 l) (hu:RdI w u .u32 m) (h1:l.length≤400000000) (h2:∀ x∈l,x<4294967296) (h3:m.length≤400000000) (h4:∀ x∈m,x<4294967296) :
  Calls Tryz.prog 175 #[v,u] w (QuH l m w):=by
 have HV:=Lib.hid hv
 have HU:=Lib.hid hu
 have H2:=Lib.hid h2
 have H4:=Lib.hid h4
 clear hv hu h2 h4
 have HL:Hid ((digs 1000000000 (val 1000000000 l)).length≤1000000000):=by have:=QaK l H2.out; unfold Hid; omega
 have HM:Hid ((digs 1000000000 (val 1000000000 m)).length≤1000000000):=by have:=QaK m H4.out; unfold Hid; omega
 have HC:Hid (cmpI (val 1000000000 (digs 1000000000 (val 1000000000 l)):Nat) (val 1000000000 (digs 1000000000 (val 1000000000 m)):Nat)=cmpI (val 1000000000 l:Nat) (val 1000000000 m:Nat)):=by
  unfold Hid; rw [Qah _ (by omega),Qah _ (by omega)]
 obtain ⟨z,hz⟩:∃ z,z=cmpI (val 1000000000 l:Nat) (val 1000000000 m:Nat):=⟨_,rfl⟩
 have HZ:=Lib.hid hz
 have HL2:Hid ((digs 1000000000 (val 1000000000 l - val 1000000000 m)).length≤1000000000):=by
  have h5:=Qar 1000000000 (by omega) (Nat.sub_le (val 1000000000 l) (val 1000000000 m))
  have:=HL.out; unfold Hid; omega
 by_cases hlt:val 1000000000 l<val 1000000000 m
 · have hz1:z<0:=by rw [hz,Qcd (by omega)]; omega
   have HLT:=Lib.hid hlt
   clear hz hlt
   go_enter Tryz.func175,Tryz.ntmps175
   go_wp2_with fail
   refine (Qdc _ l _ HV.out (by omega) H2.out).mono ?_
   rintro e w2 ⟨x,rfl,hx,hbk⟩
   go_wp2_with fail
   refine (Qdc _ m _ (HU.out.keep hbk) (by omega) H4.out).mono ?_
   rintro e w3 ⟨y,rfl,hy,hbk2⟩
   have hB3:Below w.heap.size w w3:=hbk.trans (hbk2.mono hbk.size)
   have HX:=Lib.hid (hx.keep hbk2).rd
   have HY:=Lib.hid hy.rd
   obtain ⟨xo,xc,rfl,_,_,_,_⟩:=hx.rd
   obtain ⟨yo,yc,rfl,_,_,_,_⟩:=hy.rd
   go_wp2_with fail
   refine (Qcc _ _ (digs 1000000000 (val 1000000000 l)) (digs 1000000000 (val 1000000000 m)) _ (HX.out.keep (by (repeat (first | exact Below.refl _ _ | assumption | refine Below.drew ?_ | refine QaE ?_ _ | refine Below.alloc ?_ (by (first | omega | (simp only [Qaa]; omega) | simp only [Qaa,Qac,Qab,Qad])) _ | refine Below.setCell ?_ (by (first | omega | (simp only [Qaa,Qac,Qab,Qad]; omega) | simp only [Qaa,Qac,Qab,Qad])) _)))) (HY.out.keep (by (repeat (first | exact Below.refl _ _ | assumption | refine Below.drew ?_ | refine QaE ?_ _ | refine Below.alloc ?_ (by (first | omega | (simp only [Qaa]; omega) | simp only [Qaa,Qac,Qab,Qad])) _ | refine Below.setCell ?_ (by (first | omega | (simp only [Qaa,Qac,Qab,Qad]; omega) | simp only [Qaa,Qac,Qab,Qad])) _)))) (QaP _ (by omega) _) (QaP _ (by omega) _) HL.out HM.out).mono ?_
   rintro e w4 ⟨he,hbk3⟩
   rw [HC.out,← HZ.out] at he
   subst he
   have hs3:=hB3.size
   have hB4:Below w.heap.size w w4:=hB3.trans (by refine Below.trans ?_ (Below.mono hbk3 ?_) <;> first | ((repeat (first | exact Below.refl _ _ | assumption | refine Below.drew ?_ | refine QaE ?_ _ | refine Below.alloc ?_ (by (first | omega | (simp only [Qaa]; omega) | simp only [Qaa,Qac,Qab,Qad])) _ | refine Below.setCell ?_ (by (first | omega | (simp only [Qaa,Qac,Qab,Qad]; omega) | simp only [Qaa,Qac,Qab,Qad])) _)); done) | (first | omega | (simp only [Qaa]; omega) | simp only [Qaa,Qac,Qab,Qad]))
   go_wp2_with fail
   go_ret2
   refine ⟨.slice none 0 0,?_,?_,hB4⟩
   · have:=HLT.out
     rw [show decide (val 1000000000 m≤val 1000000000 l)=false from by simp; omega]
     rfl
   · have:=HLT.out
     rw [show val 1000000000 l - val 1000000000 m=0 from by omega,Qav]
     exact World.ownsRow_nil _ _ _ _
 · have hz1:¬ z<0:=by
    rw [hz]; unfold cmpI
    rw [if_neg (by omega)]
    split <;> omega
   have HLT:=Lib.hid hlt
   clear hz hlt
   go_enter Tryz.func175,Tryz.ntmps175
   go_wp2_with fail
   refine (Qdc _ l _ HV.out (by omega) H2.out).mono ?_
   rintro e w2 ⟨x,rfl,hx,hbk⟩
   go_wp2_with fail
   refine (Qdc _ m _ (HU.out.keep hbk) (by omega) H4.out).mono ?_
   rintro e w3 ⟨y,rfl,hy,hbk2⟩
   have hB3:Below w.heap.size w w3:=hbk.trans (hbk2.mono hbk.size)
   have HX:=Lib.hid (hx.keep hbk2).rd
   have HY:=Lib.hid hy.rd
   obtain ⟨xo,xc,rfl,_,_,_,_⟩:=hx.rd
   obtain ⟨yo,yc,rfl,_,_,_,_⟩:=hy.rd
   have hs3:=hB3.size
   go_wp2_with fail
   refine (Qcc _ _ (digs 1000000000 (val 1000000000 l)) (digs 1000000000 (val 1000000000 m)) _ (HX.out.keep (by (repeat (first | exact Below.refl _ _ | assumption | refine Below.drew ?_ | refine QaE ?_ _ | refine Below.alloc ?_ (by (first | omega | (simp only [Qaa]; omega) | simp only [Qaa,Qac,Qab,Qad])) _ | refine Below.setCell ?_ (by (first | omega | (simp only [Qaa,Qac,Qab,Qad]; omega) | simp only [Qaa,Qac,Qab,Qad])) _)))) (HY.out.keep (by (repeat (first | exact Below.refl _ _ | assumption | refine Below.drew ?_ | refine QaE ?_ _ | refine Below.alloc ?_ (by (first | omega | (simp only [Qaa]; omega) | simp only [Qaa,Qac,Qab,Qad])) _ | refine Below.setCell ?_ (by (first | omega | (simp only [Qaa,Qac,Qab,Qad]; omega) | simp only [Qaa,Qac,Qab,Qad])) _)))) (QaP _ (by omega) _) (QaP _ (by omega) _) HL.out HM.out).mono ?_
   rintro e w4 ⟨he,hbk3⟩
   rw [HC.out,← HZ.out] at he
   subst he
   have hB4:Below w3.heap.size w3 w4:=(by refine Below.trans ?_ (Below.mono hbk3 ?_) <;> first | ((repeat (first | exact Below.refl _ _ | assumption | refine Below.drew ?_ | refine QaE ?_ _ | refine Below.alloc ?_ (by (first | omega | (simp only [Qaa]; omega) | simp only [Qaa,Qac,Qab,Qad])) _ | refine Below.setCell ?_ (by (first | omega | (simp only [Qaa,Qac,Qab,Qad]; omega) | simp only [Qaa,Qac,Qab,Qad])) _)); done) | (first | omega | (simp only [Qaa]; omega) | simp only [Qaa,Qac,Qab,Qad]))
   have hxc:w4.cell? ⟨w3.heap.size,0,none⟩=some (Value.slice xo (digs 1000000000 (val 1000000000 l)).length xc):=(hbk3.cell (p:=⟨w3.heap.size,0,none⟩) (by simp only [Qaa]; omega)).trans (by simp (disch:=first | omega | (simp only [Qaa,Qac,Qab,Qad]; omega) | simp only [Qaa,Qac,Qab,Qad]) only [Qal,Qaq]; rfl)
   have hyc:w4.cell? ⟨w3.heap.size+1,0,none⟩=some (Value.slice yo (digs 1000000000 (val 1000000000 m)).length yc):=(hbk3.cell (p:=⟨w3.heap.size+1,0,none⟩) (by simp only [Qaa]; omega)).trans (by simp (disch:=first | omega | (simp only [Qaa,Qac,Qab,Qad]; omega) | simp only [Qaa,Qac,Qab,Qad]) only [Qal]; rfl)
   have hs4:=hB4.size
   go_wp2_with fail
   refine (QmC _ _ (digs 1000000000 (val 1000000000 l)) (digs 1000000000 (val 1000000000 m)) _ (HX.out.keep hB4) (HY.out.keep hB4) (Qau _ (by omega) _) (Qau _ (by omega) _) HL.out (Qar _ (by omega) (by have:=HLT.out; omega)) (by rw [Qah _ (by omega),Qah _ (by omega)]; have:=HLT.out; omega)).mono ?_
   rintro e w5 ⟨q,rfl,hq,hbk4⟩
   rw [Qah _ (by omega),Qah _ (by omega)] at hq
   go_wp2_with fail
   refine (Qfg _ _ _ hq.rd HL2.out (fun x hx=>by have:=Qau 1000000000 (by omega) _ x hx; omega)).mono ?_
   rintro e w6 ⟨p,rfl,hp,hbk5⟩
   have hs5:=hbk4.size
   go_wp2_with fail
   go_ret2
   refine ⟨p,?_,hp.low (by omega),((hB3.trans (hB4.mono (by omega))).trans (hbk4.mono (by omega))).trans (hbk5.mono (by omega))⟩
   have:=HLT.out
   rw [show decide (val 1000000000 m≤val 1000000000 l)=true from by simp; omega]
   rfl
end Go.Proofs.YtmbmbcamecfnkaaGreatDoor
namespace Go.Proofs.YtmbmbcamecfnkaaGreatDoor
open Go.RowKit
attribute [local go_sem ↓] Go.wp_at_zero Go.wp_at_succ
def QuL (l m:List Nat) (w:World) (e:Ending) (w':World):Prop :=
 ∃ q r,e=.returned (.tuple #[q,r,.bool true])∧Own w' w.heap.size 190 .u32 q (digs 1000000000 (val 1000000000 l / val 1000000000 m))∧Own w' w.heap.size 190 .u32 r (digs 1000000000 (val 1000000000 l % val 1000000000 m))∧Below w.heap.size w w'
set_option maxRecDepth 100000 in
set_option maxHeartbeats 4000000 in
theorem QiC (v u:Value) (l m:List Nat) (w:World) (hv:RdI w v .u32 l) (hu:RdI w u .u32 m) (h1:l.length≤100000000) (h2:∀ x∈l,x<4294967296) (h3:m.length≤100000000) (h4:∀ x∈m,x<4294967296) (h5:0<val 1000000000 m) :
  Calls Tryz.prog 153 #[v,u] w (QuL l m w):=by
 have HV:=Lib.hid hv
 have HU:=Lib.hid hu
 have H2:=Lib.hid h2
 have H4:=Lib.hid h4
 have H5:=Lib.hid h5
 clear hv hu h2 h4 h5
 have HL:Hid ((digs 1000000000 (val 1000000000 l)).length≤300000000):=by have:=QaK l H2.out; unfold Hid; omega
 have HM:Hid ((digs 1000000000 (val 1000000000 m)).length≤300000000):=by have:=QaK m H4.out; unfold Hid; omega
 have hne:(((digs 1000000000 (val 1000000000 m)).length:Int)==0)=false:=by
  have:digs 1000000000 (val 1000000000 m)≠[]:=by
   intro h
   have h6:=Qah 1000000000 (by omega) (val 1000000000 m)
   rw [h] at h6
   have:=H5.out
   simp [val] at h6; omega
  have:=List.length_pos_iff.2 this
  simp; exact fun h=>by simp [h] at this
 go_enter Tryz.func153,Tryz.ntmps153
 go_wp2_with fail
 refine (Qdc _ m _ HU.out (by omega) H4.out).mono ?_
 rintro e w1 ⟨y,rfl,hy,hb1⟩
 obtain ⟨yo,yc,rfl,_,_,_,_⟩:=hy.rd
 have HY:=Lib.hid hy
 have HB1:=Lib.hid hb1
 clear hy hb1
 go_wp2_with fail
 obtain ⟨W,hW⟩:∃ W,W=w1.alloc (Obj.cells #[Value.slice yo (digs 1000000000 (val 1000000000 m)).length yc] 275):=⟨_,rfl⟩
 have hBW:Below w.heap.size w W:=by rw [hW]; exact HB1.out.alloc HB1.out.size _
 have HYW:Hid (RdI W (Value.slice yo (digs 1000000000 (val 1000000000 m)).length yc) .u64 (digs 1000000000 (val 1000000000 m))):=by
  unfold Hid; rw [hW]; exact HY.out.rd.keep ((Below.refl _ _).alloc (Nat.le_refl _) _)
 have hcm:W.cell? ⟨w1.heap.size,0,none⟩=some (Value.slice yo (digs 1000000000 (val 1000000000 m)).length yc):=by rw [hW,Qal _ _ _ _ _ rfl]; rfl
 have hsW:w1.heap.size<W.heap.size:=by rw [hW,Qaa]; omega
 rw [← hW]
 clear hW
 have HVW:=Lib.hid (HV.out.keep hBW)
 have hsw:w.heap.size≤W.heap.size:=hBW.size
 go_cut [8,9] (fun s8 s9 wx=>∃ g1 g2 qv rv,s8=.pointer (some ⟨g1,0,none⟩)∧s9=.pointer (some ⟨g2,0,none⟩)∧wx.cell? ⟨g1,0,none⟩=some qv∧wx.cell? ⟨g2,0,none⟩=some rv ∧
  Own wx w.heap.size 132 .u64 qv (digs 1000000000 (val 1000000000 l / val 1000000000 m))∧Own wx w.heap.size 132 .u64 rv (digs 1000000000 (val 1000000000 l % val 1000000000 m))∧Below w.heap.size w wx)
 case first =>
  go_region_held3 (fun w'=>w'.cell? ⟨w1.heap.size,0,none⟩=some (Value.slice yo (digs 1000000000 (val 1000000000 m)).length yc)) ((go_split_ands; (first | assumption | ((try simp only [QaS]); first | assumption | (refine (Qaq _ _ _ _ ?_).trans ?_ <;> first | assumption | (first | omega | (simp only [Qaa,Qad]; omega) | simp only [Qaa,Qac,Qab,Qad])) | (refine (Qbj _ _ _ _ ?_).trans ?_ <;> first | assumption | (first | omega | (simp only [Qaa,Qac,Qab,Qad]; omega) | simp only [Qaa,Qac,Qab,Qad])) | (refine (Qba _ _ _ _ _ _ ?_).trans ?_ <;> first | assumption | (first | omega | (simp only [Qaa,Qac,Qab,Qad]; omega) | simp only [Qaa,Qac,Qab,Qad]))) | (first | assumption | (simp (disch:=(first | omega | (simp only [Qaa,Qac,Qab,Qad]; omega) | simp only [Qaa,Qac,Qab,Qad])) only [Qaq,Qba] <;> first | rfl | assumption)) | ((first | refine (hbk.cell ?_).trans ?_ | refine (hbk.frozen ?_).trans ?_) <;> first | (first | omega | (simp only [Qaa,Qac,Qab,Qad]; omega) | simp only [Qaa,Qac,Qab,Qad]) | (first | assumption | (simp (disch:=(first | omega | (simp only [Qaa,Qac,Qab,Qad]; omega) | simp only [Qaa,Qac,Qab,Qad])) only [QaS,Qbp,Qbl,Qbk,Qal,Qaq,QaW,Qbj,Qba,QaJ,QaH] <;> first | rfl | assumption))))))
   (first | (go_at_call 229; refine (Qdc _ l _ (HVW.out.keep (by (repeat (first | exact Below.refl _ _ | assumption | refine Below.drew ?_ | refine QaE ?_ _ | refine Below.alloc ?_ (by (first | omega | (simp only [Qaa]; omega) | simp only [Qaa,Qac,Qab,Qad])) _ | refine Below.setCell ?_ (by (first | omega | (simp only [Qaa,Qac,Qab,Qad]; omega) | simp only [Qaa,Qac,Qab,Qad])) _)))) (by omega) H2.out).mono ?_; rintro e w2 ⟨x,rfl,hx,hbk⟩; obtain ⟨hcw2,hfw2⟩:=bcell hbk; have hB2:Below W.heap.size W w2:=(by refine Below.trans ?_ (Below.mono hbk ?_) <;> first | ((repeat (first | exact Below.refl _ _ | assumption | refine Below.drew ?_ | refine QaE ?_ _ | refine Below.alloc ?_ (by (first | omega | (simp only [Qaa]; omega) | simp only [Qaa,Qac,Qab,Qad])) _ | refine Below.setCell ?_ (by (first | omega | (simp only [Qaa,Qac,Qab,Qad]; omega) | simp only [Qaa,Qac,Qab,Qad])) _)); done) | (first | omega | (simp only [Qaa,Qac]; omega) | simp only [Qaa,Qac,Qab,Qad])); have hs2:=hB2.size; have hz2:=hbk.size; simp only [Qaa,Qac] at hz2; (try have hq1:W.heap.size<w2.heap.size:=(by omega)); (try have hq2:W.heap.size+1<w2.heap.size:=(by omega)); have hS2:=(hB2.cell (p:=⟨w1.heap.size,0,none⟩) hsW).trans hcm) | (go_at_call 230; refine (QnN _ _ (digs 1000000000 (val 1000000000 l)) (digs 1000000000 (val 1000000000 m)) _ (hx.rd.keep (by (repeat (first | exact Below.refl _ _ | assumption | refine Below.drew ?_ | refine QaE ?_ _ | refine Below.alloc ?_ (by (first | omega | (simp only [Qaa]; omega) | simp only [Qaa,Qac,Qab,Qad])) _ | refine Below.setCell ?_ (by (first | omega | (simp only [Qaa,Qac,Qab,Qad]; omega) | simp only [Qaa,Qac,Qab,Qad])) _)))) (HYW.out.keep (by (repeat (first | exact Below.refl _ _ | assumption | refine Below.drew ?_ | refine QaE ?_ _ | refine Below.alloc ?_ (by (first | omega | (simp only [Qaa]; omega) | simp only [Qaa,Qac,Qab,Qad])) _ | refine Below.setCell ?_ (by (first | omega | (simp only [Qaa,Qac,Qab,Qad]; omega) | simp only [Qaa,Qac,Qab,Qad])) _)))) (Qau _ (by omega) _) (QaP _ (by omega) _) HL.out HM.out (by rw [Qah _ (by omega)]; exact H5.out)).mono ?_; rintro e w3 ⟨q,r,rfl,hq,hr,hbk⟩; obtain ⟨hcw3,hfw3⟩:=bcell hbk; have hB3:Below W.heap.size W w3:=(by refine Below.trans ?_ (Below.mono hbk ?_) <;> first | ((repeat (first | exact Below.refl _ _ | assumption | refine Below.drew ?_ | refine QaE ?_ _ | refine Below.alloc ?_ (by (first | omega | (simp only [Qaa]; omega) | simp only [Qaa,Qac,Qab,Qad])) _ | refine Below.setCell ?_ (by (first | omega | (simp only [Qaa,Qac,Qab,Qad]; omega) | simp only [Qaa,Qac,Qab,Qad])) _)); done) | (first | omega | (simp only [Qaa]; omega) | simp only [Qaa,Qac,Qab,Qad])); have hs3:=hB3.size; have hz3:=hbk.size; (try simp only [Qaa] at hz3); (try have hr1:W.heap.size<w3.heap.size:=(by omega)); (try have hr2:W.heap.size+1<w3.heap.size:=(by omega)); (try have hr3:w2.heap.size<w3.heap.size:=(by omega)); (try have hr4:w2.heap.size+1<w3.heap.size:=(by omega)); have hS3:=(hB3.cell (p:=⟨w1.heap.size,0,none⟩) hsW).trans hcm; rw [Qah _ (by omega),Qah _ (by omega)] at hq hr; obtain ⟨qo,qc,rfl,_,_,_,_⟩:=hq.rd; obtain ⟨ro,rc,rfl,_,_,_,_⟩:=hr.rd))
  all_goals
   go_wp2_with fail
   go_meet
   refine ⟨_,_,_,_,rfl,rfl,?_,?_,((hq.same (by intro g hg1 hg2; (try simp only [Qaa] at hg1); simp (disch:=(first | omega | (simp only [Qaa,Qac,Qab,Qad]; omega) | simp only [Qaa,Qac,Qab,Qad])) only [QiN,Qep])).low ?_),((hr.same (by intro g hg1 hg2; (try simp only [Qaa] at hg1); simp (disch:=(first | omega | (simp only [Qaa,Qac,Qab,Qad]; omega) | simp only [Qaa,Qac,Qab,Qad])) only [QiN,Qep])).low ?_),?_⟩
   · (simp (disch:=(first | omega | (simp only [Qaa,Qac,Qab,Qad]; omega) | simp only [Qaa,Qac,Qab,Qad])) only [QaS,Qal,Qaq,Qba,Qqy, *] <;> first | done | rfl | assumption)
   · (simp (disch:=(first | omega | (simp only [Qaa,Qac,Qab,Qad]; omega) | simp only [Qaa,Qac,Qab,Qad])) only [QaS,Qal,Qaq,Qba,Qqy, *] <;> first | done | rfl | assumption)
   · (first | omega | (simp only [Qaa]; omega) | simp only [Qaa,Qac,Qab,Qad])
   · (first | omega | (simp only [Qaa]; omega) | simp only [Qaa,Qac,Qab,Qad])
   · refine hBW.trans ?_
     refine Below.mono (B:=W.heap.size) ?_ hsw
     (repeat (first | exact Below.refl _ _ | assumption | refine Below.drew ?_ | refine QaE ?_ _ | refine Below.alloc ?_ (by (first | omega | (simp only [Qaa,Qad]; omega) | simp only [Qaa,Qac,Qab,Qad])) _ | refine Below.setCell ?_ (by (first | omega | (simp only []; omega) | simp only [Qaa,Qac,Qab,Qad])) _))
 case rest =>
  obtain ⟨g1,g2,qv,rv,rfl,rfl,hg1,hg2,hq,hr,hbx⟩:=hcut
  have HQ:=Lib.hid hq
  have HR:=Lib.hid hr
  have HQL:Hid ((digs 1000000000 (val 1000000000 l / val 1000000000 m)).length≤1000000000):=by
   have:=Qar 1000000000 (by omega) (Nat.div_le_self (val 1000000000 l) (val 1000000000 m))
   have:=HL.out; unfold Hid; omega
  have HRL:Hid ((digs 1000000000 (val 1000000000 l % val 1000000000 m)).length≤1000000000):=by
   have:=Qar 1000000000 (by omega) (Nat.mod_le (val 1000000000 l) (val 1000000000 m))
   have:=HL.out; unfold Hid; omega
  have HQX:Hid (∀ x∈digs 1000000000 (val 1000000000 l / val 1000000000 m),x<4294967296):=fun x hx=>by have:=Qau 1000000000 (by omega) _ x hx; omega
  have HRX:Hid (∀ x∈digs 1000000000 (val 1000000000 l % val 1000000000 m),x<4294967296):=fun x hx=>by have:=Qau 1000000000 (by omega) _ x hx; omega
  obtain ⟨qo,qc,rfl,_,_,_,_⟩:=hq.rd
  obtain ⟨ro,rc,rfl,_,_,_,_⟩:=hr.rd
  have hgl1:=World.block_lt_of_cell? wc _ hg1
  have hgl2:=World.block_lt_of_cell? wc _ hg2
  dsimp only at hgl1 hgl2
  clear hq hr
  go_wp2_with fail
  go_region_held3 (fun w'=>w'.cell? ⟨g1,0,none⟩=some (Value.slice qo (digs 1000000000 (val 1000000000 l / val 1000000000 m)).length qc)∧w'.cell? ⟨g2,0,none⟩=some (Value.slice ro (digs 1000000000 (val 1000000000 l % val 1000000000 m)).length rc)) ((go_split_ands; refine ⟨?_,?_⟩ <;> (first | assumption | ((try simp only [QaS,Qbp]); first | assumption | (refine (Qaq _ _ _ _ ?_).trans ?_ <;> first | assumption | (first | omega | (simp only [Qaa,Qac,Qab,Qad]; omega) | simp only [Qaa,Qac,Qab,Qad])) | (refine (Qbj _ _ _ _ ?_).trans ?_ <;> first | assumption | (first | omega | (simp only [Qaa,Qac,Qab,Qad]; omega) | simp only [Qaa,Qac,Qab,Qad])) | (refine (Qba _ _ _ _ _ _ ?_).trans ?_ <;> first | assumption | (first | omega | (simp only [Qaa,Qac,Qab,Qad]; omega) | simp only [Qaa,Qac,Qab,Qad]))) | (first | assumption | (simp (disch:=(first | omega | (simp only [Qaa,Qac,Qab,Qad]; omega) | simp only [Qaa,Qac,Qab,Qad])) only [QaS,Qbp,Qbl,Qbk,Qal,Qaq,QaW,Qbj,Qba,QaJ,QaH] <;> first | rfl | assumption)) | ((first | refine (hbk.cell ?_).trans ?_ | refine (hbk.frozen ?_).trans ?_) <;> first | (first | omega | (simp only [Qac]; omega) | simp only [Qaa,Qac,Qab,Qad]) | (first | assumption | (simp (disch:=(first | omega | (simp only [Qaa,Qac,Qab,Qad]; omega) | simp only [Qaa,Qac,Qab,Qad])) only [QaS,Qbp,Qbl,Qbk,Qal,Qaq,QaW,Qbj,Qba,QaJ,QaH] <;> first | rfl | assumption))))))
   (first | (go_at_call 231; (with_reducible refine (Qfg (Value.slice qo (digs 1000000000 (val 1000000000 l / val 1000000000 m)).length qc) (digs 1000000000 (val 1000000000 l / val 1000000000 m)) _ HQ.out.rd.drew HQL.out HQX.out).mono ?_); rintro e w2 ⟨x,rfl,hx,hbk⟩; have hB2:Below wc.heap.size wc w2:=(by refine Below.trans ?_ (Below.mono hbk ?_) <;> first | ((repeat (first | exact Below.refl _ _ | assumption | refine Below.drew ?_ | refine QaE ?_ _ | refine Below.alloc ?_ (by (first | omega | (simp only [Qaa,Qac,Qab,Qad]; omega) | simp only [Qaa,Qac,Qab,Qad])) _ | refine Below.setCell ?_ (by (first | omega | (simp only [Qaa,Qac,Qab,Qad]; omega) | simp only [Qaa,Qac,Qab,Qad])) _)); done) | (first | omega | (simp only [Qac]; omega) | simp only [Qaa,Qac,Qab,Qad])); have hs2:=hB2.size) | (go_at_call 231; (with_reducible refine (Qfg (Value.slice ro (digs 1000000000 (val 1000000000 l % val 1000000000 m)).length rc) (digs 1000000000 (val 1000000000 l % val 1000000000 m)) _ (HR.out.keep hB2).rd HRL.out HRX.out).mono ?_); rintro e w3 ⟨y,rfl,hy,hbk⟩; have hB3:Below wc.heap.size wc w3:=hB2.trans (hbk.mono hs2)))
  go_wp2_with fail
  go_ret3
  refine ⟨x,y,rfl,?_,hy.low ?_,hbx.trans (hB3.mono hbx.size)⟩
  · exact (hx.keep hbk).low (by have:=hbx.size; simp only [Qac]; omega)
  · have:=hbx.size; omega
def rgtB (l:List Nat):Bool:=l.all (fun x=>decide (x<1000000000)) && (l.getLast? != some 0)
theorem QfT (l:List Nat):rgtB l=true↔Rgt 1000000000 l:=by
 simp [rgtB,Rgt]
theorem Qmg {l:List Nat} {k:Nat} (hk:k<l.length) (h:¬ dg l k<1000000000):rgtB l=false:=by
 rw [Bool.eq_false_iff]
 intro hc
 have:=((QfT l).1 hc).1 (dg l k) (by rw [QcN l k hk]; exact List.getElem_mem hk)
 exact h this
theorem Qrh:rgtB []=true:=rfl
theorem Qps {l:List Nat} (h0:0<l.length) (hx:∀ x∈l,x<1000000000):rgtB l=((dg l (l.length - 1):Int) != 0):=by
 rw [Bool.eq_iff_iff,QfT]
 simp only [bne_iff_ne,ne_eq]
 constructor
 · intro h hc
   apply h.2
   rw [List.getLast?_eq_getElem?]
   rw [dg_get? l _ (by omega)]
   congr 1; omega
 · intro h
   exact QcS hx (.inr (by omega))
set_option maxRecDepth 100000 in
set_option maxHeartbeats 1000000 in
theorem QjM (v:Value) (l:List Nat) (w:World) (hv:RdI w v .u32 l) (h1:l.length≤1000000000) :
  Calls Tryz.prog 149 #[v] w fun e w'=>e=.returned (.bool (rgtB l))∧w=w':=by
 obtain ⟨ao,ac,rfl,_,hm,_,hx⟩:=hv
 have HX:=Lib.hid hx
 clear hx
 go_enter Tryz.func149,Tryz.ntmps149
 go_wp2_with fail
 go_loop [7] (fun i=>∃ kk:Nat,i=.int .i64 kk∧kk≤l.length∧(∀ x∈l.take kk,x<1000000000)) (fun i=>l.length - (intOf i).toNat)
 case atStart=>exact ⟨0,rfl,by omega,by simp⟩
 case round =>
  obtain ⟨k,rfl,hk,hxs⟩:=hrel
  have HXS:=Lib.hid hxs
  clear hxs
  by_cases hkl:k<l.length
  · obtain ⟨ad,had,hcell⟩:=HX.out k hkl
    subst had
    by_cases hlt:dg l k<1000000000
    · have hge:¬ (1000000000:Int)≤(dg l k:Int):=by omega
      go_wp2_with fail
      go_round
      case rel =>
       refine ⟨k+1,by go_num,by omega,?_⟩
       intro x hx
       rw [List.take_succ_eq_append_getElem hkl,← QcN l k hkl] at hx
       rcases List.mem_append.1 hx with h | h
       · exact HXS.out x h
       · simp at h; omega
      case measure=>simp [intOf]; omega
    · have hge:(1000000000:Int)≤(dg l k:Int):=by omega
      go_wp2_with fail
      go_ret
      exact ⟨by rw [Qmg hkl hlt]; rfl,rfl⟩
  · have HALL:Hid (∀ x∈l,x<1000000000):=by have:=HXS.out; rw [List.take_of_length_le (by omega)] at this; exact this
    by_cases h0:0<l.length
    · obtain ⟨ad,had,hcell⟩:=HX.out (l.length - 1) (by omega)
      subst had
      have hne:((l.length:Int)==0)=false:=by simp; exact fun h=>by simp [h] at h0
      go_wp2_with fail
      go_ret
      exact ⟨by rw [Qps h0 HALL.out]; rfl,rfl⟩
    · have he:l=[]:=List.eq_nil_of_length_eq_zero (by omega)
      subst he
      go_wp2_with fail
      go_ret
      exact ⟨by rw [Qrh]; rfl,rfl⟩
end Go.Proofs.YtmbmbcamecfnkaaGreatDoor
