/- strings.Builder's writer, strconv.FormatUint at base 10, strings.Repeat of one byte. -/
import Derived.Test.YtdeacbdpmdfgdaaDoorChecked
import Derived.Test.YtdeacbdpmdfgdaaDoorBase
import Derived.Test.YtdeacbdpmdfgdaaDoorShelf
import Derived.Lib.AppendIntMem
import Derived.Shelf.Strings.BuilderX
import Derived.Lib.MakeNoZero
import Derived.Laws.Externs
namespace Go.Proofs.YtdeacbdpmdfgdaaDoor
open Go.RowKit
def Tab (w : World) : Prop := Lib.TabIs Tryd.prog w "internal/strconv.uint64pow10" .u64 Lib.pow10Tab
set_option maxHeartbeats 6400000 in
set_option maxRecDepth 100000 in
theorem formatUint_any (u:Nat) (w:World) (hu64:u<18446744073709551616) (htab:Tab w) :
  Calls Tryd.prog 106 #[.int .u64 u,.int .i64 10] w fun e w'=>e=.returned (.string ⟨(Lib.decDigits u).toArray⟩)∧Below w.heap.size w w':=by
 by_cases hs:u<100
 · have hs':(u:Int)<100:=by omega
   go_enter Tryd.func106,Tryd.ntmps106
   go_wp2_with (go_at_call 115; refine (Tryd.internal_strconv_small u hs _).mono ?_; rintro e w' ⟨rfl,rfl⟩)
   go_ret
   exact ⟨rfl,Below.refl _ _⟩
 · have hu1:1≤u:=by omega
   have hs':¬ (u:Int)<100:=by omega
   have hnd20:Lib.nDigits u≤20:=by have:=Lib.numDigits_eq u hu1 hu64; split at this <;> omega
   have hal:Tryd.prog.arrayLen 197=24:=by simp [Program.arrayLen,Tryd.underlying197]
   have hsl1:∀ W,(Instr.sliceAt 197 (.pointer (some ⟨w.heap.size,0,none⟩)) none (some (.int .i64 (Lib.nDigits u:Int))) none).run Tryd.prog W=.ok (.slice (some ⟨w.heap.size,0,none⟩) (Lib.nDigits u) 24) W:=fun W=>by
    rw [run_sliceAt_array_h W 197 ⟨w.heap.size,0,none⟩ (by simp [Program.arrayLen,Program.elem,Tryd.underlying197]) .i64 (Lib.nDigits u:Int) (by omega) (by rw [hal]; omega)]
    go_simp
   have hH0:=Lib.holds_zero0 w 197 (Lib.nDigits u) (by omega)
   have hfmt:=Tryd.internal_strconv_formatBase10 w.heap.size 0 24 u (Array.replicate (Lib.nDigits u) 0) (w.alloc (.cells Lib.zeros24 197)) hH0 (by rw [Array.size_replicate]; exact Lib.lt_pow_nDigits u) hu64 (by rw [Array.size_replicate]; omega)
   rw [Array.size_replicate] at hfmt
   have HH0:=Lib.hid hH0
   have HF:=Lib.hid hfmt
   clear hH0 hal hfmt
   go_enter Tryd.func106,Tryd.ntmps106
   go_wp2_with (go_at_call 116; refine (Tryd.internal_strconv_numDigits u hu1 hu64 _ (Lib.tabIs_alloc htab _)).mono ?_; rintro e w' ⟨rfl,rfl⟩)
   refine HF.out.mono ?_
   rintro e w' ⟨rfl,k,v',dk,rfl,hF⟩
   have hcv:(convert 40 9 (.slice (some ⟨w.heap.size,0,none⟩) (Lib.nDigits u) 24)).run Tryd.prog ((Sort.putRow (fun (b:UInt8)=>Value.int .u8 (b.toNat:Int)) (w.alloc (.cells Lib.zeros24 197)) w.heap.size 0 dk).drewN k)=.ok (.string ⟨(Lib.decDigits u).toArray⟩) ((Sort.putRow (fun (b:UInt8)=>Value.int .u8 (b.toNat:Int)) (w.alloc (.cells Lib.zeros24 197)) w.heap.size 0 dk).drewN k):=by
    have h:=run_convert_bytes_back (P:=Tryd.prog) ((Sort.putRow (fun (b:UInt8)=>Value.int .u8 (b.toNat:Int)) (w.alloc (.cells Lib.zeros24 197)) w.heap.size 0 dk).drewN k) 40 9 5 ⟨w.heap.size,0,none⟩ 24 (Lib.decDigits u) Tryd.underlying40 Tryd.underlying5 Tryd.underlying9 (fun j hj=>by
     rw [Lib.row_is_numeral hF j hj,Lib.add_plain,World.cell?_drewN]
     exact Sort.cell?_putRow (fun (b:UInt8)=>Value.int .u8 (b.toNat:Int)) _ w.heap.size 0 _ dk HH0.out (by rw [hF.size,Array.size_replicate]) j (by rw [hF.size]; rw [Lib.decDigits_length] at hj; exact hj))
    rw [Lib.decDigits_length] at h
    exact h
   go_wp2
   go_ret
   obtain ⟨os,eo⟩:=Lib.fin_at w (.cells Lib.zeros24 197) dk k 0
   refine ⟨rfl,?_⟩
   rw [eo]
   exact Lib.below_grow _ _ (Nat.le_refl _) _ _
end Go.Proofs.YtdeacbdpmdfgdaaDoor
