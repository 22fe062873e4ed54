/- The reader of terms: a term. -/
import Derived.Test.YtdeacbdpmdfgdaaDoorKu
import Derived.Test.YtdeacbdpmdfgdaaDoorFa
namespace Go.Proofs.YtdeacbdpmdfgdaaDoor
open Go.RowKit
set_option linter.unusedVariables false
set_option maxRecDepth 100000
def restB (l:List Tw) (r:List UInt8):List UInt8:=Lib.decDigits l.length++59::(keyBL l++r)
def restA (nm:ByteArray) (b:Bool) (d:List Nat) (l:List Tw) (r:List UInt8):List UInt8:=nm.data.toList++32::(((if b=true then [45] else [])++digsC d)++32::restB l r)
def intsN (l:List Nat):List Int:=l.map Int.ofNat
theorem bA_l (l:List UInt8):(bA l).data.toList=l:=rfl
theorem bA_sz (l:List UInt8):(bA l).size=l.length:=rfl
theorem key_cut (k:Int) (nm:ByteArray) (b:Bool) (d:List Nat) (l:List Tw) (r:List UInt8):keyB (.mk k nm b d l)++r=Lib.decDigits k.toNat++32::(Lib.decDigits nm.size++58::restA nm b d l r):=by
 unfold restA restB
 rw [keyB]; simp only [List.append_assoc,List.cons_append]
theorem sg32:sgnA ⟨#[32]⟩=32:=by decide
theorem sg58:sgnA ⟨#[58]⟩=58:=by decide
theorem sg59:sgnA ⟨#[59]⟩=59:=by decide
theorem u8_id {k:Int} (h0:0≤k) (h1:k≤255):IntKind.u8.wrap ((k.toNat:Nat):Int)=k:=by
 rw [Int.toNat_of_nonneg h0,w8 k h0 h1]
theorem u32_id {n:Nat} (h:n<4294967296):IntKind.u32.wrap (n:Int)=n:=by
 have:IntKind.u32.wrap (n:Int)=(n:Int) % 4294967296:=by simp [IntKind.wrap,IntKind.bits,IntKind.signed]
 rw [this]; omega
theorem subB_k {kd:IntKind} {a b:Int} (h:a=b):SubB (.f (.v (.int kd a))) (.f (.v (.int kd b))):=by subst h; exact .refl _
theorem subB_sv {a b:ByteArray} (h:a=b):SubB (sV a) (sV b):=by subst h; exact .refl _
theorem ends {k:Int} {nm:ByteArray} {b:Bool} {d:List Nat} {l:List Tw} (hd:∀ x∈d,x<4294967296):SubB (.agg [.f (.v (.int .u8 k)),.f (.v (.string nm)),.f (.v (.bool b)),.f (.is .u32 (intsN d)),.f (.dt .tm l)]) (tmP (.mk k nm b d l)) :=
 leaf_sub (m:=[.v (.int .u8 k),.v (.string nm),.v (.bool b),.is .u32 (intsN d),.dt .tm l]) rfl (.cons (fun _ _ h=>h) (.cons (fun _ _ h=>h) (.cons (fun _ _ h=>h) (.cons (fun H v h=>((is_lr hd).1 H B0 v (.f h)).rd) (.cons (fun _ _ h=>h) .nil)))))
end Go.Proofs.YtdeacbdpmdfgdaaDoor
