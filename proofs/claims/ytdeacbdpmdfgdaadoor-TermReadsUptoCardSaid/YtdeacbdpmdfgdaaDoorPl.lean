/- The contracts of the layer num, as the pure run takes them. The contracts of the layer num, as the pure run takes them: the other ones. -/
import Derived.Test.YtdeacbdpmdfgdaaDoorEz
import Derived.Test.YtdeacbdpmdfgdaaDoorSm
namespace Go.Proofs.YtdeacbdpmdfgdaaDoor
open Go.RowKit
set_option linter.unusedVariables false
theorem digs_small (z:Int):∀ x∈digs 1000000000 z.natAbs,x<4294967296:=fun x hx=>by
 have:=(digs_rgt 1000000000 (by omega) z.natAbs).1 x hx
 omega
def asR:Lf→Lf→Option ((Bool × List Nat) × Nat × Nat)
 | .zn z,.zd z' k=>some ((zNeg z,digs 1000000000 z'.natAbs),k,k)
 | .v (.bool n),.zd z' k=>some ((n,digs 1000000000 z'.natAbs),k,k)
 | .v (.bool n),.lr l k=>some ((n,l),k,k+1)
 | .v (.bool n),.v (.slice none 0 0)=>some ((n,[]),0,1)
 | _,_=>none
theorem rd_lim {H:Hp} {v:Value} {f:Lf} {l:List Nat} {k:Nat} (h:Rd H v f) (hf:f.view=some (1,l.length,fun i=>[.v (.int .u32 (l.getD i 0:Nat))])) {w:World} (hw:Fro H w):RdI w v .u32 l:=by
 cases h with
 | v=>cases hf
 | zn=>cases hf
 | @sl _ k n get ao cap hv hg hc hm h0 b o val hb hcell hk hrec =>
  rw [hv] at hf
  simp only [Option.some.injEq,Prod.mk.injEq] at hf
  obtain ⟨rfl,rfl,rfl⟩:=hf
  have hfl:=Lf.full_le hv hg
  replace hc:=Nat.le_trans hfl hc
  refine ⟨ao,cap,rfl,hc,hm,h0,fun i hi=>⟨⟨b,o,none⟩,hb (by omega),?_⟩⟩
  have h1:=hcell i (by omega) 0 (by omega)
  have h2:=(hrec i (by omega) 0 _ rfl).val rfl
  rw [h2] at h1
  have h3:=hw _ _ _ h1
  rw [at_add]
  simpa [dg] using h3
theorem zd_len {z:Int} {k:Nat} (h:ZB z k):(digs 1000000000 z.natAbs).length≤k:=h.len
theorem rd_good {H:Hp} {v:Value} {f:Lf} (h:Rd H v f) (hf:f.view≠none):f.good:=by
 cases h with
 | v=>exact absurd rfl hf
 | zn=>exact absurd rfl hf
 | sl hv hg=>exact hg
theorem asR_iv {H:Hp} {x y:Value} {f g:Lf} {n:Bool} {l:List Nat} {k j:Nat} {w:World} (h:asR f g=some ((n,l),k,j)) (hx:Rd H x f) (hy:Rd H y g) (hw:Fro H w) :
  IV w (.agg #[x,y]) n l∧l.length≤k∧ZB (zV n l) j:=by
 unfold asR at h
 split at h
 · rename_i z z' k'
   cases h
   have h1:=hx.val rfl
   subst h1
   have hz:ZB z' k:=rd_good hy (by simp [Lf.view])
   refine ⟨⟨y,rfl,rd_lim (k:=0) hy rfl hw,digs_small z'⟩,zd_len hz,?_⟩
   unfold ZB zV; rw [zOf_abs,val_digs _ (by omega)]; exact hz
 · rename_i n' z' k'
   cases h
   have h1:=hx.val rfl
   subst h1
   have hz:ZB z' k:=rd_good hy (by simp [Lf.view])
   refine ⟨⟨y,rfl,rd_lim (k:=0) hy rfl hw,digs_small z'⟩,zd_len hz,?_⟩
   unfold ZB zV; rw [zOf_abs,val_digs _ (by omega)]; exact hz
 · rename_i n' l' k'
   cases h
   have h1:=hx.val rfl
   subst h1
   obtain ⟨h2,h3⟩:l.length≤k∧∀ x∈l,x<4294967296:=rd_good hy (by simp [Lf.view])
   exact ⟨⟨y,rfl,rd_lim (k:=0) hy rfl hw,h3⟩,h2,(zV_zb n l h3).mono (by omega)⟩
 · rename_i n'
   cases h
   have h1:=hx.val rfl
   have h2:=hy.val rfl
   subst h1 h2
   exact ⟨⟨_,rfl,⟨none,0,rfl,by simp,by unfold maxLen; omega,fun _=>rfl,fun i hi=>by simp at hi⟩,by simp⟩,by simp,by cases n <;> (unfold ZB; decide)⟩
 · cases h
theorem agg2 {H:Hp} {B:Hd} {v:Value} {f g:Lf} (h:PR H B v (.agg [.f f,.f g])):∃ x y,v=.agg #[x,y]∧Rd H x f∧Rd H y g:=by
 obtain ⟨vs,rfl,h1⟩:=PRs.of_agg h
 obtain ⟨x,y,rfl⟩:∃ x y,vs=[x,y]:=by
  have:=h1.1
  match vs,this with
  | [x,y],_=>exact ⟨x,y,rfl⟩
 exact ⟨x,y,rfl,(h1.2 0 x _ rfl rfl).rd,(h1.2 1 y _ rfl rfl).rd⟩
theorem two_args {H:Hp} {B:Hd} {vs:List Value} {x y:PV} (h:PRs H B vs [x,y]):∃ u v,vs=[u,v]∧PR H B u x∧PR H B v y:=by
 have:=h.1
 match vs,this with
 | [u,v],_=>exact ⟨u,v,rfl,h.2 0 u x rfl rfl,h.2 1 v y rfl rfl⟩
end Go.Proofs.YtdeacbdpmdfgdaaDoor
namespace Go.Proofs.YtdeacbdpmdfgdaaDoor
open Go.RowKit
set_option linter.unusedVariables false
def pvR:PV→Option ((Bool × List Nat) × Nat × Nat)
 | .agg [.f a,.f b]=>asR a b
 | _=>none
theorem pvR_iz {H:Hp} {B:Hd} {v:Value} {x:PV} {n:Bool} {l:List Nat} {k j:Nat} {w:World} (h:pvR x=some ((n,l),k,j)) (hv:PR H B v x) (hw:Fro H w):IV w v n l∧l.length≤k∧ZB (zV n l) j:=by
 unfold pvR at h
 split at h
 · obtain ⟨p,q,rfl,h1,h2⟩:=agg2 hv
   exact asR_iv h h1 h2 hw
 · cases h
def sSame:Spec
 | [x,y]=>match pvR x,pvR y with
  | some ((n,l),k,_),some ((n',l'),k',_)=>some (some (k+k'≤90000000),.one (.f (.v (.bool ((n==n') && eqB l l')))))
  | _,_=>none
 | _=>none
section
variable {E : Env}
theorem cSame:Contract Tryd.prog E 47 sSame:=by
 intro xs p r hs hp w H vs hf hE hvs
 unfold sSame at hs
 split at hs
 · rename_i x y
   split at hs
   · rename_i n l k j n' l' k' j' hx hy
     cases hs
     have hb:=hp _ rfl
     obtain ⟨u,v,rfl,hu,hv⟩:=two_args hvs
     obtain ⟨h1,h2,h3⟩:=pvR_iz hx hu hf
     obtain ⟨h4,h5,h6⟩:=pvR_iz hy hv hf
     refine (sameInt_any u v n n' l l' w h1 h4 (by omega)).mono ?_
     rintro e w' ⟨rfl,hbl⟩
     exact ⟨H,_,rfl,Ext.below hf hbl,.f (.v _ rfl)⟩
   · cases hs
 · cases hs
end
set_option maxRecDepth 100000
theorem zd_mono {H:Hp} {v:Value} {z:Int} {k k':Nat} (h:Rd H v (.zd z k)) (hk:k≤k'):Rd H v (.zd z k'):=by
 have hz:ZB z k:=rd_good h (by simp [Lf.view])
 cases h with
 | sl hv hg hc hm h0 b o val hb hcell hkk hrec=>exact .sl (f:=.zd z k') hv (hz.mono hk) hc hm h0 b o val hb hcell hkk hrec
inductive Subl:List PV→List PV→Prop
 | nil:Subl [] []
 | zd {z z':Int} {k k':Nat} {l m:List PV} (hz:z=z') (hk:k≤k') (h:Subl l m):Subl (.f (.zn z)::.f (.zd z k)::l) (.f (.zn z')::.f (.zd z' k')::m)
 | zero {z:Int} {k:Nat} {l m:List PV} (hz:z=0) (h:Subl l m):Subl (.f (.v (.bool false))::.f (.v (.slice none 0 0))::l) (.f (.zn z)::.f (.zd z k)::m)
 | same {x:PV} {l m:List PV} (h:Subl l m):Subl (x::l) (x::m)
theorem Subl.prs {H:Hp}:∀ {vs:List Value} {l m:List PV},Subl l m→PRs H B0 vs l→PRs H B0 vs m
 | vs,_,_,.nil,h=>h
 | [],_,_,.zd ..,hv=>by have:=hv.1; simp at this
 | [_],_,_,.zd ..,hv=>by have:=hv.1; simp at this
 | u::v::vs,_,_,.zd hz hk h,hv=>by
  subst hz
  have h0:=hv.2 0 _ _ rfl rfl
  have h1:=(hv.2 1 _ _ rfl rfl).rd
  exact .cons h0 (.cons (.f (zd_mono h1 hk)) (h.prs ⟨by have:=hv.1; simpa using this,fun i v x hv' hx=>hv.2 (i+2) v x (by simpa using hv') (by simpa using hx)⟩))
 | [],_,_,.zero ..,hv=>by have:=hv.1; simp at this
 | [_],_,_,.zero ..,hv=>by have:=hv.1; simp at this
 | u::v::vs,_,_,.zero (k:=k) hz h,hv=>by
  subst hz
  have h0:=(hv.2 0 _ _ rfl rfl).val
  have h1:=(hv.2 1 _ _ rfl rfl).val
  subst h0 h1
  refine .cons (.f (.zn 0)) (.cons (.f (.slf (fun _=>rfl) (f:=.zd 0 k) (k:=1) (n:=0) (get:=fun i=>[.v (.int .u32 ((digs 1000000000 (0:Int).natAbs).getD i 0:Nat))]) (by simp [Lf.view,digs_zero]) (ZB.zero k) (Nat.le_refl _) (by unfold maxLen; omega) (fun _=>rfl) 0 0 (fun _ _=>undef) (fun h=>by omega) (fun i h=>by omega) (fun i h=>by omega) (fun i h=>by omega))) (h.prs ⟨by have:=hv.1; simpa using this,fun i v x hv' hx=>hv.2 (i+2) v x (by simpa using hv') (by simpa using hx)⟩))
 | [],_,_,.same ..,hv=>by have:=hv.1; simp at this
 | v::vs,_,_,.same h,hv=>.cons (hv.2 0 _ _ rfl rfl) (h.prs ⟨by have:=hv.1; simpa using this,fun i v x hv' hx=>hv.2 (i+1) v x (by simpa using hv') (by simpa using hx)⟩)
theorem Subl.agg {l m:List PV} (h:Subl l m):Sub (.agg l) (.agg m):=⟨fun H v hv=>by
 obtain ⟨vs,rfl,h1⟩:=PRs.of_agg hv
 exact (h.prs h1).agg⟩
theorem nil_rd {H:Hp} {f:Lf} {k:Nat} {get:Nat→List Lf} (hf:f.view=some (k,0,get)) (hg:f.good) (hff:∀ q,f.full q=q:=by intro q; rfl):Rd H (.slice none 0 0) f :=
 .slf hff hf hg (Nat.le_refl _) (by unfold maxLen; omega) (fun _=>rfl) 0 0 (fun _ _=>undef) (fun h=>by omega) (fun i h=>by omega) (fun i h=>by omega) (fun i h=>by omega)
theorem wrapI (n:Int) (h:-9223372036854775808≤n∧n≤9223372036854775807):IntKind.i64.wrap n=n:=by
 simp only [IntKind.wrap,IntKind.signed,IntKind.bits]
 simp
 omega
theorem rd_view {H:Hp} {v:Value} {f f':Lf} {k n:Nat} {get get':Nat→List Lf} (hv:f.view=some (k,n,get)) (hv':f'.view=some (k,n,get')) (hg':f'.good) (hf:f'.full n≤f.full n) (he:∀ i,i<f'.full n→get' i=get i) (h:Rd H v f):Rd H v f':=by
 cases h with
 | v=>cases hv
 | zn=>cases hv
 | sl hv2 hgd hc hm h0 b o val hb hcell hk hrec =>
  rw [hv] at hv2
  cases hv2
  exact .sl hv' hg' (by omega) hm h0 b o val (fun h=>hb (by omega)) (fun i hi=>hcell i (by omega)) (fun i hi=>by rw [he i hi]; exact hk i (by omega)) (fun i hi j x hx=>by rw [he i hi] at hx; exact hrec i (by omega) j x hx)
end Go.Proofs.YtdeacbdpmdfgdaaDoor
