/- The contracts of the layer num, as the pure run takes them. The contracts of the layer num, as the pure run takes them: the other ones. -/
import Derived.Test.YtijfaigpilfpaaaGreatDoorEz
import Derived.Test.YtijfaigpilfpaaaGreatDoorSm
namespace Go.Proofs.YtijfaigpilfpaaaGreatDoor
open Go.RowKit
set_option linter.unusedVariables false
def Hall (H:Hp) (w w':World):Hp:=fun b j=>if b<w.heap.size then H b j else w'.cell? ⟨b,j,none⟩
theorem Qtl {H:Hp} {w w':World} (hf:Fro H w) (hb:Below w.heap.size w w'):Ext w H w' (Hall H w w'):=by
 refine ⟨hb,fun b j v h=>?_,fun b j v h=>?_,fun b j v h1 h2=>?_⟩
 · unfold Hall; rw [if_pos (hf.lt h)]; exact h
 · unfold Hall at h
   split at h
   · rename_i hlt; exact (hb.cell (p:=⟨b,j,none⟩) hlt).trans (hf b j v h)
   · exact h
 · unfold Hall at h1
   split at h1
   · rw [h1] at h2; cases h2
   · omega
def zP (z:Int) (k:Nat):PV:=.agg [.f (.zn z),.f (.zd z k)]
theorem QbN (z:Int):∀ x∈digs 1000000000 z.natAbs,x<4294967296:=fun x hx=>by
 have:=(Qq0 1000000000 (by omega) z.natAbs).1 x hx
 omega
theorem own_rd {w w':World} {H:Hp} {v:Value} {z:Int} {k:Nat} {e:TypeId} (ho:Own w' w.heap.size e .u32 v (digs 1000000000 z.natAbs)) (hz:ZB z k):Rd (Hall H w w') v (.zd z k):=by
 obtain ⟨ao,cap,hv,hc,hm,h0,hcell⟩:=ho.rd
 subst hv
 rcases ho.2 with ⟨hn,hl⟩ | ⟨g,cap',cur,hs,hg,hh,r⟩
 · simp only [Value.slice.injEq] at hn
   obtain ⟨rfl,-,rfl⟩:=hn
   exact .slf (fun _=>rfl) (k:=1) (n:=(digs 1000000000 z.natAbs).length) (get:=fun i=>[.v (.int .u32 ((digs 1000000000 z.natAbs).getD i 0:Nat))]) rfl hz hc hm h0 0 0 (fun i j=>.int .u32 ((digs 1000000000 z.natAbs).getD i 0:Nat))
    (fun h=>by omega) (fun i hi=>by omega) (fun i hi=>rfl) (fun i hi=>by omega)
 · cases hs
   refine .slf (fun _=>rfl) (k:=1) (n:=(digs 1000000000 z.natAbs).length) (get:=fun i=>[.v (.int .u32 ((digs 1000000000 z.natAbs).getD i 0:Nat))]) rfl hz hc hm h0 g 0 (fun i j=>.int .u32 ((digs 1000000000 z.natAbs).getD i 0:Nat))
    (fun _=>rfl) (fun i hi j hj=>?_) (fun i hi=>rfl) (fun i hi j x hx=>?_)
   · obtain ⟨ad,h1,h2⟩:=hcell i hi
     cases h1
     unfold Hall
     rw [if_neg (by omega)]
     rw [QcE] at h2
     obtain rfl:j=0:=by omega
     simp only [Nat.mul_one,Nat.add_zero]
     exact h2
   · cases j with
     | zero=>simp at hx; subst hx; exact .v _ rfl
     | succ j=>simp at hx
def asR:Lf→Lf→Option ((Bool × List Nat) × Nat × Nat)
 | .zn z,.zd z' k=>some ((zNeg z,digs 1000000000 z'.natAbs),k,k)
 | .v (.bool n),.zd z' k=>some ((n,digs 1000000000 z'.natAbs),k,k)
 | .v (.bool n),.lr l k=>some ((n,l),k,k+1)
 | .v (.bool n),.v (.slice none 0 0)=>some ((n,[]),0,1)
 | _,_=>none
theorem Qiz {H:Hp} {v:Value} {f:Lf} {l:List Nat} {k:Nat} (h:Rd H v f) (hf:f.view=some (1,l.length,fun i=>[.v (.int .u32 (l.getD i 0:Nat))])) {w:World} (hw:Fro H w):RdI w v .u32 l:=by
 cases h with
 | v=>cases hf
 | zn=>cases hf
 | @sl _ k n get ao cap hv hg hc hm h0 b o val hb hcell hk hrec =>
  rw [hv] at hf
  simp only [Option.some.injEq,Prod.mk.injEq] at hf
  obtain ⟨rfl,rfl,rfl⟩:=hf
  have hfl:=Lf.full_le hv hg
  replace hc:=Nat.le_trans hfl hc
  refine ⟨ao,cap,rfl,hc,hm,h0,fun i hi=>⟨⟨b,o,none⟩,hb (by omega),?_⟩⟩
  have h1:=hcell i (by omega) 0 (by omega)
  have h2:=(hrec i (by omega) 0 _ rfl).val rfl
  rw [h2] at h1
  have h3:=hw _ _ _ h1
  rw [QcE]
  simpa [dg] using h3
theorem Qgh {z:Int} {k:Nat} (h:ZB z k):(digs 1000000000 z.natAbs).length≤k:=h.len
theorem Qee {H:Hp} {v:Value} {f:Lf} (h:Rd H v f) (hf:f.view≠none):f.good:=by
 cases h with
 | v=>exact absurd rfl hf
 | zn=>exact absurd rfl hf
 | sl hv hg=>exact hg
theorem asR_iv {H:Hp} {x y:Value} {f g:Lf} {n:Bool} {l:List Nat} {k j:Nat} {w:World} (h:asR f g=some ((n,l),k,j)) (hx:Rd H x f) (hy:Rd H y g) (hw:Fro H w) :
  IV w (.agg #[x,y]) n l∧l.length≤k∧ZB (zV n l) j:=by
 unfold asR at h
 split at h
 · rename_i z z' k'
   cases h
   have h1:=hx.val rfl
   subst h1
   have hz:ZB z' k:=Qee hy (by simp [Lf.view])
   refine ⟨⟨y,rfl,Qiz (k:=0) hy rfl hw,QbN z'⟩,Qgh hz,?_⟩
   unfold ZB zV; rw [QgR,QgX _ (by omega)]; exact hz
 · rename_i n' z' k'
   cases h
   have h1:=hx.val rfl
   subst h1
   have hz:ZB z' k:=Qee hy (by simp [Lf.view])
   refine ⟨⟨y,rfl,Qiz (k:=0) hy rfl hw,QbN z'⟩,Qgh hz,?_⟩
   unfold ZB zV; rw [QgR,QgX _ (by omega)]; exact hz
 · rename_i n' l' k'
   cases h
   have h1:=hx.val rfl
   subst h1
   obtain ⟨h2,h3⟩:l.length≤k∧∀ x∈l,x<4294967296:=Qee hy (by simp [Lf.view])
   exact ⟨⟨y,rfl,Qiz (k:=0) hy rfl hw,h3⟩,h2,(zV_zb n l h3).mono (by omega)⟩
 · rename_i n'
   cases h
   have h1:=hx.val rfl
   have h2:=hy.val rfl
   subst h1 h2
   exact ⟨⟨_,rfl,⟨none,0,rfl,by simp,by unfold maxLen; omega,fun _=>rfl,fun i hi=>by simp at hi⟩,by simp⟩,by simp,by cases n <;> (unfold ZB; decide)⟩
 · cases h
theorem agg2 {H:Hp} {B:Hd} {v:Value} {f g:Lf} (h:PR H B v (.agg [.f f,.f g])):∃ x y,v=.agg #[x,y]∧Rd H x f∧Rd H y g:=by
 obtain ⟨vs,rfl,h1⟩:=PRs.of_agg h
 obtain ⟨x,y,rfl⟩:∃ x y,vs=[x,y]:=by
  have:=h1.1
  match vs,this with
  | [x,y],_=>exact ⟨x,y,rfl⟩
 exact ⟨x,y,rfl,(h1.2 0 x _ rfl rfl).rd,(h1.2 1 y _ rfl rfl).rd⟩
theorem Qom {H:Hp} {B:Hd} {vs:List Value} {x:PV} (h:PRs H B vs [x]):∃ v,vs=[v]∧PR H B v x:=by
 have:=h.1
 match vs,this with
 | [v],_=>exact ⟨v,rfl,h.2 0 v x rfl rfl⟩
theorem QpZ {H:Hp} {B:Hd} {vs:List Value} {x y:PV} (h:PRs H B vs [x,y]):∃ u v,vs=[u,v]∧PR H B u x∧PR H B v y:=by
 have:=h.1
 match vs,this with
 | [u,v],_=>exact ⟨u,v,rfl,h.2 0 u x rfl rfl,h.2 1 v y rfl rfl⟩
end Go.Proofs.YtijfaigpilfpaaaGreatDoor
namespace Go.Proofs.YtijfaigpilfpaaaGreatDoor
open Go.RowKit
set_option linter.unusedVariables false
def pvR:PV→Option ((Bool × List Nat) × Nat × Nat)
 | .agg [.f a,.f b]=>asR a b
 | _=>none
theorem QrD {H:Hp} {B:Hd} {v:Value} {x:PV} {n:Bool} {l:List Nat} {k j:Nat} {w:World} (h:pvR x=some ((n,l),k,j)) (hv:PR H B v x) (hw:Fro H w):IV w v n l∧l.length≤k∧ZB (zV n l) j:=by
 unfold pvR at h
 split at h
 · obtain ⟨p,q,rfl,h1,h2⟩:=agg2 hv
   exact asR_iv h h1 h2 hw
 · cases h
def rawP (n:Bool) (l:List Nat) (k:Nat):PV:=.agg [.f (.v (.bool n)),.f (.lr l k)]
theorem rd_raw {H:Hp} {x y:Value} {f g:Lf} {n:Bool} {l:List Nat} {k j:Nat} (h:asR f g=some ((n,l),k,j)) (hx:Rd H x f) (hy:Rd H y g):Rd H x (.v (.bool n))∧Rd H y (.lr l k):=by
 unfold asR at h
 split at h
 · rename_i z z' k'
   cases h
   have h1:=hx.val rfl
   subst h1
   have hz:ZB z' k:=Qee hy (by simp [Lf.view])
   refine ⟨.v _ rfl,?_⟩
   cases hy with
   | sl hv hg hc hm h0 b o val hb hcell hk hrec=>exact .sl (f:=.lr _ k) hv ⟨Qgh hz,QbN z'⟩ hc hm h0 b o val hb hcell hk hrec
 · rename_i n' z' k'
   cases h
   have h1:=hx.val rfl
   subst h1
   have hz:ZB z' k:=Qee hy (by simp [Lf.view])
   refine ⟨.v _ rfl,?_⟩
   cases hy with
   | sl hv hg hc hm h0 b o val hb hcell hk hrec=>exact .sl (f:=.lr _ k) hv ⟨Qgh hz,QbN z'⟩ hc hm h0 b o val hb hcell hk hrec
 · rename_i n' l' k'
   cases h
   exact ⟨hx,hy⟩
 · rename_i n'
   cases h
   have h2:=hy.val rfl
   subst h2
   exact ⟨hx,.slf (fun _=>rfl) (f:=.lr [] 0) (k:=1) (n:=0) rfl ⟨Nat.le_refl _,by simp⟩ (Nat.le_refl _) (by unfold maxLen; omega) (fun _=>rfl) 0 0 (fun _ _=>undef) (fun h=>by omega) (fun i h=>by omega) (fun i h=>by omega) (fun i h=>by omega)⟩
 · cases h
theorem Qss {x:PV} {n:Bool} {l:List Nat} {k j:Nat} (h:pvR x=some ((n,l),k,j)):Sub x (rawP n l k):=by
 refine ⟨fun H v hv=>?_⟩
 unfold pvR at h
 split at h
 · obtain ⟨p,q,rfl,h1,h2⟩:=agg2 hv
   obtain ⟨h3,h4⟩:=rd_raw h h1 h2
   have:=(PRs.cons (H:=H) (B:=B0) (.f h3) (.cons (.f h4) .nil)).agg
   simpa [rawP] using this
 · cases h
def sOf:Spec
 | [.f (.v (.int .i64 n))]=>some (some (-9223372036854775808≤n∧n≤9223372036854775807),.nm Int n fun z=>zP z 3)
 | _=>none
def Qk4:Spec
 | [x]=>match pvR x with
  | some ((n,l),k,_)=>some (some (k≤100000000),.one (.f (.v (.bool (Qbv n l)))))
  | none=>none
 | _=>none
def QsD:Spec
 | [x,y]=>match pvR x,pvR y with
  | some ((n,l),k,_),some ((n',l'),k',_)=>some (some (k+k'≤90000000),.one (.f (.v (.bool ((n==n') && eqB l l')))))
  | _,_=>none
 | _=>none
section
variable {E : Env}
theorem cSame:Contract Tryz.prog E 89 QsD:=by
 intro xs p r hs hp w H vs hf hE hvs
 unfold QsD at hs
 split at hs
 · rename_i x y
   split at hs
   · rename_i n l k j n' l' k' j' hx hy
     cases hs
     have hb:=hp _ rfl
     obtain ⟨u,v,rfl,hu,hv⟩:=QpZ hvs
     obtain ⟨h1,h2,h3⟩:=QrD hx hu hf
     obtain ⟨h4,h5,h6⟩:=QrD hy hv hf
     refine (Qjx u v n n' l l' w h1 h4 (by omega)).mono ?_
     rintro e w' ⟨rfl,hbl⟩
     exact ⟨H,_,rfl,Ext.below hf hbl,.f (.v _ rfl)⟩
   · cases hs
 · cases hs
end
set_option maxRecDepth 100000
theorem Qg3 {a b:Bool} (h:a=b):Sub (.f (.v (.bool a))) (.f (.v (.bool b))):=by subst h; exact .refl _
theorem Qsb {H:Hp} {v:Value} {z:Int} {k k':Nat} (h:Rd H v (.zd z k)) (hk:k≤k'):Rd H v (.zd z k'):=by
 have hz:ZB z k:=Qee h (by simp [Lf.view])
 cases h with
 | sl hv hg hc hm h0 b o val hb hcell hkk hrec=>exact .sl (f:=.zd z k') hv (hz.mono hk) hc hm h0 b o val hb hcell hkk hrec
inductive Subl:List PV→List PV→Prop
 | nil:Subl [] []
 | zd {z z':Int} {k k':Nat} {l m:List PV} (hz:z=z') (hk:k≤k') (h:Subl l m):Subl (.f (.zn z)::.f (.zd z k)::l) (.f (.zn z')::.f (.zd z' k')::m)
 | zero {z:Int} {k:Nat} {l m:List PV} (hz:z=0) (h:Subl l m):Subl (.f (.v (.bool false))::.f (.v (.slice none 0 0))::l) (.f (.zn z)::.f (.zd z k)::m)
 | same {x:PV} {l m:List PV} (h:Subl l m):Subl (x::l) (x::m)
theorem Subl.prs {H:Hp}:∀ {vs:List Value} {l m:List PV},Subl l m→PRs H B0 vs l→PRs H B0 vs m
 | vs,_,_,.nil,h=>h
 | [],_,_,.zd ..,hv=>by have:=hv.1; simp at this
 | [_],_,_,.zd ..,hv=>by have:=hv.1; simp at this
 | u::v::vs,_,_,.zd hz hk h,hv=>by
  subst hz
  have h0:=hv.2 0 _ _ rfl rfl
  have h1:=(hv.2 1 _ _ rfl rfl).rd
  exact .cons h0 (.cons (.f (Qsb h1 hk)) (h.prs ⟨by have:=hv.1; simpa using this,fun i v x hv' hx=>hv.2 (i+2) v x (by simpa using hv') (by simpa using hx)⟩))
 | [],_,_,.zero ..,hv=>by have:=hv.1; simp at this
 | [_],_,_,.zero ..,hv=>by have:=hv.1; simp at this
 | u::v::vs,_,_,.zero (k:=k) hz h,hv=>by
  subst hz
  have h0:=(hv.2 0 _ _ rfl rfl).val
  have h1:=(hv.2 1 _ _ rfl rfl).val
  subst h0 h1
  refine .cons (.f (.zn 0)) (.cons (.f (.slf (fun _=>rfl) (f:=.zd 0 k) (k:=1) (n:=0) (get:=fun i=>[.v (.int .u32 ((digs 1000000000 (0:Int).natAbs).getD i 0:Nat))]) (by simp [Lf.view,Qbx]) (ZB.zero k) (Nat.le_refl _) (by unfold maxLen; omega) (fun _=>rfl) 0 0 (fun _ _=>undef) (fun h=>by omega) (fun i h=>by omega) (fun i h=>by omega) (fun i h=>by omega))) (h.prs ⟨by have:=hv.1; simpa using this,fun i v x hv' hx=>hv.2 (i+2) v x (by simpa using hv') (by simpa using hx)⟩))
 | [],_,_,.same ..,hv=>by have:=hv.1; simp at this
 | v::vs,_,_,.same h,hv=>.cons (hv.2 0 _ _ rfl rfl) (h.prs ⟨by have:=hv.1; simpa using this,fun i v x hv' hx=>hv.2 (i+1) v x (by simpa using hv') (by simpa using hx)⟩)
theorem Subl.agg {l m:List PV} (h:Subl l m):Sub (.agg l) (.agg m):=⟨fun H v hv=>by
 obtain ⟨vs,rfl,h1⟩:=PRs.of_agg hv
 exact (h.prs h1).agg⟩
theorem Qor {H:Hp} {f:Lf} {k:Nat} {get:Nat→List Lf} (hf:f.view=some (k,0,get)) (hg:f.good) (hff:∀ q,f.full q=q:=by intro q; rfl):Rd H (.slice none 0 0) f :=
 .slf hff hf hg (Nat.le_refl _) (by unfold maxLen; omega) (fun _=>rfl) 0 0 (fun _ _=>undef) (fun h=>by omega) (fun i h=>by omega) (fun i h=>by omega) (fun i h=>by omega)
theorem wrapI (n:Int) (h:-9223372036854775808≤n∧n≤9223372036854775807):IntKind.i64.wrap n=n:=by
 simp only [IntKind.wrap,IntKind.signed,IntKind.bits]
 simp
 omega
theorem QkV {k:IntKind} {z z':Int} (h:z=z'):SubB (.f (.v (.int k z))) (.f (.v (.int k z'))):=by subst h; exact .refl _
theorem Qst {o:Nat} {k:IntKind} {l m:List Int} (h:l=m):SubB (.tl o (.is k l)) (.tl o (.is k m)):=by subst h; exact .refl _
def iN (l:List Nat):List Int:=l.map Int.ofNat
theorem QrO (l:List Nat):(iN l).length=l.length:=by simp [iN]
theorem Qsc (n:Int):IntKind.u32.wrap n=n % 4294967296:=by simp [IntKind.wrap,IntKind.bits,IntKind.signed]
def limL:Lf→Option (List Nat × Nat)
 | .lr l k=>some (l,k)
 | .zd z k=>some (digs 1000000000 z.natAbs,k)
 | .v (.slice none 0 0)=>some ([],0)
 | _=>none
theorem QoB {H:Hp} {v:Value} {f:Lf} {l:List Nat} {k:Nat} {w:World} (h:limL f=some (l,k)) (hv:Rd H v f) (hw:Fro H w):RdI w v .u32 l∧l.length≤k∧∀ x∈l,x<4294967296:=by
 unfold limL at h
 split at h
 · cases h
   have hg:=hv.good'
   exact ⟨Qiz (k:=0) hv rfl hw,hg.1,hg.2⟩
 · rename_i z k'
   cases h
   have hg:ZB z k:=hv.good'
   exact ⟨Qiz (k:=0) hv rfl hw,Qgh hg,QbN z⟩
 · cases h
   have:=hv.val rfl
   subst this
   exact ⟨⟨none,0,rfl,Nat.le_refl _,by unfold maxLen; omega,fun _=>rfl,fun i hi=>absurd hi (Nat.not_lt_zero i)⟩,Nat.le_refl _,by simp⟩
 · cases h
theorem Qlx {f:Lf} {l:List Nat} {k:Nat} (h:limL f=some (l,k)):Sub (.f f) (.f (.lr l k)):=by
 refine ⟨fun H v hv=>?_⟩
 have hr:=hv.rd
 unfold limL at h
 split at h
 · cases h; exact hv
 · rename_i z k'
   cases h
   cases hr with
   | sl hv hg hc hm h0 b o val hb hcell hk hrec=>exact .f (.sl (f:=.lr _ k) hv ⟨Qgh hg,QbN z⟩ hc hm h0 b o val hb hcell hk hrec)
 · cases h
   have:=hr.val rfl
   subst this
   exact .f (.slf (fun _=>rfl) (f:=.lr [] 0) (k:=1) (n:=0) rfl ⟨Nat.le_refl _,by simp⟩ (Nat.le_refl _) (by unfold maxLen; omega) (fun _=>rfl) 0 0 (fun _ _=>undef) (fun h=>by omega) (fun i h=>by omega) (fun i h=>by omega) (fun i h=>by omega))
 · cases h
theorem sub_zd {z:Int} {k k':Nat} (h:ZB z k'):Sub (.f (.zd z k)) (.f (.zd z k')):=⟨fun H v hv=>by
 cases hv.rd with
 | sl hv hg hc hm h0 b o val hb hcell hkk hrec=>exact .f (.sl (f:=.zd z k') hv h hc hm h0 b o val hb hcell hkk hrec)⟩
def vB (l:List Nat):Nat:=val 1000000000 l
theorem zb_vB {l:List Nat} {k:Nat} (h:∀ x∈l,x<4294967296) (hk:l.length≤k):ZB (vB l:Nat) (k+1):=by
 exact (zV_zb false l h).mono (by omega)
def lP (n k:Nat):PV:=.f (.zd (n:Int) k)
def QnQ:Spec
 | [.f x]=>match limL x with
  | some (l,k)=>some (some (k≤100000000),.nm Nat (vB l) fun n=>lP n (k+1))
  | none=>none
 | _=>none
theorem own_lP {w w':World} {H:Hp} {v:Value} {n k:Nat} {e:TypeId} (ho:Own w' w.heap.size e .u32 v (digs 1000000000 n)) (hz:ZB (n:Int) k):PR (Hall H w w') B0 v (lP n k) :=
 .f (own_rd (z:=(n:Int)) (by rw [Int.natAbs_natCast]; exact ho) hz)
theorem Qqs (l:List Nat):(l.map Int.ofNat).map Int.toNat=l:=by
 rw [List.map_map]; exact List.map_id'' (fun x=>rfl) l
theorem wU (n:Int) (h0:0≤n) (h1:n<4294967296):IntKind.u32.wrap n=n:=by rw [Qsc]; omega
theorem QjP {H:Hp} {v:Value} {f f':Lf} {k n:Nat} {get get':Nat→List Lf} (hv:f.view=some (k,n,get)) (hv':f'.view=some (k,n,get')) (hg':f'.good) (hf:f'.full n≤f.full n) (he:∀ i,i<f'.full n→get' i=get i) (h:Rd H v f):Rd H v f':=by
 cases h with
 | v=>cases hv
 | zn=>cases hv
 | sl hv2 hgd hc hm h0 b o val hb hcell hk hrec =>
  rw [hv] at hv2
  cases hv2
  exact .sl hv' hg' (by omega) hm h0 b o val (fun h=>hb (by omega)) (fun i hi=>hcell i (by omega)) (fun i hi=>by rw [he i hi]; exact hk i (by omega)) (fun i hi j x hx=>by rw [he i hi] at hx; exact hrec i (by omega) j x hx)
def Qof:Lf→Option (Prop × List Nat × Nat)
 | .lr l k=>some (True,l,k)
 | .is .u32 M=>some ((∀ x∈M,0≤x∧x<4294967296),M.map Int.toNat,M.length)
 | .sp (.is .u32 M) m=>some ((m≤M.length∧∀ x∈M.take m,0≤x∧x<4294967296),(M.take m).map Int.toNat,m)
 | _=>none
theorem QkL {M:List Int} (h:∀ x∈M,0≤x∧x<4294967296) {i:Nat} (hi:i<M.length):(((M.map Int.toNat).getD i 0:Nat):Int)=M.getD i 0:=by
 rw [List.getD_eq_getElem?_getD,List.getElem?_map,List.getD_eq_getElem?_getD,List.getElem?_eq_getElem hi]
 have:=h _ (List.getElem_mem hi)
 simp only [Option.map_some,Option.getD_some]
 omega
theorem QkK {M:List Int} (h:∀ x∈M,0≤x∧x<4294967296):∀ x∈M.map Int.toNat,x<4294967296:=by
 intro x hx
 obtain ⟨y,hy,rfl⟩:=List.mem_map.1 hx
 have:=h y hy
 omega
theorem QmB {f:Lf} {p:Prop} {l:List Nat} {k:Nat} (h:Qof f=some (p,l,k)) (hp:p):Sub (.f f) (.f (.lr l k)):=by
 unfold Qof at h
 split at h
 · cases h; exact .refl _
 · rename_i M
   cases h
   refine ⟨fun H v hv=>.f (QjP (f:=.is .u32 M) (f':=.lr (M.map Int.toNat) M.length) (k:=1) (n:=M.length) (get:=fun i=>[.v (.int .u32 (M.getD i 0))]) (get':=fun i=>[.v (.int .u32 ((M.map Int.toNat).getD i 0:Nat))]) rfl (by simp only [Lf.view,List.length_map]) ⟨by simp,QkK hp⟩ (Nat.le_refl _) (fun i hi=>?_) hv.rd)⟩
   rw [QkL hp hi]
 · rename_i M m
   cases h
   obtain ⟨h1,h2⟩:=hp
   have hl:(M.take k).length=k:=by rw [List.length_take]; omega
   refine ⟨fun H v hv=>.f (QjP (f:=.sp (.is .u32 M) k) (f':=.lr ((M.take k).map Int.toNat) k) (k:=1) (n:=k) (get:=fun i=>[.v (.int .u32 (M.getD i 0))]) (get':=fun i=>[.v (.int .u32 (((M.take k).map Int.toNat).getD i 0:Nat))]) rfl (by simp only [Lf.view,List.length_map,hl]) ⟨by rw [List.length_map,hl]; exact Nat.le_refl _,QkK h2⟩ h1 (fun i hi=>?_) hv.rd)⟩
   have hi':i<k:=hi
   rw [QkL h2 (by omega),List.getD_eq_getElem?_getD,List.getElem?_take,if_pos hi',List.getD_eq_getElem?_getD]
 · cases h
theorem Qt1 {l m:List PV} (h:Subs l m):Sub (.agg l) (.agg m):=⟨fun H v hv=>by
 obtain ⟨vs,rfl,h1⟩:=PRs.of_agg hv
 exact (h.prs h1).agg⟩
def plF (x:Lf):Prop × Lf:=match Qof x with
 | some (p,l,k)=>(p,.lr l k)
 | none=>(True,x)
def plA:List PV→Prop × List PV
 | []=>(True,[])
 | .f x::l=>((plF x).1∧(plA l).1,.f (plF x).2::(plA l).2)
 | y::l=>((plA l).1,y::(plA l).2)
def plV:PV→Prop × PV
 | .f x=>((plF x).1,.f (plF x).2)
 | .agg l=>((plA l).1,.agg (plA l).2)
 | y=>(True,y)
def plVs:List PV→Prop × List PV
 | []=>(True,[])
 | x::l=>((plV x).1∧(plVs l).1,(plV x).2::(plVs l).2)
theorem Qog {x:Lf} (h:(plF x).1):Sub (.f x) (.f (plF x).2):=by
 unfold plF at h ⊢
 split at h
 · rename_i p l k hp
   exact QmB hp h
 · exact .refl _
theorem Qa3:∀ {l:List PV},(plA l).1→Subs l (plA l).2
 | [],_=>.nil
 | .f x::l,h=>.cons (Qog h.1) (Qa3 h.2)
 | .bp ..::l,h=>.cons (.refl _) (Qa3 (l:=l) h)
 | .ep _::l,h=>.cons (.refl _) (Qa3 (l:=l) h)
 | .tl ..::l,h=>.cons (.refl _) (Qa3 (l:=l) h)
 | .wr _::l,h=>.cons (.refl _) (Qa3 (l:=l) h)
 | .wp ..::l,h=>.cons (.refl _) (Qa3 (l:=l) h)
 | .any::l,h=>.cons (.refl _) (Qa3 (l:=l) h)
 | .agg _::l,h=>.cons (.refl _) (Qa3 (l:=l) h)
 | .tup _::l,h=>.cons (.refl _) (Qa3 (l:=l) h)
 | .fn ..::l,h=>.cons (.refl _) (Qa3 (l:=l) h)
 | .ifc ..::l,h=>.cons (.refl _) (Qa3 (l:=l) h)
theorem QsW:∀ {x:PV},(plV x).1→Sub x (plV x).2
 | .f x,h=>Qog h
 | .agg l,h=>Qt1 (Qa3 h)
 | .bp ..,_=>.refl _
 | .ep _,_=>.refl _
 | .tl ..,_=>.refl _
 | .wr _,_=>.refl _
 | .wp ..,_=>.refl _
 | .any,_=>.refl _
 | .tup _,_=>.refl _
 | .fn ..,_=>.refl _
 | .ifc ..,_=>.refl _
theorem QiB:∀ {l:List PV},(plVs l).1→Subs l (plVs l).2
 | [],_=>.nil
 | x::l,h=>.cons (QsW h.1) (QiB h.2)
def Qs8 (sp:Spec):Spec:=fun xs=>match sp (plVs xs).2 with
 | some (p,r)=>some (some ((plVs xs).1∧p.getD True),r)
 | none=>none
theorem Contract.lent {P:Program} {E:Env} {f:FuncId} {sp:Spec} (h:Contract P E f sp):Contract P E f (Qs8 sp):=by
 refine h.weaken ?_
 intro xs p r hs hp
 unfold Qs8 at hs
 split at hs
 · rename_i p' r' h1
   cases hs
   obtain ⟨h2,h3⟩:=hp _ rfl
   exact ⟨_,_,_,QiB h2,h1,fun q hq=>by subst hq; exact h3,.refl _⟩
 · cases hs
end Go.Proofs.YtijfaigpilfpaaaGreatDoor
