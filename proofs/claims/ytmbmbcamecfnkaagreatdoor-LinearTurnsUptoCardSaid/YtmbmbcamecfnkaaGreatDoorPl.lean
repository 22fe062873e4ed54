/- The contracts of the layer num, as the pure run takes them. The contracts of the layer num, as the pure run takes them: the other ones. -/
import Derived.Test.YtmbmbcamecfnkaaGreatDoorEz
import Derived.Test.YtmbmbcamecfnkaaGreatDoorSm
namespace Go.Proofs.YtmbmbcamecfnkaaGreatDoor
open Go.RowKit
set_option linter.unusedVariables false
def Hall (H:Hp) (w w':World):Hp:=fun b j=>if b<w.heap.size then H b j else w'.cell? ⟨b,j,none⟩
theorem QbS {H:Hp} {w w':World} (hf:Fro H w) (hb:Below w.heap.size w w'):Ext w H w' (Hall H w w'):=by
 refine ⟨hb,fun b j v h=>?_,fun b j v h=>?_,fun b j v h1 h2=>?_⟩
 · unfold Hall; rw [if_pos (hf.lt h)]; exact h
 · unfold Hall at h
   split at h
   · rename_i hlt; exact (hb.cell (p:=⟨b,j,none⟩) hlt).trans (hf b j v h)
   · exact h
 · unfold Hall at h1
   split at h1
   · rw [h1] at h2; cases h2
   · omega
def zP (z:Int) (k:Nat):PV:=.agg [.f (.zn z),.f (.zd z k)]
theorem QaQ (z:Int):∀ x∈digs 1000000000 z.natAbs,x<4294967296:=fun x hx=>by
 have:=(QaP 1000000000 (by omega) z.natAbs).1 x hx
 omega
theorem own_rd {w w':World} {H:Hp} {v:Value} {z:Int} {k:Nat} {e:TypeId} (ho:Own w' w.heap.size e .u32 v (digs 1000000000 z.natAbs)) (hz:ZB z k):Rd (Hall H w w') v (.zd z k):=by
 obtain ⟨ao,cap,hv,hc,hm,h0,hcell⟩:=ho.rd
 subst hv
 rcases ho.2 with ⟨hn,hl⟩ | ⟨g,cap',cur,hs,hg,hh,r⟩
 · simp only [Value.slice.injEq] at hn
   obtain ⟨rfl,-,rfl⟩:=hn
   exact .slf (fun _=>rfl) (k:=1) (n:=(digs 1000000000 z.natAbs).length) (get:=fun i=>[.v (.int .u32 ((digs 1000000000 z.natAbs).getD i 0:Nat))]) rfl hz hc hm h0 0 0 (fun i j=>.int .u32 ((digs 1000000000 z.natAbs).getD i 0:Nat))
    (fun h=>by omega) (fun i hi=>by omega) (fun i hi=>rfl) (fun i hi=>by omega)
 · cases hs
   refine .slf (fun _=>rfl) (k:=1) (n:=(digs 1000000000 z.natAbs).length) (get:=fun i=>[.v (.int .u32 ((digs 1000000000 z.natAbs).getD i 0:Nat))]) rfl hz hc hm h0 g 0 (fun i j=>.int .u32 ((digs 1000000000 z.natAbs).getD i 0:Nat))
    (fun _=>rfl) (fun i hi j hj=>?_) (fun i hi=>rfl) (fun i hi j x hx=>?_)
   · obtain ⟨ad,h1,h2⟩:=hcell i hi
     cases h1
     unfold Hall
     rw [if_neg (by omega)]
     rw [QbX] at h2
     obtain rfl:j=0:=by omega
     simp only [Nat.mul_one,Nat.add_zero]
     exact h2
   · cases j with
     | zero=>simp at hx; subst hx; exact .v _ rfl
     | succ j=>simp at hx
def asR:Lf→Lf→Option ((Bool × List Nat) × Nat × Nat)
 | .zn z,.zd z' k=>some ((zNeg z,digs 1000000000 z'.natAbs),k,k)
 | .v (.bool n),.zd z' k=>some ((n,digs 1000000000 z'.natAbs),k,k)
 | .v (.bool n),.lr l k=>some ((n,l),k,k+1)
 | .v (.bool n),.v (.slice none 0 0)=>some ((n,[]),0,1)
 | _,_=>none
theorem QjF {H:Hp} {v:Value} {f:Lf} {l:List Nat} {k:Nat} (h:Rd H v f) (hf:f.view=some (1,l.length,fun i=>[.v (.int .u32 (l.getD i 0:Nat))])) {w:World} (hw:Fro H w):RdI w v .u32 l:=by
 cases h with
 | v=>cases hf
 | zn=>cases hf
 | @sl _ k n get ao cap hv hg hc hm h0 b o val hb hcell hk hrec =>
  rw [hv] at hf
  simp only [Option.some.injEq,Prod.mk.injEq] at hf
  obtain ⟨rfl,rfl,rfl⟩:=hf
  have hfl:=Lf.full_le hv hg
  replace hc:=Nat.le_trans hfl hc
  refine ⟨ao,cap,rfl,hc,hm,h0,fun i hi=>⟨⟨b,o,none⟩,hb (by omega),?_⟩⟩
  have h1:=hcell i (by omega) 0 (by omega)
  have h2:=(hrec i (by omega) 0 _ rfl).val rfl
  rw [h2] at h1
  have h3:=hw _ _ _ h1
  rw [QbX]
  simpa [dg] using h3
theorem Qfp {z:Int} {k:Nat} (h:ZB z k):(digs 1000000000 z.natAbs).length≤k:=h.len
theorem Qdr {H:Hp} {v:Value} {f:Lf} (h:Rd H v f) (hf:f.view≠none):f.good:=by
 cases h with
 | v=>exact absurd rfl hf
 | zn=>exact absurd rfl hf
 | sl hv hg=>exact hg
theorem asR_iv {H:Hp} {x y:Value} {f g:Lf} {n:Bool} {l:List Nat} {k j:Nat} {w:World} (h:asR f g=some ((n,l),k,j)) (hx:Rd H x f) (hy:Rd H y g) (hw:Fro H w) :
  IV w (.agg #[x,y]) n l∧l.length≤k∧ZB (zV n l) j:=by
 unfold asR at h
 split at h
 · rename_i z z' k'
   cases h
   have h1:=hx.val rfl
   subst h1
   have hz:ZB z' k:=Qdr hy (by simp [Lf.view])
   refine ⟨⟨y,rfl,QjF (k:=0) hy rfl hw,QaQ z'⟩,Qfp hz,?_⟩
   unfold ZB zV; rw [Qbn,Qah _ (by omega)]; exact hz
 · rename_i n' z' k'
   cases h
   have h1:=hx.val rfl
   subst h1
   have hz:ZB z' k:=Qdr hy (by simp [Lf.view])
   refine ⟨⟨y,rfl,QjF (k:=0) hy rfl hw,QaQ z'⟩,Qfp hz,?_⟩
   unfold ZB zV; rw [Qbn,Qah _ (by omega)]; exact hz
 · rename_i n' l' k'
   cases h
   have h1:=hx.val rfl
   subst h1
   obtain ⟨h2,h3⟩:l.length≤k∧∀ x∈l,x<4294967296:=Qdr hy (by simp [Lf.view])
   exact ⟨⟨y,rfl,QjF (k:=0) hy rfl hw,h3⟩,h2,(Qge n l h3).mono (by omega)⟩
 · rename_i n'
   cases h
   have h1:=hx.val rfl
   have h2:=hy.val rfl
   subst h1 h2
   exact ⟨⟨_,rfl,⟨none,0,rfl,by simp,by unfold maxLen; omega,fun _=>rfl,fun i hi=>by simp at hi⟩,by simp⟩,by simp,by cases n <;> (unfold ZB; decide)⟩
 · cases h
theorem agg2 {H:Hp} {B:Hd} {v:Value} {f g:Lf} (h:PR H B v (.agg [.f f,.f g])):∃ x y,v=.agg #[x,y]∧Rd H x f∧Rd H y g:=by
 obtain ⟨vs,rfl,h1⟩:=PRs.of_agg h
 obtain ⟨x,y,rfl⟩:∃ x y,vs=[x,y]:=by
  have:=h1.1
  match vs,this with
  | [x,y],_=>exact ⟨x,y,rfl⟩
 exact ⟨x,y,rfl,(h1.2 0 x _ rfl rfl).rd,(h1.2 1 y _ rfl rfl).rd⟩
theorem QcT {H:Hp} {B:Hd} {vs:List Value} {x:PV} (h:PRs H B vs [x]):∃ v,vs=[v]∧PR H B v x:=by
 have:=h.1
 match vs,this with
 | [v],_=>exact ⟨v,rfl,h.2 0 v x rfl rfl⟩
theorem QfL {H:Hp} {B:Hd} {vs:List Value} {x y:PV} (h:PRs H B vs [x,y]):∃ u v,vs=[u,v]∧PR H B u x∧PR H B v y:=by
 have:=h.1
 match vs,this with
 | [u,v],_=>exact ⟨u,v,rfl,h.2 0 u x rfl rfl,h.2 1 v y rfl rfl⟩
def QgA:List (List Lf)→Option (List ((Bool × List Nat) × Nat × Nat))
 | []=>some []
 | [f,g]::L=>match asR f g,QgA L with
  | some x,some l=>some (x::l)
  | _,_=>none
 | _::_=>none
def QbC:Lf→Option (List ((Bool × List Nat) × Nat × Nat))
 | .row 2 L=>QgA L
 | .zs L=>some (L.map fun e=>((e.1,e.2.1),e.2.2,e.2.2+1))
 | .v (.slice none 0 0)=>some []
 | _=>none
def Qd6 (L:List (Bool × List Nat × Nat)):List (List Lf):=L.map fun e=>[.v (.bool e.1),.lr e.2.1 e.2.2]
theorem Qmd:∀ L:List (Bool × List Nat × Nat),QgA (Qd6 L)=some (L.map fun e=>((e.1,e.2.1),e.2.2,e.2.2+1))
 | []=>rfl
 | e::L=>by
  have:=Qmd L
  unfold Qd6 at this ⊢
  simp only [List.map_cons,QgA,asR,this]
def sumR:List ((Bool × List Nat) × Nat × Nat)→Int→Int
 | [],a=>a
 | x::l,a=>sumR l (a+zV x.1.1 x.1.2)
def Qbo:List ((Bool × List Nat) × Nat × Nat)→Int→Int
 | [],a=>a
 | x::l,a=>Qbo l (a * zV x.1.1 x.1.2)
def gcdR:List ((Bool × List Nat) × Nat × Nat)→Int→Int
 | [],a=>a
 | x::l,a=>gcdR l (gcd2 a (zV x.1.1 x.1.2))
def Qb0:List ((Bool × List Nat) × Nat × Nat)→Nat
 | []=>0
 | x::l=>x.2.1+2+Qb0 l
def bndS:List ((Bool × List Nat) × Nat × Nat)→Nat→Nat
 | [],k=>k
 | x::l,k=>bndS l (k+x.2.2+1)
def bndP:List ((Bool × List Nat) × Nat × Nat)→Nat→Nat
 | [],k=>k
 | x::l,k=>bndP l (k+x.2.2)
theorem QfR:∀ {L:List (List Lf)} {l:List ((Bool × List Nat) × Nat × Nat)},QgA L=some l→l.length=L.length∧∀ (i:Nat) x,l[i]?=some x→∃ f g,L[i]?=some [f,g]∧asR f g=some x
 | [],l,h=>by simp only [QgA,Option.some.injEq] at h; subst h; simp
 | [f,g]::L,l,h=>by
  simp only [QgA] at h
  split at h
  · rename_i x l' hx hl
    cases h
    obtain ⟨h1,h2⟩:=QfR hl
    refine ⟨by simp [h1],fun i y hy=>?_⟩
    cases i with
    | zero=>simp at hy; subst hy; exact ⟨f,g,rfl,hx⟩
    | succ i=>obtain ⟨f',g',h3,h4⟩:=h2 i y (by simpa using hy); exact ⟨f',g',by simpa using h3,h4⟩
  · cases h
 | []::L,l,h=>by simp [QgA] at h
 | [_]::L,l,h=>by simp [QgA] at h
 | (_::_::_::_)::L,l,h=>by simp [QgA] at h
theorem Qkw:∀ (l:List ((Bool × List Nat) × Nat × Nat)) (a:Int),sumR l a=l.foldl (fun a x=>a+zV x.1.1 x.1.2) a
 | [],a=>rfl
 | x::l,a=>Qkw l _
theorem Qiv:∀ (l:List ((Bool × List Nat) × Nat × Nat)) (a:Int),Qbo l a=l.foldl (fun a x=>a * zV x.1.1 x.1.2) a
 | [],a=>rfl
 | x::l,a=>Qiv l _
theorem Qlh:∀ (l:List ((Bool × List Nat) × Nat × Nat)) (a:Int),gcdR l a=l.foldl (fun a x=>gcd2 a (zV x.1.1 x.1.2)) a
 | [],a=>rfl
 | x::l,a=>Qlh l _
theorem Qkv:∀ (l:List ((Bool × List Nat) × Nat × Nat)) (a:Int) (k:Nat),ZB a k→(∀ x∈l,ZB (zV x.1.1 x.1.2) x.2.2)→ZB (sumR l a) (bndS l k)
 | [],a,k,h,_=>h
 | x::l,a,k,h,hl=>Qkv l _ _ (h.add (hl x List.mem_cons_self)) (fun y hy=>hl y (List.mem_cons_of_mem _ hy))
theorem QfV:∀ (l:List ((Bool × List Nat) × Nat × Nat)) (a:Int) (k:Nat),ZB a k→(∀ x∈l,ZB (zV x.1.1 x.1.2) x.2.2)→ZB (Qbo l a) (bndP l k)
 | [],a,k,h,_=>h
 | x::l,a,k,h,hl=>QfV l _ _ (h.mul (hl x List.mem_cons_self)) (fun y hy=>hl y (List.mem_cons_of_mem _ hy))
theorem QiP:∀ (l:List ((Bool × List Nat) × Nat × Nat)) (a:Int) (k:Nat),ZB a k→(∀ x∈l,ZB (zV x.1.1 x.1.2) x.2.2)→ZB (gcdR l a) (bndS l k)
 | [],a,k,h,_=>h
 | x::l,a,k,h,hl=>QiP l _ _ (Qs4 h (hl x List.mem_cons_self)) (fun y hy=>hl y (List.mem_cons_of_mem _ hy))
def sAdd:Spec
 | [.f y]=>match QbC y with
  | some l=>some (some (Qb0 l≤2000000),.nm Int (sumR l 0) fun z=>zP z (bndS l 0))
  | none=>none
 | _=>none
def sMul:Spec
 | [.f y]=>match QbC y with
  | some l=>some (some (Qb0 l≤2000000),.nm Int (Qbo l 1) fun z=>zP z (bndP l 1))
  | none=>none
 | _=>none
def sGcd:Spec
 | [.f y]=>match QbC y with
  | some l=>some (some (Qb0 l≤2000000),.nm Int (gcdR l 0) fun z=>zP z (bndS l 0))
  | none=>none
 | _=>none
end Go.Proofs.YtmbmbcamecfnkaaGreatDoor
namespace Go.Proofs.YtmbmbcamecfnkaaGreatDoor
open Go.RowKit
set_option linter.unusedVariables false
def pvR:PV→Option ((Bool × List Nat) × Nat × Nat)
 | .agg [.f a,.f b]=>asR a b
 | _=>none
theorem Qst {H:Hp} {B:Hd} {v:Value} {x:PV} {n:Bool} {l:List Nat} {k j:Nat} {w:World} (h:pvR x=some ((n,l),k,j)) (hv:PR H B v x) (hw:Fro H w):IV w v n l∧l.length≤k∧ZB (zV n l) j:=by
 unfold pvR at h
 split at h
 · obtain ⟨p,q,rfl,h1,h2⟩:=agg2 hv
   exact asR_iv h h1 h2 hw
 · cases h
def rawP (n:Bool) (l:List Nat) (k:Nat):PV:=.agg [.f (.v (.bool n)),.f (.lr l k)]
theorem QgJ {H:Hp} {x y:Value} {f g:Lf} {n:Bool} {l:List Nat} {k j:Nat} (h:asR f g=some ((n,l),k,j)) (hx:Rd H x f) (hy:Rd H y g):Rd H x (.v (.bool n))∧Rd H y (.lr l k):=by
 unfold asR at h
 split at h
 · rename_i z z' k'
   cases h
   have h1:=hx.val rfl
   subst h1
   have hz:ZB z' k:=Qdr hy (by simp [Lf.view])
   refine ⟨.v _ rfl,?_⟩
   cases hy with
   | sl hv hg hc hm h0 b o val hb hcell hk hrec=>exact .sl (f:=.lr _ k) hv ⟨Qfp hz,QaQ z'⟩ hc hm h0 b o val hb hcell hk hrec
 · rename_i n' z' k'
   cases h
   have h1:=hx.val rfl
   subst h1
   have hz:ZB z' k:=Qdr hy (by simp [Lf.view])
   refine ⟨.v _ rfl,?_⟩
   cases hy with
   | sl hv hg hc hm h0 b o val hb hcell hk hrec=>exact .sl (f:=.lr _ k) hv ⟨Qfp hz,QaQ z'⟩ hc hm h0 b o val hb hcell hk hrec
 · rename_i n' l' k'
   cases h
   exact ⟨hx,hy⟩
 · rename_i n'
   cases h
   have h2:=hy.val rfl
   subst h2
   exact ⟨hx,.slf (fun _=>rfl) (f:=.lr [] 0) (k:=1) (n:=0) rfl ⟨Nat.le_refl _,by simp⟩ (Nat.le_refl _) (by unfold maxLen; omega) (fun _=>rfl) 0 0 (fun _ _=>undef) (fun h=>by omega) (fun i h=>by omega) (fun i h=>by omega) (fun i h=>by omega)⟩
 · cases h
theorem QaG {x:PV} {n:Bool} {l:List Nat} {k j:Nat} (h:pvR x=some ((n,l),k,j)):Sub x (rawP n l k):=by
 refine ⟨fun H v hv=>?_⟩
 unfold pvR at h
 split at h
 · obtain ⟨p,q,rfl,h1,h2⟩:=agg2 hv
   obtain ⟨h3,h4⟩:=QgJ h h1 h2
   have:=(PRs.cons (H:=H) (B:=B0) (.f h3) (.cons (.f h4) .nil)).agg
   simpa [rawP] using this
 · cases h
def sNeg:Spec
 | [x]=>match pvR x with
  | some ((n,l),k,j)=>some (some (k≤10000000),.nm Int (-(zV n l)) fun z=>zP z j)
  | none=>none
 | _=>none
def sCmp:Spec
 | [x,y]=>match pvR x,pvR y with
  | some ((n,l),k,_),some ((n',l'),k',_)=>some (some (k+k'≤9000000),.one (.f (.v (.int .i64 (cmpI (zV n l) (zV n' l'))))))
  | _,_=>none
 | _=>none
def sOf:Spec
 | [.f (.v (.int .i64 n))]=>some (some (-9223372036854775808≤n∧n≤9223372036854775807),.nm Int n fun z=>zP z 3)
 | _=>none
def Qgw:Spec
 | [x]=>match pvR x with
  | some ((n,l),k,_)=>some (some (k≤100000000),.one (.f (.v (.bool (Qak n l)))))
  | none=>none
 | _=>none
def sDiv:Spec
 | [x,y]=>match pvR x,pvR y with
  | some ((n,l),k,j),some ((n',l'),k',j')=>some (some (k+2 * k'≤4400000∧zV n' l'≠0),.nm2 Int Int (Int.fdiv (zV n l) (zV n' l')) (Int.fmod (zV n l) (zV n' l')) fun q r=>.tup [zP q (j+1),zP r j',.f (.v (.int .i64 0))])
  | _,_=>none
 | _=>none
def Qra:Spec
 | [x]=>match pvR x with
  | some ((n,l),k,_)=>some (some (k≤9000000),.one (.f (.v (.string ⟨(QbQ (zV n l)).toArray⟩))))
  | none=>none
 | _=>none
def Qpe:Spec
 | [x,y]=>match pvR x,pvR y with
  | some ((n,l),k,_),some ((n',l'),k',_)=>some (some (k+k'≤90000000),.one (.f (.v (.bool ((n==n') && eqB l l')))))
  | _,_=>none
 | _=>none
section
variable {E : Env}
theorem Quv:Contract Tryz.prog E 78 Qpe:=by
 intro xs p r hs hp w H vs hf hE hvs
 unfold Qpe at hs
 split at hs
 · rename_i x y
   split at hs
   · rename_i n l k j n' l' k' j' hx hy
     cases hs
     have hb:=hp _ rfl
     obtain ⟨u,v,rfl,hu,hv⟩:=QfL hvs
     obtain ⟨h1,h2,h3⟩:=Qst hx hu hf
     obtain ⟨h4,h5,h6⟩:=Qst hy hv hf
     refine (QkD u v n n' l l' w h1 h4 (by omega)).mono ?_
     rintro e w' ⟨rfl,hbl⟩
     exact ⟨H,_,rfl,Ext.below hf hbl,.f (.v _ rfl)⟩
   · cases hs
 · cases hs
end
set_option maxRecDepth 100000
theorem QbZ {a b:Bool} (h:a=b):Sub (.f (.v (.bool a))) (.f (.v (.bool b))):=by subst h; exact .refl _
theorem Qkq {H:Hp} {v:Value} {z:Int} {k k':Nat} (h:Rd H v (.zd z k)) (hk:k≤k'):Rd H v (.zd z k'):=by
 have hz:ZB z k:=Qdr h (by simp [Lf.view])
 cases h with
 | sl hv hg hc hm h0 b o val hb hcell hkk hrec=>exact .sl (f:=.zd z k') hv (hz.mono hk) hc hm h0 b o val hb hcell hkk hrec
inductive Subl:List PV→List PV→Prop
 | nil:Subl [] []
 | zd {z z':Int} {k k':Nat} {l m:List PV} (hz:z=z') (hk:k≤k') (h:Subl l m):Subl (.f (.zn z)::.f (.zd z k)::l) (.f (.zn z')::.f (.zd z' k')::m)
 | zero {z:Int} {k:Nat} {l m:List PV} (hz:z=0) (h:Subl l m):Subl (.f (.v (.bool false))::.f (.v (.slice none 0 0))::l) (.f (.zn z)::.f (.zd z k)::m)
 | same {x:PV} {l m:List PV} (h:Subl l m):Subl (x::l) (x::m)
theorem Subl.prs {H:Hp}:∀ {vs:List Value} {l m:List PV},Subl l m→PRs H B0 vs l→PRs H B0 vs m
 | vs,_,_,.nil,h=>h
 | [],_,_,.zd ..,hv=>by have:=hv.1; simp at this
 | [_],_,_,.zd ..,hv=>by have:=hv.1; simp at this
 | u::v::vs,_,_,.zd hz hk h,hv=>by
  subst hz
  have h0:=hv.2 0 _ _ rfl rfl
  have h1:=(hv.2 1 _ _ rfl rfl).rd
  exact .cons h0 (.cons (.f (Qkq h1 hk)) (h.prs ⟨by have:=hv.1; simpa using this,fun i v x hv' hx=>hv.2 (i+2) v x (by simpa using hv') (by simpa using hx)⟩))
 | [],_,_,.zero ..,hv=>by have:=hv.1; simp at this
 | [_],_,_,.zero ..,hv=>by have:=hv.1; simp at this
 | u::v::vs,_,_,.zero (k:=k) hz h,hv=>by
  subst hz
  have h0:=(hv.2 0 _ _ rfl rfl).val
  have h1:=(hv.2 1 _ _ rfl rfl).val
  subst h0 h1
  refine .cons (.f (.zn 0)) (.cons (.f (.slf (fun _=>rfl) (f:=.zd 0 k) (k:=1) (n:=0) (get:=fun i=>[.v (.int .u32 ((digs 1000000000 (0:Int).natAbs).getD i 0:Nat))]) (by simp [Lf.view,Qav]) (ZB.zero k) (Nat.le_refl _) (by unfold maxLen; omega) (fun _=>rfl) 0 0 (fun _ _=>undef) (fun h=>by omega) (fun i h=>by omega) (fun i h=>by omega) (fun i h=>by omega))) (h.prs ⟨by have:=hv.1; simpa using this,fun i v x hv' hx=>hv.2 (i+2) v x (by simpa using hv') (by simpa using hx)⟩))
 | [],_,_,.same ..,hv=>by have:=hv.1; simp at this
 | v::vs,_,_,.same h,hv=>.cons (hv.2 0 _ _ rfl rfl) (h.prs ⟨by have:=hv.1; simpa using this,fun i v x hv' hx=>hv.2 (i+1) v x (by simpa using hv') (by simpa using hx)⟩)
theorem Subl.agg {l m:List PV} (h:Subl l m):Sub (.agg l) (.agg m):=⟨fun H v hv=>by
 obtain ⟨vs,rfl,h1⟩:=PRs.of_agg hv
 exact (h.prs h1).agg⟩
theorem QgQ {H:Hp} {f:Lf} {k:Nat} {get:Nat→List Lf} (hf:f.view=some (k,0,get)) (hg:f.good) (hff:∀ q,f.full q=q:=by intro q; rfl):Rd H (.slice none 0 0) f :=
 .slf hff hf hg (Nat.le_refl _) (by unfold maxLen; omega) (fun _=>rfl) 0 0 (fun _ _=>undef) (fun h=>by omega) (fun i h=>by omega) (fun i h=>by omega) (fun i h=>by omega)
theorem Qjc (n:Int) (h:-9223372036854775808≤n∧n≤9223372036854775807):IntKind.i64.wrap n=n:=by
 simp only [IntKind.wrap,IntKind.signed,IntKind.bits]
 simp
 omega
theorem QaN {k:IntKind} {z z':Int} (h:z=z'):SubB (.f (.v (.int k z))) (.f (.v (.int k z'))):=by subst h; exact .refl _
theorem QoY {o:Nat} {k:IntKind} {l m:List Int} (h:l=m):SubB (.tl o (.is k l)) (.tl o (.is k m)):=by subst h; exact .refl _
theorem QoV {k:IntKind} {x y:Int} (h:x=y):Sub (.f (.v (.int k x))) (.f (.v (.int k y))):=by subst h; exact .refl _
def iN (l:List Nat):List Int:=l.map Int.ofNat
theorem Qa1 (l:List Nat):(iN l).length=l.length:=by simp [iN]
theorem Qdk {i:Nat} (h:i≤1000000000):SubB (.f (.v (.int .i64 (IntKind.i64.wrap ((i:Int)+1))))) (.f (.v (.int .i64 ((i+1:Nat):Int)))):=QaN (by rw [Qjc _ ⟨by omega,by omega⟩]; omega)
theorem Qs6 (n:Int):IntKind.u32.wrap n=n % 4294967296:=by simp [IntKind.wrap,IntKind.bits,IntKind.signed]
def limL:Lf→Option (List Nat × Nat)
 | .lr l k=>some (l,k)
 | .zd z k=>some (digs 1000000000 z.natAbs,k)
 | .v (.slice none 0 0)=>some ([],0)
 | _=>none
theorem Qca {H:Hp} {v:Value} {f:Lf} {l:List Nat} {k:Nat} {w:World} (h:limL f=some (l,k)) (hv:Rd H v f) (hw:Fro H w):RdI w v .u32 l∧l.length≤k∧∀ x∈l,x<4294967296:=by
 unfold limL at h
 split at h
 · cases h
   have hg:=hv.good'
   exact ⟨QjF (k:=0) hv rfl hw,hg.1,hg.2⟩
 · rename_i z k'
   cases h
   have hg:ZB z k:=hv.good'
   exact ⟨QjF (k:=0) hv rfl hw,Qfp hg,QaQ z⟩
 · cases h
   have:=hv.val rfl
   subst this
   exact ⟨⟨none,0,rfl,Nat.le_refl _,by unfold maxLen; omega,fun _=>rfl,fun i hi=>absurd hi (Nat.not_lt_zero i)⟩,Nat.le_refl _,by simp⟩
 · cases h
theorem Qbu {f:Lf} {l:List Nat} {k:Nat} (h:limL f=some (l,k)):Sub (.f f) (.f (.lr l k)):=by
 refine ⟨fun H v hv=>?_⟩
 have hr:=hv.rd
 unfold limL at h
 split at h
 · cases h; exact hv
 · rename_i z k'
   cases h
   cases hr with
   | sl hv hg hc hm h0 b o val hb hcell hk hrec=>exact .f (.sl (f:=.lr _ k) hv ⟨Qfp hg,QaQ z⟩ hc hm h0 b o val hb hcell hk hrec)
 · cases h
   have:=hr.val rfl
   subst this
   exact .f (.slf (fun _=>rfl) (f:=.lr [] 0) (k:=1) (n:=0) rfl ⟨Nat.le_refl _,by simp⟩ (Nat.le_refl _) (by unfold maxLen; omega) (fun _=>rfl) 0 0 (fun _ _=>undef) (fun h=>by omega) (fun i h=>by omega) (fun i h=>by omega) (fun i h=>by omega))
 · cases h
theorem Qgl {z:Int} {k k':Nat} (h:ZB z k'):Sub (.f (.zd z k)) (.f (.zd z k')):=⟨fun H v hv=>by
 cases hv.rd with
 | sl hv hg hc hm h0 b o val hb hcell hkk hrec=>exact .f (.sl (f:=.zd z k') hv h hc hm h0 b o val hb hcell hkk hrec)⟩
def vB (l:List Nat):Nat:=val 1000000000 l
theorem QfF {l:List Nat} {k:Nat} (h:∀ x∈l,x<4294967296) (hk:l.length≤k):ZB (vB l:Nat) (k+1):=by
 exact (Qge false l h).mono (by omega)
def lP (n k:Nat):PV:=.f (.zd (n:Int) k)
def Qpa:Spec
 | [.f x]=>match limL x with
  | some (l,k)=>some (some (k≤100000000),.nm Nat (vB l) fun n=>lP n (k+1))
  | none=>none
 | _=>none
def QgB:List (List Lf)→Option (List (List Nat × Nat))
 | []=>some []
 | [x]::r=>match limL x,QgB r with
  | some y,some l=>some (y::l)
  | _,_=>none
 | _::_=>none
def Qgk:List (List Nat × Nat)→Nat→Nat
 | [],a=>a
 | x::l,a=>Qgk l (a+vB x.1)
def QeC:List (List Nat × Nat)→Nat→Nat
 | [],a=>a
 | x::l,a=>QeC l (a * vB x.1)
def Qa3:List (List Nat × Nat)→Nat
 | []=>0
 | x::l=>2 * x.2+2+Qa3 l
def Qre:Spec
 | [.f (.row 1 R)]=>match QgB R with
  | some l=>some (some (Qa3 l≤10000000),.nm Nat (Qgk l 0) fun n=>lP n (Qa3 l))
  | none=>none
 | _=>none
def Qtw:Spec
 | [.f (.row 1 R)]=>match QgB R with
  | some l=>some (some (Qa3 l≤10000000),.nm Nat (QeC l 1) fun n=>lP n (Qa3 l+1))
  | none=>none
 | _=>none
theorem QeD {w w':World} {H:Hp} {v:Value} {n k:Nat} {e:TypeId} (ho:Own w' w.heap.size e .u32 v (digs 1000000000 n)) (hz:ZB (n:Int) k):PR (Hall H w w') B0 v (lP n k) :=
 .f (own_rd (z:=(n:Int)) (by rw [Int.natAbs_natCast]; exact ho) hz)
theorem Qmf:∀ {R:List (List Lf)} {l:List (List Nat × Nat)},QgB R=some l→l.length=R.length∧∀ (i:Nat) (y:List Nat × Nat),l[i]?=some y→∃ x,R[i]?=some [x]∧limL x=some y
 | [],l,h=>by simp only [QgB,Option.some.injEq] at h; subst h; exact ⟨rfl,fun i y hy=>by simp at hy⟩
 | [x]::R,l,h=>by
  simp only [QgB] at h
  split at h
  · rename_i y l' hy hl
    cases h
    obtain ⟨h1,h2⟩:=Qmf hl
    refine ⟨by simp [h1],fun i z hz=>?_⟩
    cases i with
    | zero=>cases hz; exact ⟨x,rfl,hy⟩
    | succ i=>exact h2 i z hz
  · cases h
 | []::R,l,h=>by simp [QgB] at h
 | (_::_::_)::R,l,h=>by simp [QgB] at h
theorem QfS {H:Hp} {v:Value} {R:List (List Lf)} {l:List (List Nat × Nat)} {w:World} (h:QgB R=some l) (hv:Rd H v (.row 1 R)) (hw:Fro H w):Qeg w v .u32 (l.map (·.1))∧(∀ x∈l,x.1.length≤x.2)∧∀ x∈l,∀ y∈x.1,y<4294967296:=by
 obtain ⟨h1,h2⟩:=Qmf h
 obtain ⟨ao,cap,vv,rfl,h3,h4,h5,h6,b,o,h7,h8⟩:=Qfy hv rfl
 have hm:cap≤maxLen:=by
  cases hv with
  | sl hv hg hc hm=>exact hm
 have key:∀ i y,l[i]?=some y→∃ u,w.cell? ⟨b,o+i,none⟩=some u∧RdI w u .u32 y.1∧y.1.length≤y.2∧∀ z∈y.1,z<4294967296:=by
  intro i y hy
  obtain ⟨x,h9,h10⟩:=h2 i y hy
  have hi:i<R.length:=(List.getElem?_eq_some_iff.1 h9).1
  have h11:=h8 i (by omega)
  rw [QcH (by omega),Nat.div_one,Nat.mod_one] at h11
  have hget:R.getD i []=[x]:=by rw [List.getD_eq_getElem?_getD,h9]; rfl
  have h12:=h6 i hi 0 x (by rw [hget]; rfl)
  exact ⟨_,hw _ _ _ h11,Qca h10 h12 hw⟩
 have kmem:∀ y∈l,y.1.length≤y.2∧∀ z∈y.1,z<4294967296:=by
  intro y hy
  obtain ⟨i,hi,rfl⟩:=List.getElem_of_mem hy
  obtain ⟨u,_,_,h9⟩:=key i _ (List.getElem?_eq_getElem hi)
  exact h9
 refine ⟨⟨ao,cap,by simp [h1],by simp [h1]; exact h3,hm,fun i hi=>?_⟩,fun y hy=>(kmem y hy).1,fun y hy=>(kmem y hy).2⟩
 rw [List.length_map] at hi
 obtain ⟨u,h9,h10,_⟩:=key i _ (List.getElem?_eq_getElem hi)
 refine ⟨⟨b,o,none⟩,u,h7 (by omega),by rw [QbX]; exact h9,?_⟩
 have:Qbi (l.map (·.1)) i=(l[i]).1:=by
  unfold Qbi
  rw [List.getD_eq_getElem?_getD,List.getElem?_map,List.getElem?_eq_getElem hi]; rfl
 rw [this]; exact h10
theorem Qdl:∀ {l:List (List Nat × Nat)},(∀ x∈l,x.1.length≤x.2)→wgt (l.map (·.1))≤Qa3 l
 | [],_=>Nat.le_refl _
 | x::l,h=>by
  have h1:=Qdl (l:=l) fun y hy=>h y (List.mem_cons_of_mem _ hy)
  have h2:=h x List.mem_cons_self
  simp only [List.map_cons,wgt,Qa3]
  omega
theorem Qky:∀ (l:List (List Nat × Nat)) (a:Nat),(l.map (·.1)).foldl (fun n a=>n+val 1000000000 a) a=Qgk l a
 | [],a=>rfl
 | x::l,a=>Qky l _
theorem Qix:∀ (l:List (List Nat × Nat)) (a:Nat),(l.map (·.1)).foldl (fun n a=>n * val 1000000000 a) a=QeC l a
 | [],a=>rfl
 | x::l,a=>Qix l _
theorem Qkx:∀ (l:List (List Nat × Nat)) (a k:Nat),ZB (a:Int) k→(∀ x∈l,ZB (vB x.1:Nat) (x.2+1))→ZB (Qgk l a:Nat) (k+Qa3 l)
 | [],a,k,h,_=>h
 | x::l,a,k,h,hl=>by
  have h1:ZB ((a+vB x.1:Nat):Int) (k+(x.2+1)+1):=by
   have:=h.add (hl x List.mem_cons_self)
   rw [Int.natCast_add]
   exact this.mono (by omega)
  have h2:=Qkx l _ _ h1 fun y hy=>hl y (List.mem_cons_of_mem _ hy)
  exact h2.mono (by simp only [Qa3]; omega)
theorem Qiw:∀ (l:List (List Nat × Nat)) (a k:Nat),ZB (a:Int) k→(∀ x∈l,ZB (vB x.1:Nat) (x.2+1))→ZB (QeC l a:Nat) (k+Qa3 l)
 | [],a,k,h,_=>h
 | x::l,a,k,h,hl=>by
  have h1:ZB ((a * vB x.1:Nat):Int) (k+(x.2+1)):=by
   rw [Int.natCast_mul]
   exact h.mul (hl x List.mem_cons_self)
  have h2:=Qiw l _ _ h1 fun y hy=>hl y (List.mem_cons_of_mem _ hy)
  exact h2.mono (by simp only [Qa3]; omega)
def Qrb:Spec
 | [.f x,.f y]=>match limL x,limL y with
  | some (l,k),some (m,j)=>some (some (k≤10000000∧j≤10000000),.nm Nat (vB l - vB m) fun d=>.tup [lP d (k+1),.f (.v (.bool (decide (vB m≤vB l))))])
  | _,_=>none
 | _=>none
def Qrd:Spec
 | [.f x,.f y]=>match limL x,limL y with
  | some (l,k),some (m,j)=>some (some (k≤10000000∧j≤10000000∧vB m≠0),.nm2 Nat Nat (vB l / vB m) (vB l % vB m) fun q r=>.tup [lP q (k+1),lP r (j+1),.f (.v (.bool true))])
  | _,_=>none
 | _=>none
theorem Qh9 {l m:List PV} (h:Subs l m):Sub (.tup l) (.tup m):=⟨fun H v hv=>by
 obtain ⟨vs,rfl,h1⟩:=PRs.of_tup hv
 have h2:=h.prs h1
 exact .tup (by simpa using h2.1) fun i v x hv hx=>h2.2 i v x (by simpa using hv) hx⟩
theorem ZB.leN {n m k:Nat} (h:ZB (n:Int) k) (hm:m≤n):ZB (m:Int) k:=by
 unfold ZB at *
 rw [Int.natAbs_natCast] at *
 omega
theorem QfN (k:Nat):Sub (.f (.v (.slice none 0 0))) (.f (.zd ((0:Nat):Int) k)):=⟨fun H v hv=>by
 have:=hv.rd.val rfl
 subst this
 exact .f (QgQ (f:=.zd 0 k) (k:=1) (get:=fun i=>[.v (.int .u32 ((digs 1000000000 (0:Int).natAbs).getD i 0:Nat))]) (by simp [Lf.view,Qav]) (ZB.zero k))⟩
theorem Qea (neg:Bool) (n:Nat):zV neg (digs 1000000000 n)=zOf neg n:=by unfold zV; rw [Qah _ (by omega)]
theorem Qcl {z:Int} {k k':Nat} (h:ZB z k'):Sub (zP z k) (zP z k'):=⟨fun H v hv=>by
 obtain ⟨vs,rfl,h1⟩:=PRs.of_agg hv
 obtain ⟨p,q,rfl⟩:∃ p q,vs=[p,q]:=by
  have:=h1.1
  match vs,this with
  | [p,q],_=>exact ⟨p,q,rfl⟩
 have h2:=(Qgl (k:=k) h).out H q ((h1.2 1 _ _ rfl rfl))
 exact (PRs.cons (h1.2 0 _ _ rfl rfl) (.cons h2 .nil)).agg⟩
theorem Qnh {f g:Lf} {n:Bool} {l:List Nat} {k j:Nat} (h:asR f g=some ((n,l),k,j)) (hf:f.good) (hg:g.good):l.length≤k∧(∀ y∈l,y<4294967296)∧ZB (zV n l) j:=by
 unfold asR at h
 split at h
 · rename_i z z' k'
   cases h
   refine ⟨Qfp hg,QaQ z',?_⟩
   rw [Qea]
   replace hg:ZB z' k:=hg
   unfold ZB at hg ⊢
   rw [Qbn]; exact hg
 · rename_i n' z' k'
   cases h
   refine ⟨Qfp hg,QaQ z',?_⟩
   rw [Qea]
   replace hg:ZB z' k:=hg
   unfold ZB at hg ⊢
   rw [Qbn]; exact hg
 · rename_i n' l' k'
   cases h
   exact ⟨hg.1,hg.2,(Qge n l hg.2).mono (by have:=hg.1; omega)⟩
 · cases h
   exact ⟨Nat.le_refl _,by simp,by cases n <;> (unfold ZB; decide)⟩
 · cases h
theorem Qbs {x:PV} {n:Bool} {l:List Nat} {k j:Nat} (h:pvR x=some ((n,l),k,j)) (hg:QrL x):l.length≤k∧(∀ y∈l,y<4294967296)∧ZB (zV n l) j:=by
 unfold pvR at h
 split at h
 · exact Qnh h hg.1.1 hg.2.1.1
 · cases h
theorem QnG {R:List (List Lf)} {l:List ((Bool × List Nat) × Nat × Nat)} (h:QgA R=some l) (hg:(Lf.row 2 R).deep):∀ x∈l,x.1.2.length≤x.2.1∧(∀ y∈x.1.2,y<4294967296)∧ZB (zV x.1.1 x.1.2) x.2.2:=by
 obtain ⟨h1,h2⟩:=QfR h
 intro x hx
 obtain ⟨i,hi,rfl⟩:=List.getElem_of_mem hx
 obtain ⟨f,g,h3,h4⟩:=h2 i _ (List.getElem?_eq_getElem hi)
 have hil:i<R.length:=(List.getElem?_eq_some_iff.1 h3).1
 have hget:R.getD i []=[f,g]:=by rw [List.getD_eq_getElem?_getD,h3]; rfl
 have h5:∀ (j:Nat) (q:Lf),([f,g]:List Lf)[j]?=some q→q.good:=by
  intro j q hq
  have:=hg i hil j q
  dsimp only at this
  rw [hget] at this
  exact this hq
 exact Qnh h4 (h5 0 f rfl) (h5 1 g rfl)
theorem Qbd {y:Lf} {l:List ((Bool × List Nat) × Nat × Nat)} (h:QbC y=some l) (hg:y.deep):∀ x∈l,x.1.2.length≤x.2.1∧(∀ y∈x.1.2,y<4294967296)∧ZB (zV x.1.1 x.1.2) x.2.2:=by
 unfold QbC at h
 split at h
 · exact QnG h hg
 · rename_i L
   cases h
   intro x hx
   obtain ⟨e,he,rfl⟩:=List.mem_map.1 hx
   obtain ⟨i,hi,rfl⟩:=List.getElem_of_mem he
   have h1:=hg i hi 1 _ rfl
   have h2:L.getD i (false,[],0)=L[i]:=by rw [List.getD_eq_getElem?_getD,List.getElem?_eq_getElem hi]; rfl
   rw [h2] at h1
   obtain ⟨h3,h4⟩:=h1
   exact ⟨h3,h4,(Qge _ _ h4).mono (by dsimp only; omega)⟩
 · cases h; intro x hx; cases hx
 · cases h
theorem asR_j {f g:Lf} {n:Bool} {l:List Nat} {k j:Nat} (h:asR f g=some ((n,l),k,j)):j≤k+1:=by
 unfold asR at h
 split at h <;> cases h <;> omega
theorem Qev {y:Lf} {l:List ((Bool × List Nat) × Nat × Nat)} (h:QbC y=some l):∀ x∈l,x.2.2≤x.2.1+1:=by
 unfold QbC at h
 split at h
 · obtain ⟨h1,h2⟩:=QfR h
   intro x hx
   obtain ⟨i,hi,rfl⟩:=List.getElem_of_mem hx
   obtain ⟨f,g,h3,h4⟩:=h2 i _ (List.getElem?_eq_getElem hi)
   exact asR_j h4
 · cases h
   intro x hx
   obtain ⟨e,he,rfl⟩:=List.mem_map.1 hx
   exact Nat.le_refl _
 · cases h; intro x hx; cases hx
 · cases h
theorem QeZ:∀ (l:List ((Bool × List Nat) × Nat × Nat)) (a:Nat),(∀ x∈l,x.2.2≤x.2.1+1)→bndS l a≤a+Qb0 l
 | [],a,_=>Nat.le_refl _
 | x::l,a,h=>by
  have h1:=QeZ l (a+x.2.2+1) fun y hy=>h y (List.mem_cons_of_mem _ hy)
  have h2:=h x List.mem_cons_self
  simp only [bndS,Qb0]
  omega
theorem Qhb:∀ (l:List ((Bool × List Nat) × Nat × Nat)) (a:Nat),(∀ x∈l,x.2.2≤x.2.1+1)→bndP l a≤a+Qb0 l
 | [],a,_=>Nat.le_refl _
 | x::l,a,h=>by
  have h1:=Qhb l (a+x.2.2) fun y hy=>h y (List.mem_cons_of_mem _ hy)
  have h2:=h x List.mem_cons_self
  simp only [bndP,Qb0]
  omega
theorem QcD:∀ {l:List ((Bool × List Nat) × Nat × Nat)},∀ x∈l,x.2.1+2≤Qb0 l
 | y::l,x,h=>by
  simp only [Qb0]
  rcases List.mem_cons.1 h with rfl | h
  · omega
  · have:=QcD x h; omega
theorem Qgn {x y:Lf} (h:Sub (.f x) (.f y)):SubB (.f x) (.f y):=⟨fun H B v hv=>.f ((h.out H v (.f hv.rd)).rd)⟩
theorem Qai {z z':Int} {k k':Nat} (hz:z=z') (h:ZB z' k'):SubB (.f (.zd z k)) (.f (.zd z' k')):=by subst hz; exact Qgn (Qgl h)
theorem QcE:∀ l:List ((Bool × List Nat) × Nat × Nat),2 * l.length≤Qb0 l
 | []=>Nat.le_refl _
 | x::l=>by have:=QcE l; simp only [Qb0,List.length_cons]; omega
def zsOf (l:List ((Bool × List Nat) × Nat × Nat)):List (Bool × List Nat × Nat):=l.map fun x=>(x.1.1,x.1.2,x.2.1)
theorem Qe4 {l:List ((Bool × List Nat) × Nat × Nat)} {i:Nat} (h:i<l.length):(zsOf l).getD i (false,[],0)=((l[i]).1.1,(l[i]).1.2,(l[i]).2.1):=by
 unfold zsOf
 simp only [List.getD_eq_getElem?_getD,List.getElem?_map,List.getElem?_eq_getElem h,Option.map_some,Option.getD_some]
theorem Qdb {y:Lf} {l:List ((Bool × List Nat) × Nat × Nat)} (h:QbC y=some l):Sub (.f y) (.f (.zs (zsOf l))):=by
 refine ⟨fun H v hv=>?_⟩
 unfold QbC at h
 split at h
 · rename_i R
   obtain ⟨h1,h2⟩:=QfR h
   cases hv.rd with
   | @sl _ k n get ao cap hview hg hc hm h0 b o val hb hcell hk hrec =>
    simp only [Lf.view,Option.some.injEq,Prod.mk.injEq] at hview
    obtain ⟨rfl,rfl,rfl⟩:=hview
    refine .f (.slf (fun _=>rfl) (f:=.zs (zsOf l)) (get:=fun i=>[.v (.bool ((zsOf l).getD i (false,[],0)).1),.lr ((zsOf l).getD i (false,[],0)).2.1 ((zsOf l).getD i (false,[],0)).2.2]) (by simp [Lf.view,zsOf,h1]) trivial hc hm h0 b o val hb hcell (fun i hi=>rfl) (fun i hi j x hx=>?_))
    have hil:i<l.length:=by rw [h1]; exact hi
    obtain ⟨f,g,h3,h4⟩:=h2 i _ (List.getElem?_eq_getElem hil)
    have hget:R.getD i []=[f,g]:=by rw [List.getD_eq_getElem?_getD,h3]; rfl
    rw [Qe4 hil] at hx
    have r0:=hrec i hi 0 f (by show (R.getD i [])[0]?=_; rw [hget]; rfl)
    have r1:=hrec i hi 1 g (by show (R.getD i [])[1]?=_; rw [hget]; rfl)
    generalize hli:l[i]=e at *
    obtain ⟨⟨n,q⟩,k,jj⟩:=e
    obtain ⟨r2,r3⟩:=QgJ h4 r0 r1
    match j with
    | 0=>cases hx; exact r2
    | 1=>cases hx; exact r3
    | j+2=>cases hx
 · rename_i L
   cases h
   have:zsOf (L.map fun e=>((e.1,e.2.1),e.2.2,e.2.2+1))=L:=by
    unfold zsOf
    rw [List.map_map]
    have:((fun x:(Bool × List Nat) × Nat × Nat=>(x.1.1,x.1.2,x.2.1)) ∘ fun e:Bool × List Nat × Nat=>((e.1,e.2.1),e.2.2,e.2.2+1))=id:=by funext e; rfl
    rw [this,List.map_id]
   rw [this]; exact hv
 · cases h
   have:=hv.rd.val rfl
   subst this
   exact .f (QgQ (f:=.zs []) rfl trivial)
 · cases h
def Qpc:Spec
 | [.f x]=>match limL x with
  | some (l,k)=>some (some (k≤100000000),.one (.f (.v (.string ⟨(Lib.decDigits (vB l)).toArray⟩))))
  | none=>none
 | _=>none
theorem QlF:∀ (l:List ((Bool × List Nat) × Nat × Nat)) (a:Nat),a≤bndS l a
 | [],a=>Nat.le_refl _
 | x::l,a=>Nat.le_trans (by omega) (QlF l _)
theorem QeY:∀ (l:List ((Bool × List Nat) × Nat × Nat)) (a i:Nat),bndS (l.take i) a≤bndS l a
 | [],a,i=>by simp
 | x::l,a,0=>by simp only [List.take_zero,bndS]; exact Nat.le_trans (by omega) (QlF l _)
 | x::l,a,i+1=>by simp only [List.take_succ_cons,bndS]; exact QeY l _ i
theorem Qi3:∀ (l:List ((Bool × List Nat) × Nat × Nat)) (a:Nat),a≤bndP l a
 | [],a=>Nat.le_refl _
 | x::l,a=>Nat.le_trans (by omega) (Qi3 l _)
theorem Qha:∀ (l:List ((Bool × List Nat) × Nat × Nat)) (a i:Nat),bndP (l.take i) a≤bndP l a
 | [],a,i=>by simp
 | x::l,a,0=>by simp only [List.take_zero,bndP]; exact Nat.le_trans (by omega) (Qi3 l _)
 | x::l,a,i+1=>by simp only [List.take_succ_cons,bndP]; exact Qha l _ i
theorem QoO (l:List ((Bool × List Nat) × Nat × Nat)) (i:Nat) (h:i<l.length) (a:Int):sumR (l.take (i+1)) a=sumR (l.take i) a+zV (l[i]).1.1 (l[i]).1.2:=by
 rw [List.take_add_one,List.getElem?_eq_getElem h,Qkw,Qkw,List.foldl_append]; rfl
theorem QhG (l:List ((Bool × List Nat) × Nat × Nat)) (i:Nat) (h:i<l.length) (a:Int):Qbo (l.take (i+1)) a=Qbo (l.take i) a * zV (l[i]).1.1 (l[i]).1.2:=by
 rw [List.take_add_one,List.getElem?_eq_getElem h,Qiv,Qiv,List.foldl_append]; rfl
theorem QjU (l:List ((Bool × List Nat) × Nat × Nat)) (i:Nat) (h:i<l.length) (a:Int):gcdR (l.take (i+1)) a=gcd2 (gcdR (l.take i) a) (zV (l[i]).1.1 (l[i]).1.2):=by
 rw [List.take_add_one,List.getElem?_eq_getElem h,Qlh,Qlh,List.foldl_append]; rfl
theorem Qif (a b:Bool):(!a==b)=(a != b):=by cases a <;> cases b <;> rfl
theorem pvR_j {x:PV} {n:Bool} {l:List Nat} {k j:Nat} (h:pvR x=some ((n,l),k,j)):j≤k+1:=by
 unfold pvR at h
 split at h
 · exact asR_j h
 · cases h
theorem QcR {q r q' r':Int} {a b a' b':Nat} (hq:q=q') (hr:r=r') (h1:ZB q' a') (h2:ZB r' b'):Sub (.tup [.agg [.f (.zn q),.f (.zd q a)],.agg [.f (.zn r),.f (.zd r b)],.f (.v (.int .i64 0))]) (.tup [.agg [.f (.zn q'),.f (.zd q' a')],.agg [.f (.zn r'),.f (.zd r' b')],.f (.v (.int .i64 0))]):=by
 subst hq hr
 exact Qh9 (.cons (Qcl h1) (.cons (Qcl h2) (.cons (.refl _) .nil)))
theorem Qmw (l:List Nat):(l.map Int.ofNat).map Int.toNat=l:=by
 rw [List.map_map]; exact List.map_id'' (fun x=>rfl) l
theorem wU (n:Int) (h0:0≤n) (h1:n<4294967296):IntKind.u32.wrap n=n:=by rw [Qs6]; omega
theorem Qis {H:Hp} {v:Value} {f f':Lf} {k n:Nat} {get get':Nat→List Lf} (hv:f.view=some (k,n,get)) (hv':f'.view=some (k,n,get')) (hg':f'.good) (hf:f'.full n≤f.full n) (he:∀ i,i<f'.full n→get' i=get i) (h:Rd H v f):Rd H v f':=by
 cases h with
 | v=>cases hv
 | zn=>cases hv
 | sl hv2 hgd hc hm h0 b o val hb hcell hk hrec =>
  rw [hv] at hv2
  cases hv2
  exact .sl hv' hg' (by omega) hm h0 b o val (fun h=>hb (by omega)) (fun i hi=>hcell i (by omega)) (fun i hi=>by rw [he i hi]; exact hk i (by omega)) (fun i hi j x hx=>by rw [he i hi] at hx; exact hrec i (by omega) j x hx)
def Qpz:Lf→Option (Prop × List Nat × Nat)
 | .lr l k=>some (True,l,k)
 | .is .u32 M=>some ((∀ x∈M,0≤x∧x<4294967296),M.map Int.toNat,M.length)
 | .sp (.is .u32 M) m=>some ((m≤M.length∧∀ x∈M.take m,0≤x∧x<4294967296),(M.take m).map Int.toNat,m)
 | _=>none
theorem QlS {M:List Int} (h:∀ x∈M,0≤x∧x<4294967296) {i:Nat} (hi:i<M.length):(((M.map Int.toNat).getD i 0:Nat):Int)=M.getD i 0:=by
 rw [List.getD_eq_getElem?_getD,List.getElem?_map,List.getD_eq_getElem?_getD,List.getElem?_eq_getElem hi]
 have:=h _ (List.getElem_mem hi)
 simp only [Option.map_some,Option.getD_some]
 omega
theorem QlR {M:List Int} (h:∀ x∈M,0≤x∧x<4294967296):∀ x∈M.map Int.toNat,x<4294967296:=by
 intro x hx
 obtain ⟨y,hy,rfl⟩:=List.mem_map.1 hx
 have:=h y hy
 omega
theorem QnM {f:Lf} {p:Prop} {l:List Nat} {k:Nat} (h:Qpz f=some (p,l,k)) (hp:p):Sub (.f f) (.f (.lr l k)):=by
 unfold Qpz at h
 split at h
 · cases h; exact .refl _
 · rename_i M
   cases h
   refine ⟨fun H v hv=>.f (Qis (f:=.is .u32 M) (f':=.lr (M.map Int.toNat) M.length) (k:=1) (n:=M.length) (get:=fun i=>[.v (.int .u32 (M.getD i 0))]) (get':=fun i=>[.v (.int .u32 ((M.map Int.toNat).getD i 0:Nat))]) rfl (by simp only [Lf.view,List.length_map]) ⟨by simp,QlR hp⟩ (Nat.le_refl _) (fun i hi=>?_) hv.rd)⟩
   rw [QlS hp hi]
 · rename_i M m
   cases h
   obtain ⟨h1,h2⟩:=hp
   have hl:(M.take k).length=k:=by rw [List.length_take]; omega
   refine ⟨fun H v hv=>.f (Qis (f:=.sp (.is .u32 M) k) (f':=.lr ((M.take k).map Int.toNat) k) (k:=1) (n:=k) (get:=fun i=>[.v (.int .u32 (M.getD i 0))]) (get':=fun i=>[.v (.int .u32 (((M.take k).map Int.toNat).getD i 0:Nat))]) rfl (by simp only [Lf.view,List.length_map,hl]) ⟨by rw [List.length_map,hl]; exact Nat.le_refl _,QlR h2⟩ h1 (fun i hi=>?_) hv.rd)⟩
   have hi':i<k:=hi
   rw [QlS h2 (by omega),List.getD_eq_getElem?_getD,List.getElem?_take,if_pos hi',List.getD_eq_getElem?_getD]
 · cases h
theorem QuF {l m:List PV} (h:Subs l m):Sub (.agg l) (.agg m):=⟨fun H v hv=>by
 obtain ⟨vs,rfl,h1⟩:=PRs.of_agg hv
 exact (h.prs h1).agg⟩
def plF (x:Lf):Prop × Lf:=match Qpz x with
 | some (p,l,k)=>(p,.lr l k)
 | none=>(True,x)
def plA:List PV→Prop × List PV
 | []=>(True,[])
 | .f x::l=>((plF x).1∧(plA l).1,.f (plF x).2::(plA l).2)
 | y::l=>((plA l).1,y::(plA l).2)
def plV:PV→Prop × PV
 | .f x=>((plF x).1,.f (plF x).2)
 | .agg l=>((plA l).1,.agg (plA l).2)
 | y=>(True,y)
def plVs:List PV→Prop × List PV
 | []=>(True,[])
 | x::l=>((plV x).1∧(plVs l).1,(plV x).2::(plVs l).2)
theorem QpA {x:Lf} (h:(plF x).1):Sub (.f x) (.f (plF x).2):=by
 unfold plF at h ⊢
 split at h
 · rename_i p l k hp
   exact QnM hp h
 · exact .refl _
theorem Qbt:∀ {l:List PV},(plA l).1→Subs l (plA l).2
 | [],_=>.nil
 | .f x::l,h=>.cons (QpA h.1) (Qbt h.2)
 | .bp ..::l,h=>.cons (.refl _) (Qbt (l:=l) h)
 | .ep _::l,h=>.cons (.refl _) (Qbt (l:=l) h)
 | .tl ..::l,h=>.cons (.refl _) (Qbt (l:=l) h)
 | .wr _::l,h=>.cons (.refl _) (Qbt (l:=l) h)
 | .wp ..::l,h=>.cons (.refl _) (Qbt (l:=l) h)
 | .any::l,h=>.cons (.refl _) (Qbt (l:=l) h)
 | .agg _::l,h=>.cons (.refl _) (Qbt (l:=l) h)
 | .tup _::l,h=>.cons (.refl _) (Qbt (l:=l) h)
 | .fn ..::l,h=>.cons (.refl _) (Qbt (l:=l) h)
 | .ifc ..::l,h=>.cons (.refl _) (Qbt (l:=l) h)
theorem QtJ:∀ {x:PV},(plV x).1→Sub x (plV x).2
 | .f x,h=>QpA h
 | .agg l,h=>QuF (Qbt h)
 | .bp ..,_=>.refl _
 | .ep _,_=>.refl _
 | .tl ..,_=>.refl _
 | .wr _,_=>.refl _
 | .wp ..,_=>.refl _
 | .any,_=>.refl _
 | .tup _,_=>.refl _
 | .fn ..,_=>.refl _
 | .ifc ..,_=>.refl _
theorem QjH:∀ {l:List PV},(plVs l).1→Subs l (plVs l).2
 | [],_=>.nil
 | x::l,h=>.cons (QtJ h.1) (QjH h.2)
def Qrz (sp:Spec):Spec:=fun xs=>match sp (plVs xs).2 with
 | some (p,r)=>some (some ((plVs xs).1∧p.getD True),r)
 | none=>none
theorem Contract.lent {P:Program} {E:Env} {f:FuncId} {sp:Spec} (h:Contract P E f sp):Contract P E f (Qrz sp):=by
 refine h.weaken ?_
 intro xs p r hs hp
 unfold Qrz at hs
 split at hs
 · rename_i p' r' h1
   cases hs
   obtain ⟨h2,h3⟩:=hp _ rfl
   exact ⟨_,_,_,QjH h2,h1,fun q hq=>by subst hq; exact h3,.refl _⟩
 · cases hs
end Go.Proofs.YtmbmbcamecfnkaaGreatDoor
