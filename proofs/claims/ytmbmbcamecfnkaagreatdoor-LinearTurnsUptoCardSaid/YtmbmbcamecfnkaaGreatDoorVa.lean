/- Pure values: what a value of the program reads as, told of the memory that stays. A region that draws its order, by facts of a ghost: each operation once. The pure run of a program: what each operation makes of pure values. Each operation of the pure run is sound. Each operation of the pure run is sound: the operations, one by one. Each operation of the pure run is sound: all. Each operation of the pure run is sound: building, calling; all together. Each operation of the pure run is sound: calls, stores; all together. The pure run of a list of operations in the text's order is sound. The pure run of a region that draws its order is sound. The pure run of a body is sound; a function's contract by it. -/
import Derived.Test.YtmbmbcamecfnkaaGreatDoorOp
import Derived.Test.YtmbmbcamecfnkaaGreatDoorZBase
import Derived.Test.YtmbmbcamecfnkaaGreatDoorVo
import Derived.Deep.LoopGhost
import Derived.Laws.BytesArg
import Derived.Laws.OwnMore
import Derived.Laws.StructEq
import Derived.Lib.ConvBytes
import Derived.Lib.AtoiErrMem
namespace Go.Proofs.YtmbmbcamecfnkaaGreatDoor
set_option linter.unusedVariables false
open Go.RowKit
abbrev Hp:=Nat→Nat→Option Value
def Hp.le (H H':Hp):Prop:=∀ b j v,H b j=some v→H' b j=some v
theorem Hp.le_refl (H:Hp):H.le H:=fun _ _ _ h=>h
theorem Hp.le_trans {H H' H'':Hp} (h:H.le H') (h':H'.le H''):H.le H'':=fun b j v x=>h' b j v (h b j v x)
def Fro (H:Hp) (w:World):Prop:=∀ b j v,H b j=some v→w.cell? ⟨b,j,none⟩=some v
inductive Tw where
 | mk (kind:Int) (name:ByteArray) (neg:Bool) (digits:List Nat) (kids:List Tw)
def Tw.kind:Tw→Int | .mk k _ _ _ _=>k
def Tw.name:Tw→ByteArray | .mk _ n _ _ _=>n
def Tw.neg:Tw→Bool | .mk _ _ b _ _=>b
def Tw.digits:Tw→List Nat | .mk _ _ _ d _=>d
def Tw.kids:Tw→List Tw | .mk _ _ _ _ l=>l
instance:Inhabited Tw:=⟨.mk 0 ⟨#[]⟩ false [] []⟩
structure Tm where
 kind:Int
 name:ByteArray
 neg:Bool
 digits:List Nat
 kids:List Tw
def Tw.out (t:Tw):Tm:=⟨t.kind,t.name,t.neg,t.digits,t.kids⟩
inductive Vw where
 | mk (kind:Int) (neg:Bool) (digits:List Nat) (truth:Bool) (name:ByteArray) (fields:List Vw)
def Vw.kind:Vw→Int | .mk k _ _ _ _ _=>k
def Vw.neg:Vw→Bool | .mk _ b _ _ _ _=>b
def Vw.digits:Vw→List Nat | .mk _ _ d _ _ _=>d
def Vw.truth:Vw→Bool | .mk _ _ _ b _ _=>b
def Vw.name:Vw→ByteArray | .mk _ _ _ _ n _=>n
def Vw.fields:Vw→List Vw | .mk _ _ _ _ _ l=>l
instance:Inhabited Vw:=⟨.mk 0 false [] false ⟨#[]⟩ []⟩
structure Vm where
 kind:Int
 neg:Bool
 digits:List Nat
 truth:Bool
 name:ByteArray
 fields:List Vw
def Vw.out (t:Vw):Vm:=⟨t.kind,t.neg,t.digits,t.truth,t.name,t.fields⟩
structure Srt where
 name:ByteArray
 sort:ByteArray
 deriving Inhabited
structure Cn where
 name:ByteArray
 fields:List ByteArray
 deriving Inhabited
structure Dat where
 name:ByteArray
 cons:List Cn
 deriving Inhabited
structure Kap where
 name:ByteArray
 params:List Srt
 body:Tw
 deriving Inhabited
structure Bnd where
 name:ByteArray
 value:Vw
 deriving Inhabited
inductive Yw where
 | mk (fn:Bool) (sort:ByteArray) (refine_:Tw) (params:List (ByteArray × Yw)) (result:List Yw)
def Yw.fn:Yw→Bool | .mk b _ _ _ _=>b
def Yw.sort:Yw→ByteArray | .mk _ s _ _ _=>s
def Yw.ref:Yw→Tw | .mk _ _ t _ _=>t
def Yw.params:Yw→List (ByteArray × Yw) | .mk _ _ _ l _=>l
def Yw.result:Yw→List Yw | .mk _ _ _ _ l=>l
instance:Inhabited Yw:=⟨.mk false ⟨#[]⟩ default [] []⟩
inductive Sh where
 | str | tm | vl | srt | con | dat | kap | bnd | ty | prm
 deriving DecidableEq, Inhabited
abbrev Sh.T:Sh→Type
 | .str=>ByteArray
 | .tm=>Tw
 | .vl=>Vw
 | .srt=>Srt
 | .con=>Cn
 | .dat=>Dat
 | .kap=>Kap
 | .bnd=>Bnd
 | .ty=>Yw
 | .prm=>ByteArray × Yw
def Sh.nil:(s:Sh)→s.T
 | .str=>⟨#[]⟩
 | .tm=>(default:Tw)
 | .vl=>(default:Vw)
 | .srt=>(default:Srt)
 | .con=>(default:Cn)
 | .dat=>(default:Dat)
 | .kap=>(default:Kap)
 | .bnd=>(default:Bnd)
 | .ty=>(default:Yw)
 | .prm=>(⟨#[]⟩,default)
def Sh.k:Sh→Nat
 | .str=>1
 | .tm=>5
 | .vl=>6
 | .srt=>2
 | .con=>2
 | .dat=>2
 | .kap=>7
 | .bnd=>7
 | .ty=>9
 | .prm=>10
inductive Lf where
 | v (x:Value)
 | lr (l:List Nat) (k:Nat)
 | zn (z:Int)
 | zd (z:Int) (k:Nat)
 | zs (L:List (Bool × List Nat × Nat))
 | qs (L:List ((Bool × List Nat × Nat) × (Bool × List Nat × Nat)))
 | row (k:Nat) (L:List (List Lf))
 | is (k:IntKind) (l:List Int)
 | sp (x:Lf) (n:Nat)
 | gen (k n:Nat) (get:Nat→List Lf)
 | dt (s:Sh) (l:List s.T)
 deriving Inhabited
def tmC (t:Tw):List Lf:=[.v (.int .u8 t.kind),.v (.string t.name),.v (.bool t.neg),.lr t.digits t.digits.length,.dt .tm t.kids]
def vlC (t:Vw):List Lf:=[.v (.int .u8 t.kind),.v (.bool t.neg),.lr t.digits t.digits.length,.v (.bool t.truth),.v (.string t.name),.dt .vl t.fields]
def tyC (t:Yw):List Lf:=.v (.bool t.fn)::.v (.string t.sort)::(tmC t.ref++[.dt .prm t.params,.dt .ty t.result])
def Sh.cells:(s:Sh)→s.T→List Lf
 | .str,x=>[.v (.string x)]
 | .tm,t=>tmC t
 | .vl,t=>vlC t
 | .srt,x=>[.v (.string (Srt.name x)),.v (.string (Srt.sort x))]
 | .con,x=>[.v (.string (Cn.name x)),.dt .str (Cn.fields x)]
 | .dat,x=>[.v (.string (Dat.name x)),.dt .con (Dat.cons x)]
 | .kap,x=>.v (.string (Kap.name x))::.dt .srt (Kap.params x)::tmC (Kap.body x)
 | .bnd,x=>.v (.string (Bnd.name x))::vlC (Bnd.value x)
 | .ty,t=>tyC t
 | .prm,x=>.v (.string x.1)::tyC x.2
theorem Sh.cells_len:∀ (s:Sh) (x:s.T),(s.cells x).length=s.k:=by
 intro s x
 cases s <;> rfl
def Lf.view0:Lf→Option (Nat × Nat × (Nat→List Lf))
 | .row k L=>some (k,L.length,fun i=>L.getD i [])
 | .is kd l=>some (1,l.length,fun i=>[.v (.int kd (l.getD i 0))])
 | .gen k n get=>some (k,n,get)
 | .dt s l=>some (s.k,l.length,fun i=>s.cells (l.getD i s.nil))
 | _=>none
def Lf.view:Lf→Option (Nat × Nat × (Nat→List Lf))
 | .v _=>none
 | .zn _=>none
 | .lr l _=>some (1,l.length,fun i=>[.v (.int .u32 (l.getD i 0:Nat))])
 | .zd z _=>some (1,(digs 1000000000 z.natAbs).length,fun i=>[.v (.int .u32 ((digs 1000000000 z.natAbs).getD i 0:Nat))])
 | .zs L=>some (2,L.length,fun i=>[.v (.bool (L.getD i (false,[],0)).1),.lr (L.getD i (false,[],0)).2.1 (L.getD i (false,[],0)).2.2])
 | .qs L=>some (4,L.length,fun i=>[.v (.bool (L.getD i ((false,[],0),(false,[],0))).1.1),.lr (L.getD i ((false,[],0),(false,[],0))).1.2.1 (L.getD i ((false,[],0),(false,[],0))).1.2.2,.v (.bool (L.getD i ((false,[],0),(false,[],0))).2.1),.lr (L.getD i ((false,[],0),(false,[],0))).2.2.1 (L.getD i ((false,[],0),(false,[],0))).2.2.2])
 | .row k L=>some (k,L.length,fun i=>L.getD i [])
 | .is kd l=>some (1,l.length,fun i=>[.v (.int kd (l.getD i 0))])
 | .sp x n=>match x.view0 with
  | some (k,_,get)=>some (k,n,get)
  | none=>none
 | .gen k n get=>some (k,n,get)
 | .dt s l=>some (s.k,l.length,fun i=>s.cells (l.getD i s.nil))
def Lf.full:Lf→Nat→Nat
 | .sp x _,n=>match x.view0 with
  | some (_,m,_)=>m
  | none=>n
 | _,n=>n
def Lf.full0 (x:Lf):Nat:=match x.view0 with
 | some (_,m,_)=>m
 | none=>0
def Lf.good:Lf→Prop
 | .lr l k=>l.length≤k∧∀ x∈l,x<4294967296
 | .zd z k=>ZB z k
 | .sp x n=>n≤x.full0
 | _=>True
theorem Lf.full_le {f:Lf} {k n:Nat} {get:Nat→List Lf} (hv:f.view=some (k,n,get)) (hg:f.good):n≤f.full n:=by
 cases f <;> try exact Nat.le_refl _
 rename_i x m
 cases x <;> simp only [Lf.view,Lf.view0,Option.some.injEq,Prod.mk.injEq] at hv <;> first | (cases hv; done) | (obtain ⟨_,rfl,_⟩:=hv; exact hg)
def Lf.val:Lf→Option Value
 | .v x=>some x
 | .zn z=>some (.bool (zNeg z))
 | _=>none
inductive Rd (H:Hp):Value→Lf→Prop
 | v (x:Value) (h1:x.oneCell'=true):Rd H x (.v x)
 | zn (z:Int):Rd H (.bool (zNeg z)) (.zn z)
 | sl {f:Lf} {k n:Nat} {get:Nat→List Lf} {ao:Option Addr} {cap:Nat} (hv:f.view=some (k,n,get)) (hg:f.good) (hc:f.full n≤cap) (hm:cap≤maxLen) (h0:ao=none→cap=0)
   (b o:Nat) (val:Nat→Nat→Value) (hb:0<f.full n→ao=some ⟨b,o,none⟩)
   (hcell:∀ i,i<f.full n→∀ j,j<k→H b (o+i * k+j)=some (val i j)) (hk:∀ i,i<f.full n→(get i).length=k) (hrec:∀ i,i<f.full n→∀ j x,(get i)[j]?=some x→Rd H (val i j) x):Rd H (.slice ao n cap) f
theorem Rd.slf {H : Hp} {f : Lf} {k n : Nat} {get : Nat → List Lf} {ao : Option Addr} {cap : Nat} (hf : ∀ q, f.full q = q) (hv : f.view = some (k, n, get)) (hg : f.good) (hc : n ≤ cap) (hm : cap ≤ maxLen) (h0 : ao = none → cap = 0)
      (b o:Nat) (val:Nat→Nat→Value) (hb:0<n→ao=some ⟨b,o,none⟩)
      (hcell:∀ i,i<n→∀ j,j<k→H b (o+i * k+j)=some (val i j)) (hk:∀ i,i<n→(get i).length=k) (hrec:∀ i,i<n→∀ j x,(get i)[j]?=some x→Rd H (val i j) x):Rd H (.slice ao n cap) f :=
 .sl hv hg (by rw [hf]; exact hc) hm h0 b o val (by rw [hf]; exact hb) (by rw [hf]; exact hcell) (by rw [hf]; exact hk) (by rw [hf]; exact hrec)
theorem Lf.view0_facts {x:Lf} {r:Nat × Nat × (Nat→List Lf)} (h:x.view0=some r):x.view=some r∧(∀ q,x.full q=q)∧x.good:=by
 cases x <;> first | (cases h; done) | exact ⟨h,fun _=>rfl,trivial⟩
theorem Rd.mono {H H':Hp} (hle:H.le H') {v:Value} {x:Lf} (h:Rd H v x):Rd H' v x:=by
 induction h with
 | v x h1=>exact .v x h1
 | zn z=>exact .zn z
 | sl hv hg hc hm h0 b o val hb hcell hk _ ih =>
  exact .sl hv hg hc hm h0 b o val hb (fun i hi j hj=>hle _ _ _ (hcell i hi j hj)) hk (fun i hi j x hx=>ih i hi j x hx)
theorem Rd.val {H:Hp} {v u:Value} {x:Lf} (h:Rd H v x) (hu:x.val=some u):v=u:=by
 cases h with
 | v x h1=>cases hu; rfl
 | zn z=>cases hu; rfl
 | sl hv=>cases x <;> first | (cases hu; done) | cases hv
inductive PV where
 | f (x:Lf)
 | bp (o off:Nat)
 | ep (l:List Lf)
 | tl (o:Nat) (x:Lf)
 | wr (o:Nat)
 | wp (o k i:Nat)
 | any
 | agg (l:List PV)
 | tup (l:List PV)
 | fn (f:FuncId) (l m:List PV)
 | ifc (t:TypeId) (x:PV)
 deriving Inhabited
abbrev Hd:=Nat→Option Value
def Hd.le (B B':Hd):Prop:=∀ o v,B o=some v→B' o=some v
inductive PR (H:Hp) (B:Hd):Value→PV→Prop
 | f {v:Value} {x:Lf} (h:Rd H v x):PR H B v (.f x)
 | bp {o off b:Nat} (h:B o=some (.pointer (some ⟨b,0,none⟩))):PR H B (.pointer (some ⟨b,off,none⟩)) (.bp o off)
 | ep {l:List Lf} (b o:Nat) (val:Nat→Value) (hc:∀ j,j<l.length→H b (o+j)=some (val j)) (h:∀ j x,l[j]?=some x→Rd H (val j) x):PR H B (.pointer (some ⟨b,o,none⟩)) (.ep l)
 | tl {o:Nat} {v:Value} {x:Lf} (h:Rd H v x) (hb:B o=some v):PR H B v (.tl o x)
 | wr {o:Nat} {v:Value} (hb:B o=some v) (h1:v.oneCell'=true):PR H B v (.wr o)
 | wp {o k i b n cap:Nat} (hb:B o=some (.slice (some ⟨b,0,none⟩) n cap)) (hi:i<n):PR H B (.pointer (some ⟨b,i * k,none⟩)) (.wp o k i)
 | any {v:Value}:PR H B v .any
 | agg {vs:Array Value} {l:List PV} (hn:vs.size=l.length) (h:∀ (i:Nat) v x,vs[i]?=some v→l[i]?=some x→PR H B v x):PR H B (.agg vs) (.agg l)
 | tup {vs:Array Value} {l:List PV} (hn:vs.size=l.length) (h:∀ (i:Nat) v x,vs[i]?=some v→l[i]?=some x→PR H B v x):PR H B (.tuple vs) (.tup l)
 | fn {f:FuncId} {us vs:Array Value} {l m:List PV} (hm:us.size=l.length) (h1:∀ (i:Nat) v x,us[i]?=some v→l[i]?=some x→PR H B v x) (hn:vs.size=m.length) (h2:∀ (i:Nat) v x,vs[i]?=some v→m[i]?=some x→PR H B v x):PR H B (.func (.func f) us vs) (.fn f l m)
 | ifc {t:TypeId} {v:Value} {x:PV} (h:PR H B v x):PR H B (.iface t v) (.ifc t x)
theorem PR.mono {H H':Hp} {B B':Hd} (hle:H.le H') (hbe:B.le B') {v:Value} {x:PV} (h:PR H B v x):PR H' B' v x:=by
 induction h with
 | f h=>exact .f (h.mono hle)
 | bp h=>exact .bp (hbe _ _ h)
 | ep b o val hc h=>exact .ep b o val (fun j hj=>hle _ _ _ (hc j hj)) fun j x hx=>(h j x hx).mono hle
 | tl h hb=>exact .tl (h.mono hle) (hbe _ _ hb)
 | wr hb h1=>exact .wr (hbe _ _ hb) h1
 | wp hb hi=>exact .wp (hbe _ _ hb) hi
 | any=>exact .any
 | agg hn h ih=>exact .agg hn ih
 | tup hn h ih=>exact .tup hn ih
 | fn hm h1 hn h2 ih1 ih2=>exact .fn hm ih1 hn ih2
 | ifc h ih=>exact .ifc ih
theorem PR.val {H:Hp} {B:Hd} {v x:Value} (h:PR H B v (.f (.v x))):v=x:=by
 cases h with
 | f h=>exact h.val rfl
theorem PR.sval {H:Hp} {B:Hd} {v u:Value} {x:Lf} (h:PR H B v (.f x)) (hu:x.val=some u):v=u:=by
 cases h with
 | f h=>exact h.val hu
structure Ext (w:World) (H:Hp) (w':World) (H':Hp):Prop where
 bel:Below w.heap.size w w'
 le:H.le H'
 fro:Fro H' w'
 new:∀ b j v,H' b j=some v→H b j=none→w.heap.size≤b
theorem Ext.refl {w:World} {H:Hp} (h:Fro H w):Ext w H w H:=⟨Below.refl _ _,H.le_refl,h,fun b j v h1 h2=>by rw [h1] at h2; cases h2⟩
theorem Ext.trans {w w' w'':World} {H H' H'':Hp} (h:Ext w H w' H') (h':Ext w' H' w'' H''):Ext w H w'' H'':=by
 refine ⟨Qi1 h.bel h'.bel,Hp.le_trans h.le h'.le,h'.fro,fun b j v h1 h2=>?_⟩
 cases hh:H' b j with
 | none=>exact Nat.le_trans h.bel.size (h'.new b j v h1 hh)
 | some u=>exact h.new b j u hh h2
theorem Fro.lt {H:Hp} {w:World} (h:Fro H w) {b j:Nat} {v:Value} (hh:H b j=some v):b<w.heap.size:=Quj (h b j v hh)
theorem Fro.below {H:Hp} {w w':World} (h:Fro H w) (hb:Below w.heap.size w w'):Fro H w':=fun b j v hh=>(hb.cell (p:=⟨b,j,none⟩) (h.lt hh)).trans (h b j v hh)
theorem Ext.below {w w':World} {H:Hp} (h:Fro H w) (hb:Below w.heap.size w w'):Ext w H w' H:=⟨hb,H.le_refl,h.below hb,fun b j v h1 h2=>by rw [h1] at h2; cases h2⟩
inductive PO where
 | cells (l:List PV)
 | own (e:TypeId) (x:Lf)
 | tail (e:TypeId) (k:Nat)
 | gone
 | map (t:Kt) (has:t.T→Bool) (get:t.T→List Lf) (ks:List t.T) (vs:List PV)
 | bld (T:TypeId) (y:PV)
 deriving Inhabited
def blk:Value→Option Nat
 | .pointer (some a)=>some a.block
 | .slice (some a) _ _=>some a.block
 | .map (some b)=>some b
 | _=>none
def fixV:Value→Bool
 | .pointer _=>true
 | .map _=>true
 | _=>false
def FixB (B:Hd) (o:Nat) (u:Value):Prop:=B o=some u∧fixV u=true
def Qda:List Lf→List PV
 | []=>[]
 | x::l=>.f x::Qda l
def Qbm:List Lf→PV
 | [x]=>.f x
 | L=>.agg (Qda L)
def Qbc (t:Kt) (has:t.T→Bool) (get:t.T→List Lf):List t.T→List PV→t.T→Option PV
 | k::ks,v::vs,key=>match t.eq key k with
  | true=>some v
  | false=>Qbc t has get ks vs key
 | _,_,key=>match has key with
  | true=>some (Qbm (get key))
  | false=>none
def OR (H:Hp) (B:Hd):Option Value→Option PV→Prop
 | some v,some x=>PR H B v x
 | none,none=>True
 | _,_=>False
theorem Qlr {H H':Hp} {B B':Hd} (hle:H.le H') {v:Value} {L:List Lf} (h:PR H B v (Qbm L)):PR H' B' v (Qbm L):=by
 have key:∀ (L:List Lf) (i:Nat) x,(Qda L)[i]?=some x→∃ y,x=.f y:=by
  intro L
  induction L with
  | nil=>intro i x hx; simp [Qda] at hx
  | cons a L ih =>
   intro i x hx
   cases i with
   | zero=>simp [Qda] at hx; exact ⟨_,hx.symm⟩
   | succ i=>exact ih i x (by simpa [Qda] using hx)
 unfold Qbm at h ⊢
 split at h
 · cases h with
   | f h=>exact .f (h.mono hle)
 · cases h with
   | agg hn h =>
    refine .agg hn fun i v x hv hx=>?_
    obtain ⟨y,rfl⟩:=key _ i x hx
    have:=h i v _ hv hx
    cases this with
    | f h=>exact .f (h.mono hle)
theorem QdW {H H':Hp} {B B':Hd} (hle:H.le H') {t:Kt} {has:t.T→Bool} {get:t.T→List Lf} (key:t.T) (o:Option Value):∀ {ks:List t.T} {vs vs':List PV},vs'.length=vs.length→(∀ (i:Nat) x',vs'[i]?=some x'→∃ x,vs[i]?=some x∧∀ v,PR H B v x→PR H' B' v x')→OR H B o (Qbc t has get ks vs key)→OR H' B' o (Qbc t has get ks vs' key):=by
 have base:OR H B o (match has key with | true=>some (Qbm (get key)) | false=>none)→OR H' B' o (match has key with | true=>some (Qbm (get key)) | false=>none):=by
  intro h
  cases hk:has key with
  | true =>
   rw [hk] at h
   cases o with
   | none=>exact h
   | some v=>exact Qlr hle h
  | false =>
   rw [hk] at h
   cases o with
   | none=>trivial
   | some v=>exact h
 intro ks
 induction ks with
 | nil =>
  intro vs vs' hl hi h
  unfold Qbc at h ⊢
  exact base h
 | cons k ks ih =>
  intro vs vs' hl hi h
  cases vs with
  | nil =>
   cases vs' with
   | nil=>unfold Qbc at h ⊢; exact base h
   | cons v' vs'=>simp at hl
  | cons v vs =>
   cases vs' with
   | nil=>simp at hl
   | cons v' vs' =>
    unfold Qbc at h ⊢
    cases hk:t.eq key k with
    | true =>
     rw [hk] at h
     cases o with
     | none=>exact h
     | some u =>
      obtain ⟨x,h1,h2⟩:=hi 0 v' rfl
      simp at h1
      subst h1
      exact h2 u h
    | false =>
     rw [hk] at h
     exact ih (by simpa using hl) (fun i x' hx'=>hi (i+1) x' (by simpa using hx')) h
def isU8K:IntKind→Bool
 | .u8=>true
 | _=>false
def isU8:Lf→Bool
 | .is k _=>isU8K k
 | _=>false
def QdG (w:World) (g:Nat) (cur:Array Value) (e:TypeId) (b:Bool):Prop:=∃ mk:Nat × Nat,w.heap[g]?=some (.cells cur e mk)∧(mk=(0,0)∨(b=true∧cur.size≤mk.1))
section
variable {w w' : World} {g lo k n cap : Nat} {cur : Array Value} {e : TypeId} {b : Bool} {u : Value} {vs : List Value}
theorem QdG.of (h:w.heap[g]?=some (.cells cur e (0,0))):QdG w g cur e b:=⟨_,h,.inl rfl⟩
theorem QdG.lt (h:QdG w g cur e b):g<w.heap.size:=by
 obtain ⟨mk,h,-⟩:=h
 exact (Array.getElem?_eq_some_iff.1 h).1
theorem QdG.keep (h:QdG w g cur e b) (hk:w'.heap[g]?=w.heap[g]?):QdG w' g cur e b:=by
 obtain ⟨mk,h,hm⟩:=h
 exact ⟨mk,hk.trans h,hm⟩
theorem QdG.plain (h:QdG w g cur e b) (hb:b=false):w.heap[g]?=some (.cells cur e (0,0)):=by
 obtain ⟨mk,h,hm⟩:=h
 rcases hm with rfl | ⟨hm,-⟩
 · exact h
 · rw [hb] at hm; cases hm
theorem QdG.cell (h:QdG w g cur e b) (j:Nat):w.cell? ⟨g,j,none⟩=cur[j]?:=by
 obtain ⟨mk,h,-⟩:=h
 exact cell_of_row w g j cur e mk h
theorem QdG.free (h:QdG w g cur e b) {j:Nat} (hj:j<cur.size):w.frozen? ⟨g,j,none⟩=false:=by
 obtain ⟨⟨m1,m2⟩,h,hm⟩:=h
 simp only [World.frozen?,h]
 rcases hm with hm | ⟨-,hm⟩
 · cases hm; simp
 · dsimp only at hm
   rw [decide_eq_false (by omega),Bool.false_and]
theorem QdG.set (h:QdG w g cur e b) (j:Nat) (v:Value):QdG (w.setCell ⟨g,j,none⟩ v) g (cur.setIfInBounds j v) e b:=by
 obtain ⟨mk,h,hm⟩:=h
 refine ⟨mk,?_,by rw [Array.size_setIfInBounds]; exact hm⟩
 rw [setCell_eq_setRow w g j cur e mk v h]
 exact setRow_heap w g cur _ e mk h
def Qcg (w:World) (lo:Nat) (e:TypeId) (k:Nat) (u:Value) (n:Nat) (vs:List Value) (b:Bool):Prop :=
 vs.length=n * k∧((u=.slice none 0 0∧n=0)∨∃ g cap cur,u=.slice (some ⟨g,0,none⟩) n cap∧lo≤g∧QdG w g cur e b∧n≤cap∧cap≤maxLen∧cur.size=cap * k∧cur.toList.take (n * k)=vs)
theorem Qcg.of (h:w.ownsRow lo e k u n vs):Qcg w lo e k u n vs b:=by
 refine ⟨h.1,?_⟩
 rcases h.2 with h | ⟨g,cap,cur,h1,h2,h3,h4⟩
 · exact .inl h
 · exact .inr ⟨g,cap,cur,h1,h2,.of h3,h4⟩
theorem Qcg.row (h:Qcg w lo e k u n vs b) (hb:b=false):w.ownsRow lo e k u n vs:=by
 refine ⟨h.1,?_⟩
 rcases h.2 with h | ⟨g,cap,cur,h1,h2,h3,h4⟩
 · exact .inl h
 · exact .inr ⟨g,cap,cur,h1,h2,h3.plain hb,h4⟩
theorem Qcg.lt (h:Qcg w lo e k u n vs b):∀ i,u.ownBlock=some i→lo≤i∧i<w.heap.size:=by
 intro i hi
 rcases h.2 with ⟨rfl,_⟩ | ⟨g,cap,cur,rfl,hb,hg,_⟩
 · cases hi
 · cases hi; exact ⟨hb,hg.lt⟩
theorem Qcg.cellAt (h:Qcg w lo e k (.slice (some ⟨g,0,none⟩) n cap) n vs b) (j:Nat) (hj:j<n * k):w.cell? ⟨g,j,none⟩=vs[j]?:=by
 rcases h.2 with ⟨h',_⟩ | ⟨g',cap',cur,h',_,hg,_,_,_,htake⟩
 · cases h'
 · cases h'
   rw [hg.cell,← htake,List.getElem?_take,if_pos hj,Array.getElem?_toList]
theorem Qcg.cells (h:Qcg w lo e k u n vs b) {g:Nat} (hg:u.ownBlock=some g):∀ j v,vs[j]?=some v→w.cell? ((⟨g,0,none⟩:Addr).add j)=some v:=by
 intro j v hv
 rcases h.2 with ⟨rfl,_⟩ | ⟨g',cap,cur,rfl,h1,hgg,h2,h3,h4,htake⟩
 · cases hg
 · cases hg
   have hj:j<n * k:=by rw [← h.1]; exact (List.getElem?_eq_some_iff.1 hv).1
   have hadd:((⟨g',0,none⟩:Addr).add j)=⟨g',j,none⟩:=by unfold Addr.add; split <;> simp_all
   rw [hadd,Qcg.cellAt h j hj,hv]
theorem Qcg.frozenAt (h:Qcg w lo e k (.slice (some ⟨g,0,none⟩) n cap) n vs b) (j:Nat) (hj:j<n * k):w.frozen? ⟨g,j,none⟩=false:=by
 rcases h.2 with ⟨h',_⟩ | ⟨g',cap',cur,h',_,hg,hn,_,hs,htake⟩
 · cases h'
 · cases h'
   have:=Nat.mul_le_mul_right k hn
   exact hg.free (by omega)
theorem Qcg.stored (h:Qcg w lo e k (.slice (some ⟨g,0,none⟩) n cap) n vs b) (j:Nat) (v:Value) :
  Qcg (w.setCell ⟨g,j,none⟩ v) lo e k (.slice (some ⟨g,0,none⟩) n cap) n (vs.set j v) b∧w.grownBy (w.setCell ⟨g,j,none⟩ v) (some g):=by
 rcases h.2 with ⟨h',_⟩ | ⟨g',cap',cur,h',hb,hg,hnc,hcm,hcs,htake⟩
 · cases h'
 · cases h'
   refine ⟨⟨by simpa using h.1,.inr ⟨g,cap,cur.setIfInBounds j v,rfl,hb,hg.set j v,hnc,hcm,by simpa using hcs,?_⟩⟩,
    ⟨rfl,rfl,rfl,by simp,fun k _ hk=>heap_setCell_other w ⟨g,j,none⟩ k v (fun e=>hk (by simp [e]))⟩⟩
   rw [Array.toList_setIfInBounds,← htake,List.take_set]
end
def PO.holds (w:World) (H:Hp) (B:Hd) (lo:Nat) (u:Value):PO→Prop
 | .cells l=>∃ b vs,u=.pointer (some ⟨b,0,none⟩)∧Box w b vs∧vs.length=l.length∧(∀ (i:Nat) v x,vs[i]?=some v→l[i]?=some x→PR H B v x)∧lo≤b∧∀ j,H b j=none
 | .own e x=>∃ (k n:Nat) (get:Nat→List Lf) (vs:List Value),x.view0=some (k,n,get)∧Qcg w lo e k u n vs (isU8 x)∧(∀ i,i<n→(get i).length=k∧∀ j y,(get i)[j]?=some y→∃ v,vs[i * k+j]?=some v∧Rd H v y)∧∀ b,blk u=some b→∀ j,H b j=none
 | .tail e k=>u=.slice none 0 0∨∃ g n cap cur,u=.slice (some ⟨g,0,none⟩) n cap∧lo≤g∧w.heap[g]?=some (.cells cur e (0,0))∧n≤cap∧cap≤maxLen∧cur.size=cap * k∧∀ j,n * k≤j→H g j=none
 | .gone=>True
 | .map t has get ks vs=>∃ b es clock l,u=.map (some b)∧w.heap[b]?=some (.map es clock)∧Qop t es clock l∧lo≤b∧(∀ j,H b j=none)∧∀ key,OR H B ((asc t l key 0).map (·.2)) (Qbc t has get ks vs key)
 | .bld T y=>∃ b p v,u=.pointer (some ⟨b,0,none⟩)∧w.heap[b]?=some (.cells #[p,v] T (0,0))∧(p=.pointer none∨p=.pointer (some ⟨b,0,none⟩))∧PR H B v y∧lo≤b∧∀ j,H b j=none
def poL:PO→List PV
 | .cells l=>l
 | .map _ _ _ _ vs=>vs
 | .bld _ y=>[y]
 | _=>[]
structure PS where
 env:List (Nat × PV)
 ob:List PO
 deriving Inhabited
def look:List (Nat × PV)→Nat→Option PV
 | [],_=>none
 | (e,x)::l,d=>match Nat.beq e d with | true=>some x | false=>look l d
def PS.put (s:PS) (d:Option Nat) (x:PV):PS:=match d with | some d=>{ s with env:=(d,x)::s.env } | none=>s
def rawC:List Value→Option (List PV)
 | []=>some []
 | v::l=>match v.oneCell',rawC l with
  | true,some m=>some (.f (.v v)::m)
  | _,_=>none
def PS.ev (s:PS):Operand→Option PV
 | .tmp t=>look s.env t
 | .const (.agg cs)=>match rawC cs.toList with | some l=>some (.agg l) | none=>none
 | .const (.tuple _)=>none
 | .const v=>some (.f (.v v))
 | .func f=>some (.f (.v (.func (.func f) #[] #[])))
 | .global g=>some (.f (.v (.pointer (some ⟨g,0,none⟩))))
structure Gh where
 H:Hp
 B:Hd
structure Obs (K:Nat→Prop) (ob:List PO) (g:Gh) (w:World):Prop where
 fro:Fro g.H w
 lt:∀ o u b,g.B o=some u→blk u=some b→b<w.heap.size
 hold:∀ o x u,ob[o]?=some x→g.B o=some u→x.holds w g.H g.B 0 u
 apart:∀ o o' u u' b,o≠o'→g.B o=some u→g.B o'=some u'→blk u=some b→blk u'=some b→False
 dom:∀ o u,g.B o=some u→o<ob.length
 kept:∀ o u b,g.B o=some u→blk u=some b→¬ K b
structure Cx where
 K:Nat→Prop
 w:World
 B:Hd
 D:List Deferred
structure ExtK (c:Cx) (H:Hp) (w':World) (H':Hp):Prop where
 os:w'.os=c.w.os
 tape:w'.tape=c.w.tape
 output:w'.output=c.w.output
 size:c.w.heap.size≤w'.heap.size
 block:∀ b,c.K b→w'.heap[b]?=c.w.heap[b]?
 lt:∀ b,c.K b→b<c.w.heap.size
 le:H.le H'
 fro:Fro H' w'
 new:∀ b j v,H' b j=some v→H b j=none→¬ c.K b
theorem ExtK.kept {c:Cx} {H:Hp} {w:World} {H':Hp} (h:ExtK c H w H'):∀ b,c.K b→b<w.heap.size:=fun b hb=>Nat.lt_of_lt_of_le (h.lt b hb) h.size
theorem ExtK.trans {c:Cx} {w w':World} {H H' H'':Hp} (h:ExtK c H w H') (h':Ext w H' w' H''):ExtK c H w' H'':=by
 refine ⟨h'.bel.os.trans h.os,h'.bel.tape.trans h.tape,h'.bel.output.trans h.output,Nat.le_trans h.size h'.bel.size,fun b hb=>(h'.bel.block b (h.kept b hb)).trans (h.block b hb),h.lt,Hp.le_trans h.le h'.le,h'.fro,fun b j v h1 h2 hb=>?_⟩
 cases hh:H' b j with
 | none=>have:=h'.new b j v h1 hh; have:=h.kept b hb; omega
 | some u=>exact h.new b j u hh h2 hb
theorem ExtK.grown {c:Cx} {w w':World} {H H' H'':Hp} {row:Option Nat} (h:ExtK c H w H') (hg:w.grownBy w' row) (hr:∀ b,row=some b→¬ c.K b) (hle:H.le H'') (hf:Fro H'' w') (hn:∀ b j v,H'' b j=some v→H b j=none→¬ c.K b):ExtK c H w' H'' :=
 ⟨hg.os.trans h.os,hg.tape.trans h.tape,hg.output.trans h.output,Nat.le_trans h.size hg.size,fun b hb=>(hg.block b (h.kept b hb) (fun hc=>hr b hc.symm hb)).trans (h.block b hb),h.lt,hle,hf,hn⟩
def Cx.of (w:World):Cx:=⟨fun b=>b<w.heap.size,w,fun _=>none,[]⟩
theorem ExtK.ext {w:World} {H:Hp} {w':World} {H':Hp} (h:ExtK (Cx.of w) H w' H'):Ext w H w' H' :=
 ⟨⟨h.os,h.tape,h.output,h.size,h.block⟩,h.le,h.fro,fun b j v h1 h2=>Nat.le_of_not_lt (h.new b j v h1 h2)⟩
theorem ExtK.refl {c:Cx} {H:Hp} (h:Fro H c.w) (hl:∀ b,c.K b→b<c.w.heap.size):ExtK c H c.w H:=⟨rfl,rfl,rfl,Nat.le_refl _,fun _ _=>rfl,hl,H.le_refl,h,fun b j v h1 h2=>by rw [h1] at h2; cases h2⟩
abbrev Env:=(Nat→Prop)→World→Hp→Prop
theorem PO.mono {w w':World} {H H':Hp} {B B':Hd} {lo:Nat} {u:Value} {x:PO} (h:x.holds w H B lo u) (he:Ext w H w' H') (hb:B.le B'):x.holds w' H' B' lo u:=by
 have hno:∀ b,b<w.heap.size→(∀ j,H b j=none)→∀ j,H' b j=none:=by
  intro b hlt hn j
  cases hh:H' b j with
  | none=>rfl
  | some v=>have:=he.new b j v hh (hn j); omega
 cases x with
 | cells l =>
  obtain ⟨b,vs,rfl,h1,h2,h3,h4,h5⟩:=h
  exact ⟨b,vs,rfl,h1.below he.bel,h2,fun i v x hv hx=>(h3 i v x hv hx).mono he.le hb,h4,hno b h1.lt h5⟩
 | own e x =>
  obtain ⟨k,n,get,vs,hv,h1,h3,h4⟩:=h
  have h5:=h1.2
  refine ⟨k,n,get,vs,hv,⟨h1.1,?_⟩,fun i hi=>⟨(h3 i hi).1,fun j y hy=>by obtain ⟨v,q1,q2⟩:=(h3 i hi).2 j y hy; exact ⟨v,q1,q2.mono he.le⟩⟩,fun b hbk=>?_⟩
  · rcases h5 with h5 | ⟨g,cap,cur,hv,hg,hh,r⟩
    · exact .inl h5
    · exact .inr ⟨g,cap,cur,hv,hg,hh.keep (he.bel.block g hh.lt),r⟩
  · rcases h5 with ⟨rfl,_⟩ | ⟨g,cap,cur,rfl,hg,hh,r⟩
    · cases hbk
    · injection hbk with hbk
      subst hbk
      exact hno _ hh.lt (h4 _ rfl)
 | tail e k =>
  rcases h with h | ⟨g,n,cap,cur,rfl,h1,h2,h3,h4,h5,h6⟩
  · exact .inl h
  · have hlt:=(Array.getElem?_eq_some_iff.1 h2).1
    refine .inr ⟨g,n,cap,cur,rfl,h1,by rw [he.bel.block g hlt]; exact h2,h3,h4,h5,fun j hj=>?_⟩
    cases hh:H' g j with
    | none=>rfl
    | some v=>have:=he.new g j v hh (h6 j hj); omega
 | gone=>trivial
 | map t has get ks vs =>
  obtain ⟨b,es,clock,l,rfl,h1,h2,h3,h4,h5⟩:=h
  have hlt:=(Array.getElem?_eq_some_iff.1 h1).1
  exact ⟨b,es,clock,l,rfl,by rw [he.bel.block b hlt]; exact h1,h2,h3,hno b hlt h4,fun key=>QdW he.le key _ rfl (fun i x hx=>⟨x,hx,fun v hv=>hv.mono he.le hb⟩) (h5 key)⟩
 | bld T y =>
  obtain ⟨b,p,v,rfl,h1,h2,h3,h4,h5⟩:=h
  have hlt:=(Array.getElem?_eq_some_iff.1 h1).1
  exact ⟨b,p,v,rfl,by rw [he.bel.block b hlt]; exact h1,h2,h3.mono he.le hb,h4,hno b hlt h5⟩
theorem Obs.ext {lo:Nat→Prop} {ob:List PO} {g:Gh} {w w':World} {H':Hp} (h:Obs lo ob g w) (he:Ext w g.H w' H'):Obs lo ob ⟨H',g.B⟩ w' :=
 ⟨he.fro,fun o u b hu hb=>Nat.lt_of_lt_of_le (h.lt o u b hu hb) he.bel.size,fun o x u hx hu=>PO.mono (h.hold o x u hx hu) he (fun _ _ h=>h),h.apart,h.dom,h.kept⟩
end Go.Proofs.YtmbmbcamecfnkaaGreatDoor
namespace Go.Proofs.YtmbmbcamecfnkaaGreatDoor
open Go.RowKit
section
variable {P : Program} {Q : Exit → Act → World → Prop} {G : Type}
def Qax (o:Oper) (j:Nat):Bool:=o.after.any (fun e=>Region.binds .any e && e.on==j)
def QqR (P:Program) (os:List Oper) (a0:Act) (e0:G) (Le:G→G→Prop) (Inv:G→World→Prop) (F:Nat→G→Value→Prop) (dsts:List Nat) (i:Nat) (o:Oper):Prop :=
 ∀ (a:Act) (w:World) (g:G),(∀ e,e ∉ dsts→a.tmps.getD e undef=a0.tmps.getD e undef)→Inv g w→Le e0 g →
  (∀ j d,Qax o j=true→dsts[j]?=some d→F j g (a.tmps.getD d undef))→∃ v,Yields P os.toArray o v a∧F i g v
def QuI (P:Program) (Q:Exit→Act→World→Prop) (a0:Act) (e0:G) (Le:G→G→Prop) (Inv:G→World→Prop) (F:Nat→G→Value→Prop) (N:Nat→G→Prop) (dsts:List Nat) (i:Nat) (o:Oper):Prop :=
 ∀ (a:Act) (w:World) (g:G),(∀ e,e ∉ dsts→a.tmps.getD e undef=a0.tmps.getD e undef)→Inv g w→Le e0 g→N i g →
  (∀ j d,Qax o j=true→dsts[j]?=some d→F j g (a.tmps.getD d undef)) →
  ∀ K:Act→World→Prop,(∀ w' u g',Inv g' w'→Le g g'→(∀ j,j≠i→N j g→N j g')→F i g' u→K (a.put o.dst u) w') →
   ∀ k,QdL dsts (fun d=>a.tmps.getD d undef) o.guard=k→match k with | true=>o.wp P a w K Q | false=>K (a.put o.dst undef) w
def Qja (P:Program) (Q:Exit→Act→World→Prop) (os:List Oper) (Lt:List Nat) (a0:Act) (e0:G) (Le:G→G→Prop) (Inv:G→World→Prop) (F:Nat→G→Value→Prop) (N:Nat→G→Prop) (dsts:List Nat) (i:Nat) (o:Oper):Prop :=
 match Lt.contains i with
 | true=>QqR P os a0 e0 Le Inv F dsts i o
 | false=>QuI P Q a0 e0 Le Inv F N dsts i o
set_option maxHeartbeats 1000000 in
theorem QfG {os:List Oper} {id:Nat} {draw:Bool} {a0:Act} {w0:World} (hm:P.follows .mixedOrders=true) (e0:G) (Le:G→G→Prop) (Inv:G→World→Prop) (F:Nat→G→Value→Prop) (N:Nat→G→Prop) (dsts:List Nat) (n:Nat) (M Lt:List Nat) (hLt:draw=false→Lt=[]) (hQ:Lt≠[]→∀ c d v a w,Q (.panic c) (a.put d v) w→Q (.panic c) a w)
  (hok:Qf5 os dsts n a0.tmps.size M Lt draw=true) (hle0:∀ g,Le g g) (hle:∀ g g' g'',Le g g'→Le g' g''→Le g g'')
  (hmono:∀ i g g' t,F i g t→Le g g'→F i g' t) (hdr:∀ g w,Inv g w→Inv g { w with drawn:=w.drawn+1 }) (hI0:Inv e0 w0) (hN0:∀ i,i<n→N i e0)
  (steps:∀ i o,(os.take n)[i]?=some o→Qja P Q os Lt a0 e0 Le Inv F N dsts i o)
  (fin:∀ (a:Act) (g:G) (w:World),a.tmps.size=a0.tmps.size→a.defers=a0.defers→(∀ e,e ∉ dsts→a.tmps.getD e undef=a0.tmps.getD e undef)→Inv g w→Le e0 g →
   (∀ i d,dsts[i]?=some d→F i g (a.tmps.getD d undef))→wpList P os.toArray Q (os.drop n) a w) :
  (Code.region id os.toArray draw).wp P Q a0 w0:=by
 have hk:=hok
 unfold Qf5 at hk
 simp only [Bool.and_eq_true,beq_iff_eq,decide_eq_true_eq,List.all_eq_true] at hk
 obtain ⟨⟨⟨⟨⟨⟨⟨⟨h1,h2⟩,h3⟩,h4⟩,h5⟩,h6⟩,h7⟩,hsel⟩,hlt⟩:=hk
 have hlen:dsts.length=n:=by have:=congrArg List.length h1; simpa [h6] using this.symm
 refine Qcv hm (fun i o hi e he hb=>Qc8 h4 (by rw [List.getElem?_toArray] at hi; exact hi) he hb) (I:=fun listed a w=>listed.size=os.length ∧
   (∀ (i:Nat) (o:Oper),os[i]?=some o→listed.getD i false=true→∀ e∈o.after,Region.binds .any e=true→listed.getD e.on false=true) ∧
   (((∀ i,n≤i→listed.getD i false=false)∧a.tmps.size=a0.tmps.size∧a.defers=a0.defers∧(∀ e,e ∉ dsts→a.tmps.getD e undef=a0.tmps.getD e undef)∧(∃ g:G,Inv g w∧Le e0 g∧(∀ i d,listed.getD i false=true→dsts[i]?=some d→F i g (a.tmps.getD d undef))∧∀ i,i<n→listed.getD i false=false→N i g)) ∨
    ∃ k,n≤k∧k≤os.length∧(∀ i,i<k→listed.getD i false=true)∧(∀ i,k≤i→listed.getD i false=false)∧wpOps P os.toArray Q (List.range' k (os.length - k)) a w)) Lt hLt hsel (fun i hi=>(hlt i hi).2) hQ ?_ ?_ ?_ ?_
 · have hf:∀ i,(Array.replicate os.toArray.size false).getD i false=false:=by
    intro i
    rw [Array.getD_eq_getD_getElem?,Array.getElem?_replicate]
    split <;> rfl
   intro w' hw'
   have hI':Inv e0 w':=by
    rcases hw' with h | h
    · rw [h]; exact hI0
    · rw [h]; exact hdr _ _ hI0
   refine ⟨by simp,fun i o _ h=>?_,.inl ⟨fun i _=>hf i,rfl,rfl,fun _ _=>rfl,e0,hI',hle0 _,fun i d h=>?_,fun i hi _=>hN0 i hi⟩⟩
   · rw [hf] at h; cases h
   · rw [hf] at h; cases h
 · intro listed a w hI hnl i hi hrd hp
   obtain ⟨hl,ox,hox,hdx⟩:=mem_ready.1 hrd
   have ho:∀ o,os.toArray[i]?=some o→∀ e∈o.after,Region.binds .any e=true→listed.getD e.on false=true:=fun o h=>by rw [hox] at h; injection h with h; subst h; exact hdx
   obtain ⟨g0,g1,g2⟩:=hI
   have hil:i<os.length:=by simpa using hi
   have hio:os[i]?=some os[i]:=List.getElem?_eq_getElem hil
   have hio2:os.toArray[i]?=some os[i]:=by rw [List.getElem?_toArray]; exact hio
   have hdep:=ho _ hio2
   have hlf:=Qqc hl
   have hself:(listed.setIfInBounds i true).getD i false=true:=QaF (by omega)
   have hdown:∀ (j:Nat) (o:Oper),os[j]?=some o→(listed.setIfInBounds i true).getD j false=true→∀ e∈o.after,Region.binds .any e=true→(listed.setIfInBounds i true).getD e.on false=true:=by
    intro j o hj hjl e he hb
    by_cases hei:e.on=i
    · rw [hei]; exact hself
    rw [Qaj hei]
    by_cases hji:j=i
    · subst hji
      rw [hio] at hj
      injection hj with hj
      subst hj
      exact hdep e he hb
    · rw [Qaj hji] at hjl
      exact g1 j o hj hjl e he hb
   have hsz':(listed.setIfInBounds i true).size=os.length:=by simpa using g0
   by_cases hin:i<n
   · -- one of the first
     rcases g2 with ⟨p0,p1,p2,p3,g,p4,p7,p5,p6⟩ | ⟨k,q0,q1,q2,q3,q4⟩
     rotate_left
     · exfalso
       have:=q2 i (by omega)
       rw [this] at hlf; cases hlf
     have hid:dsts[i]?=some dsts[i]:=List.getElem?_eq_getElem (by omega)
     have hiot:(os.take n)[i]?=some os[i]:=by rw [List.getElem?_take,if_pos hin]; exact hio
     have hod:(os[i]).dst=some dsts[i]:=by
      have:=congrArg (fun l=>l[i]?) h1
      simp only [List.getElem?_map,hiot,hid,Option.map_some,Option.some.injEq] at this
      exact this
     have hst:=steps i _ hiot
     have hnLt:Lt.contains i=false:=by
      cases hc:Lt.contains i with
      | false=>rfl
      | true=>exact absurd hrd (hnl i (by simpa using hc))
     unfold Qja at hst
     rw [hnLt] at hst
     dsimp only at hst
     have hdm:dsts[i]∈dsts:=List.getElem_mem _
     have hdb:=h3 _ hdm
     have hnodx:∀ (m:Nat) (x:Nat),m≠i→dsts[m]?=some x→x≠dsts[i]:=by
      intro m x hmi hx hc
      obtain ⟨hjl,hje⟩:=List.getElem?_eq_some_iff.1 hx
      have hil2:i<dsts.length:=by omega
      rcases Nat.lt_or_gt_of_ne hmi with hlt | hlt
      · exact (List.pairwise_iff_getElem.1 h2 m i hjl hil2 hlt) (by rw [hje,hc])
      · exact (List.pairwise_iff_getElem.1 h2 i m hil2 hjl hlt) (by rw [hje,hc])
     have hK:∀ w' u g',Inv g' w'→Le g g'→(∀ j,j≠i→N j g→N j g')→F i g' u→(listed.setIfInBounds i true).size=os.length ∧
       (∀ (j:Nat) (o:Oper),os[j]?=some o→(listed.setIfInBounds i true).getD j false=true→∀ e∈o.after,Region.binds .any e=true→(listed.setIfInBounds i true).getD e.on false=true) ∧
       (((∀ j,n≤j→(listed.setIfInBounds i true).getD j false=false)∧(a.put (os[i]).dst u).tmps.size=a0.tmps.size∧(a.put (os[i]).dst u).defers=a0.defers∧(∀ e,e ∉ dsts→(a.put (os[i]).dst u).tmps.getD e undef=a0.tmps.getD e undef) ∧
        (∃ g:G,Inv g w'∧Le e0 g∧(∀ j d,(listed.setIfInBounds i true).getD j false=true→dsts[j]?=some d→F j g ((a.put (os[i]).dst u).tmps.getD d undef))∧∀ j,j<n→(listed.setIfInBounds i true).getD j false=false→N j g)) ∨
        ∃ k,n≤k∧k≤os.length∧(∀ j,j<k→(listed.setIfInBounds i true).getD j false=true)∧(∀ j,k≤j→(listed.setIfInBounds i true).getD j false=false)∧wpOps P os.toArray Q (List.range' k (os.length - k)) (a.put (os[i]).dst u) w'):=by
      intro w' u g' hIg' hLg' hNg' hF
      refine ⟨hsz',hdown,.inl ⟨fun j hj=>?_,?_,?_,fun e he=>?_,g',hIg',hle _ _ _ p7 hLg',fun j d hj hd=>?_,fun j hj hjl=>?_⟩⟩
      · rw [Qaj (by omega)]; exact p0 j hj
      · rw [hod]; simp [Act.put,p1]
      · rw [hod]; exact p2
      · rw [hod,QaO,if_neg (by rintro ⟨rfl,-⟩; exact he hdm)]
        exact p3 e he
      · by_cases hji:j=i
        · subst hji
          rw [hid] at hd
          injection hd with hd
          rw [hod,QaO,if_pos ⟨hd.symm,by rw [p1]; exact hdb⟩]
          exact hF
        · rw [Qaj hji] at hj
          rw [hod,QaO,if_neg]
          · exact hmono _ _ _ _ (p5 j d hj hd) hLg'
          · rintro ⟨hc,-⟩
            exact hnodx j d hji hd hc
      · have hji:j≠i:=by rintro rfl; rw [hself] at hjl; cases hjl
        rw [Qaj hji] at hjl
        exact hNg' j hji (p6 j hj hjl)
     refine Qh5 hio2 fun K hKK=>?_
     have hst':=hst a w g p3 p4 p7 (p6 i hin hlf) (fun j d' hj hd'=>by
      unfold Qax at hj
      rw [Array.any_eq_true] at hj
      obtain ⟨q,hq,hj⟩:=hj
      rw [Bool.and_eq_true,beq_iff_eq] at hj
      have hjl:=hdep _ (Array.getElem_mem hq) hj.1
      rw [hj.2] at hjl
      exact p5 j d' hjl hd') K (fun w' u g' h1 h2 h3 h4=>hKK _ _ (hK w' u g' h1 h2 h3 h4))
     have hwb:Region.wanted os[i] (yielded os.toArray a.tmps)=QdL dsts (fun d=>a.tmps.getD d undef) (os[i]).guard:=by
      unfold Region.wanted QdL
      cases hgd:(os[i]).guard with
      | none=>rfl
      | some p =>
       obtain ⟨j,want⟩:=p
       have hjn:j<n:=by
        have h8:=h7 _ (List.mem_of_getElem? hiot)
        rw [hgd] at h8
        simpa using h8
       have hj:(os.toArray[j]?).bind (·.dst)=dsts[j]?:=by
        have:=congrArg (fun l=>l[j]?) h1
        simp only [List.getElem?_map,List.getElem?_take,if_pos hjn] at this
        rw [List.getElem?_toArray]
        cases h:os[j]? with
        | none=>rw [h] at this; cases h':dsts[j]? with
         | none=>rfl
         | some d=>rw [h'] at this; simp at this
        | some x=>rw [h] at this; cases h':dsts[j]? with
         | none=>rw [h'] at this; simp at this
         | some d=>rw [h'] at this; simpa using this
       simp only [yielded,hj]
       cases h':dsts[j]? with
       | none=>rfl
       | some d =>
        have hd:d<a.tmps.size:=by rw [p1]; exact h3 d (List.mem_of_getElem? h')
        simp only [Option.bind_some,Array.getD_eq_getD_getElem?,Array.getElem?_eq_getElem hd,Option.getD_some]
        generalize a.tmps[d]=v
        cases v <;> rfl
     rw [hwb]
     have:=hst' _ rfl
     split at this
     · rename_i h; rw [if_pos h]; exact this
     · rename_i h; rw [if_neg (by rw [h]; simp)]; exact this
   · -- one that waits for all
     have hall:∀ j,j<i→listed.getD j false=true:=by
      intro j hj
      cases draw with
      | false=>exact hp rfl j hj
      | true=>exact QpQ h4 (by simpa using h5) listed g0 g1 hnl (by omega) hio hdep j hj
     have hw:wpOps P os.toArray Q (List.range' i (os.length - i)) a w∧(∀ j,i≤j→listed.getD j false=false):=by
      rcases g2 with ⟨p0,p1,p2,p3,g,p4,p7,p5,p6⟩ | ⟨k,q0,q1,q2,q3,q4⟩
      · have hie:i=n:=by
         refine Decidable.byContradiction fun hc=>?_
         have e1:=hall n (by omega)
         rw [p0 n (Nat.le_refl _)] at e1; cases e1
        subst hie
        refine ⟨?_,p0⟩
        have:=fin a g w p1 p2 p3 p4 p7 (fun j d hd=>p5 j d (hall j (by
         have:=(List.getElem?_eq_some_iff.1 hd).1; omega)) hd)
        have he:=wpOps_eq_wpList (P:=P) (ops:=os.toArray) (Q:=Q) (os.drop i) i (fun j=>by rw [List.getElem?_drop,List.getElem?_toArray])
        rw [List.length_drop] at he
        rw [he]
        exact this
      · have hki:k=i:=by
         rcases Nat.lt_trichotomy k i with h | h | h
         · have:=hall k h; rw [q3 k (Nat.le_refl _)] at this; cases this
         · exact h
         · have:=q2 i h; rw [this] at hlf; cases hlf
        subst hki
        exact ⟨q4,q3⟩
     obtain ⟨hw,hrest⟩:=hw
     rw [show os.length - i=(os.length - (i+1))+1 by omega,List.range'_succ,wpOps_cons] at hw
     refine wpOp_mono (fun a' w' h=>⟨hsz',hdown,.inr ⟨i+1,by omega,by omega,fun j hj=>?_,fun j hj=>?_,h⟩⟩) hw
     · by_cases hji:j=i
       · subst hji; exact hself
       · rw [Qaj hji]; exact hall j (by omega)
     · rw [Qaj (by omega)]; exact hrest j (by omega)
 · intro listed a w hI i hiL hrd
   obtain ⟨hl,ox,hox,hdx⟩:=mem_ready.1 hrd
   have hi:i<os.toArray.size:=(Array.getElem?_eq_some_iff.1 hox).1
   have ho:∀ o,os.toArray[i]?=some o→∀ e∈o.after,Region.binds .any e=true→listed.getD e.on false=true:=fun o h=>by rw [hox] at h; injection h with h; subst h; exact hdx
   obtain ⟨g0,g1,g2⟩:=hI
   have hil:i<os.length:=by simpa using hi
   have hio:os[i]?=some os[i]:=List.getElem?_eq_getElem hil
   have hio2:os.toArray[i]?=some os[i]:=by rw [List.getElem?_toArray]; exact hio
   have hdep:=ho _ hio2
   have hlf:=Qqc hl
   have hself:(listed.setIfInBounds i true).getD i false=true:=QaF (by omega)
   have hdown:∀ (j:Nat) (o:Oper),os[j]?=some o→(listed.setIfInBounds i true).getD j false=true→∀ e∈o.after,Region.binds .any e=true→(listed.setIfInBounds i true).getD e.on false=true:=by
    intro j o hj hjl e he hb
    by_cases hei:e.on=i
    · rw [hei]; exact hself
    rw [Qaj hei]
    by_cases hji:j=i
    · subst hji
      rw [hio] at hj
      injection hj with hj
      subst hj
      exact hdep e he hb
    · rw [Qaj hji] at hjl
      exact g1 j o hj hjl e he hb
   have hsz':(listed.setIfInBounds i true).size=os.length:=by simpa using g0
   have hin:i<n:=(hlt i hiL).1
   · -- one of the first
     rcases g2 with ⟨p0,p1,p2,p3,g,p4,p7,p5,p6⟩ | ⟨k,q0,q1,q2,q3,q4⟩
     rotate_left
     · exfalso
       have:=q2 i (by omega)
       rw [this] at hlf; cases hlf
     have hid:dsts[i]?=some dsts[i]:=List.getElem?_eq_getElem (by omega)
     have hiot:(os.take n)[i]?=some os[i]:=by rw [List.getElem?_take,if_pos hin]; exact hio
     have hod:(os[i]).dst=some dsts[i]:=by
      have:=congrArg (fun l=>l[i]?) h1
      simp only [List.getElem?_map,hiot,hid,Option.map_some,Option.some.injEq] at this
      exact this
     have hst:=steps i _ hiot
     have hcL:Lt.contains i=true:=by simpa using hiL
     unfold Qja at hst
     rw [hcL] at hst
     dsimp only at hst
     have hdm:dsts[i]∈dsts:=List.getElem_mem _
     have hdb:=h3 _ hdm
     have hnodx:∀ (m:Nat) (x:Nat),m≠i→dsts[m]?=some x→x≠dsts[i]:=by
      intro m x hmi hx hc
      obtain ⟨hjl,hje⟩:=List.getElem?_eq_some_iff.1 hx
      have hil2:i<dsts.length:=by omega
      rcases Nat.lt_or_gt_of_ne hmi with hlt | hlt
      · exact (List.pairwise_iff_getElem.1 h2 m i hjl hil2 hlt) (by rw [hje,hc])
      · exact (List.pairwise_iff_getElem.1 h2 i m hil2 hjl hlt) (by rw [hje,hc])
     have hK:∀ w' u g',Inv g' w'→Le g g'→(∀ j,j≠i→N j g→N j g')→F i g' u→(listed.setIfInBounds i true).size=os.length ∧
       (∀ (j:Nat) (o:Oper),os[j]?=some o→(listed.setIfInBounds i true).getD j false=true→∀ e∈o.after,Region.binds .any e=true→(listed.setIfInBounds i true).getD e.on false=true) ∧
       (((∀ j,n≤j→(listed.setIfInBounds i true).getD j false=false)∧(a.put (os[i]).dst u).tmps.size=a0.tmps.size∧(a.put (os[i]).dst u).defers=a0.defers∧(∀ e,e ∉ dsts→(a.put (os[i]).dst u).tmps.getD e undef=a0.tmps.getD e undef) ∧
        (∃ g:G,Inv g w'∧Le e0 g∧(∀ j d,(listed.setIfInBounds i true).getD j false=true→dsts[j]?=some d→F j g ((a.put (os[i]).dst u).tmps.getD d undef))∧∀ j,j<n→(listed.setIfInBounds i true).getD j false=false→N j g)) ∨
        ∃ k,n≤k∧k≤os.length∧(∀ j,j<k→(listed.setIfInBounds i true).getD j false=true)∧(∀ j,k≤j→(listed.setIfInBounds i true).getD j false=false)∧wpOps P os.toArray Q (List.range' k (os.length - k)) (a.put (os[i]).dst u) w'):=by
      intro w' u g' hIg' hLg' hNg' hF
      refine ⟨hsz',hdown,.inl ⟨fun j hj=>?_,?_,?_,fun e he=>?_,g',hIg',hle _ _ _ p7 hLg',fun j d hj hd=>?_,fun j hj hjl=>?_⟩⟩
      · rw [Qaj (by omega)]; exact p0 j hj
      · rw [hod]; simp [Act.put,p1]
      · rw [hod]; exact p2
      · rw [hod,QaO,if_neg (by rintro ⟨rfl,-⟩; exact he hdm)]
        exact p3 e he
      · by_cases hji:j=i
        · subst hji
          rw [hid] at hd
          injection hd with hd
          rw [hod,QaO,if_pos ⟨hd.symm,by rw [p1]; exact hdb⟩]
          exact hF
        · rw [Qaj hji] at hj
          rw [hod,QaO,if_neg]
          · exact hmono _ _ _ _ (p5 j d hj hd) hLg'
          · rintro ⟨hc,-⟩
            exact hnodx j d hji hd hc
      · have hji:j≠i:=by rintro rfl; rw [hself] at hjl; cases hjl
        rw [Qaj hji] at hjl
        exact hNg' j hji (p6 j hj hjl)
     obtain ⟨v,hy,hF⟩:=hst a w g p3 p4 p7 (fun j d' hj hd'=>by
      unfold Qax at hj
      rw [Array.any_eq_true] at hj
      obtain ⟨q,hq,hj⟩:=hj
      rw [Bool.and_eq_true,beq_iff_eq] at hj
      have hjl:=hdep _ (Array.getElem_mem hq) hj.1
      rw [hj.2] at hjl
      exact p5 j d' hjl hd')
     exact ⟨os[i],v,hio2,hy,hK w v g p4 (hle0 _) (fun _ _ h=>h) hF⟩
 · intro listed a w hI hr
   obtain ⟨g0,g1,g2⟩:=hI
   have hall:∀ k i,i<k→i<os.length→listed.getD i false=true:=by
    intro k
    induction k with
    | zero=>intro i h; omega
    | succ k ih =>
     intro i hi his
     by_cases hin:i<k
     · exact ih i hin his
     obtain rfl:i=k:=by omega
     refine Decidable.byContradiction fun hc=>?_
     have hio:os[i]?=some os[i]:=List.getElem?_eq_getElem his
     have hmem:i∈Region.ready .any os.toArray listed:=by
      refine mem_ready.2 ⟨Qt6 (by omega) (by simpa using hc),_,by rw [List.getElem?_toArray]; exact hio,fun e he hb=>?_⟩
      have:=Qc8 h4 hio he hb
      exact ih e.on this (by omega)
     rw [hr] at hmem
     cases hmem
   rcases g2 with ⟨p0,p1,p2,p3,g,p4,p7,p5,p6⟩ | ⟨k,q0,q1,q2,q3,q4⟩
   · have hn:n=os.length:=by
      refine Decidable.byContradiction fun hc=>?_
      have:=hall (n+1) n (by omega) (by omega)
      rw [p0 n (Nat.le_refl _)] at this; cases this
     have hx:∀ j,j<n→listed.getD j false=true:=fun j hj=>hall (j+1) j (by omega) (by omega)
     have:=fin a g w p1 p2 p3 p4 p7 (fun j d hd=>p5 j d (hx j (by
      have:=(List.getElem?_eq_some_iff.1 hd).1; omega)) hd)
     rw [List.drop_of_length_le (by omega)] at this
     exact this
   · have hk:k=os.length:=by
      refine Decidable.byContradiction fun hc=>?_
      have:=hall (k+1) k (by omega) (by omega)
      rw [q3 k (Nat.le_refl _)] at this; cases this
     subst hk
     rw [Nat.sub_self] at q4
     exact q4
end
end Go.Proofs.YtmbmbcamecfnkaaGreatDoor
namespace Go.Proofs.YtmbmbcamecfnkaaGreatDoor
set_option linter.unusedVariables false
open Go.RowKit
def peel {α:Type} (P:Program):Sem α→Option α
 | .pure v=>some v
 | .program k=>peel P (k P)
 | _=>none
theorem Qiz {α:Type} {P:Program}:∀ (s:Sem α) {v:α},peel P s=some v→∀ w,s.run P w=.ok v w
 | .pure v,u,h,w=>by simp only [peel,Option.some.injEq] at h; subst h; rfl
 | .program k,u,h,w=>by simp only [peel] at h; exact Qiz (k P) h w
 | .load ..,u,h,w=>by simp [peel] at h
 | .store ..,u,h,w=>by simp [peel] at h
 | .new ..,u,h,w=>by simp [peel] at h
 | .shape ..,u,h,w=>by simp [peel] at h
 | .freeze ..,u,h,w=>by simp [peel] at h
 | .frozen ..,u,h,w=>by simp [peel] at h
 | .getObj ..,u,h,w=>by simp [peel] at h
 | .setObj ..,u,h,w=>by simp [peel] at h
 | .choose ..,u,h,w=>by simp [peel] at h
 | .sys ..,u,h,w=>by simp [peel] at h
 | .mark ..,u,h,w=>by simp [peel] at h
 | .halt ..,u,h,w=>by simp [peel] at h
def ifB (b:Bool) (x y:Prop):Prop:=Bool.rec y x b
theorem Qae {b:Bool} {x y:Prop}:ifB b x y↔(b=true→x)∧(b=false→y):=by cases b <;> simp [ifB]
theorem Qbf {b:Bool} {x y:Prop} (h:ifB b x y):(b=true∧x)∨(b=false∧y):=by
 cases b
 · exact .inr ⟨rfl,h⟩
 · exact .inl ⟨rfl,h⟩
def need:Option Prop→Prop→Prop
 | none,k=>k
 | some p,k=>p∧k
def nth {α:Type}:List α→Nat→Option α
 | [],_=>none
 | x::_,0=>some x
 | _::l,n+1=>nth l n
theorem Qap {α:Type}:∀ (l:List α) (n:Nat),nth l n=l[n]?
 | [],n=>by simp [nth]
 | x::l,0=>by simp [nth]
 | x::l,n+1=>by simp [nth,Qap l n]
def leafs:List PV→Option (List Lf)
 | []=>some []
 | .f x::l=>match leafs l with | some m=>some (x::m) | none=>none
 | _::_=>none
theorem QcX:∀ {l:List PV} {m:List Lf},leafs l=some m→m.length=l.length∧∀ (i:Nat) (x:Lf),m[i]?=some x→l[i]?=some (PV.f x)
 | [],m,h=>by simp only [leafs,Option.some.injEq] at h; subst h; simp
 | .f y::l,m,h=>by
  simp only [leafs] at h
  cases h1:leafs l with
  | none=>rw [h1] at h; simp at h
  | some m' =>
   rw [h1] at h
   simp only [Option.some.injEq] at h
   subst h
   obtain ⟨h2,h3⟩:=QcX h1
   refine ⟨by simp [h2],fun i x hx=>?_⟩
   cases i with
   | zero=>simp at hx; subst hx; rfl
   | succ i=>simpa using h3 i x (by simpa using hx)
 | .bp ..::l,m,h=>by simp [leafs] at h
 | .ep ..::l,m,h=>by simp [leafs] at h
 | .tl ..::l,m,h=>by simp [leafs] at h
 | .wr ..::l,m,h=>by simp [leafs] at h
 | .wp ..::l,m,h=>by simp [leafs] at h
 | .any::l,m,h=>by simp [leafs] at h
 | .agg ..::l,m,h=>by simp [leafs] at h
 | .tup ..::l,m,h=>by simp [leafs] at h
 | .fn ..::l,m,h=>by simp [leafs] at h
 | .ifc ..::l,m,h=>by simp [leafs] at h
def QeV:PV→List PV
 | .agg l=>l
 | x=>[x]
def QhW:PV→Bool
 | .tup _=>false
 | .wp ..=>false
 | .any=>false
 | _=>true
def Qsy:PV→Bool
 | .f _=>true
 | .bp ..=>true
 | .ep _=>true
 | .fn ..=>true
 | .ifc ..=>true
 | .tl ..=>true
 | .wr _=>true
 | _=>false
mutual
def Qdt:PV→Bool
 | .f _=>true
 | .ep _=>true
 | .bp ..=>false
 | .tl ..=>false
 | .wr _=>false
 | .wp ..=>false
 | .any=>false
 | .agg l=>QgK l
 | .tup l=>QgK l
 | .fn _ l m=>match QgK l with | true=>QgK m | false=>false
 | .ifc _ x=>Qdt x
def QgK:List PV→Bool
 | []=>true
 | x::l=>match Qdt x with | true=>QgK l | false=>false
end
theorem QdS:∀ {l:List PV},QgK l=true→∀ (i:Nat) x,l[i]?=some x→Qdt x=true
 | [],_,i,x,h=>by simp at h
 | y::l,h,i,x,hx=>by
  simp only [QgK] at h
  split at h
  · rename_i hy
    cases i with
    | zero=>simp at hx; subst hx; exact hy
    | succ i=>exact QdS h i x (by simpa using hx)
  · cases h
theorem PR.pure {H:Hp} {B:Hd} {v:Value} {x:PV} (h:PR H B v x):Qdt x=true→PR H (fun _=>none) v x:=by
 induction h with
 | f h=>intro _; exact .f h
 | bp h=>intro hp; simp [Qdt] at hp
 | ep b o val hc h=>intro _; exact .ep b o val hc h
 | tl h hb=>intro hp; simp [Qdt] at hp
 | wr hb h1=>intro hp; simp [Qdt] at hp
 | wp hb hi=>intro hp; simp [Qdt] at hp
 | any=>intro hp; simp [Qdt] at hp
 | agg hn h ih=>intro hp; exact .agg hn fun i v x hv hx=>ih i v x hv hx (QdS (by simpa [Qdt] using hp) i x hx)
 | tup hn h ih=>intro hp; exact .tup hn fun i v x hv hx=>ih i v x hv hx (QdS (by simpa [Qdt] using hp) i x hx)
 | fn hm h1 hn h2 ih1 ih2 =>
  intro hp
  unfold Qdt at hp
  split at hp
  · rename_i hl; exact .fn hm (fun i v x hv hx=>ih1 i v x hv hx (QdS hl i x hx)) hn fun i v x hv hx=>ih2 i v x hv hx (QdS hp i x hx)
  · cases hp
 | ifc h ih=>intro hp; exact .ifc (ih (by simpa [Qdt] using hp))
section
variable (P : Program)
def aggT (t:TypeId):Option Bool:=match P.underlying t with
 | some (.struct _)=>some true
 | some (.array _ _)=>some true
 | some _=>some false
 | none=>none
def szT (t:TypeId):Option Nat:=match P.info? t with
 | some i=>some i.size
 | none=>none
def fldT (t:TypeId) (f:Nat):Option Field:=match P.underlying t with
 | some (.struct fs)=>fs[f]?
 | _=>none
def Qg2 (t:TypeId):Option TypeId:=match P.underlying t with
 | some (.slice e)=>some e
 | _=>none
def Qot (t:TypeId):Option Value:=match P.info? t with
 | some i=>i.zero
 | none=>none
def cut {α:Type} (l:List α) (k n:Nat):Option (List α):=match Nat.ble (k+n) l.length with
 | true=>some ((l.drop k).take n)
 | false=>none
def QtQ:PV→PV
 | .f (.zn z)=>.f (.v (.bool (zNeg z)))
 | x=>x
def QkU (t:TypeId) (l:List PV) (off:Nat):Option PV:=match aggT P t,szT P t with
 | some true,some n=>match cut l off n with | some m=>some (.agg m) | none=>none
 | some false,_=>match nth l off with | some x=>some (QtQ x) | none=>none
 | _,_=>none
def QaU:List Lf→List PV
 | []=>[]
 | x::l=>.f x::QaU l
def QpV (s:PS) (t:TypeId):PV→Option PV
 | .bp o off=>match nth s.ob o with
  | some (.cells l)=>QkU P t l off
  | _=>none
 | .ep l=>QkU P t (QaU l) 0
 | .wp o k i=>match nth s.ob o,aggT P t with
  | some (.own _ (.is kd l)),some false=>match Nat.beq k 1 with
   | true=>some (.f (.v (.int kd (l.getD i 0))))
   | false=>none
  | some (.own _ (.dt sh l)),some _=>match Nat.beq k sh.k with
   | true=>QkU P t (QaU (sh.cells (l.getD i sh.nil))) 0
   | false=>none
  | _,_=>none
 | _=>none
def setL {α:Type}:List α→Nat→α→List α
 | [],_,_=>[]
 | _::l,0,y=>y::l
 | x::l,n+1,y=>x::setL l n y
def putL (l:List PV) (off:Nat):List PV→List PV
 | []=>l
 | x::m=>putL (setL l off x) (off+1) m
def Qfn (t:TypeId) (f:Nat) (x:PV):Option PV:=match fldT P t f with
 | some fd=>match szT P fd.type with
  | some (_+1)=>match x with
   | .bp o off=>some (.bp o (off+fd.offset))
   | .ep l=>some (.ep (l.drop fd.offset))
   | _=>none
  | _=>none
 | none=>none
def Qqk (t:TypeId) (f:Nat) (x:PV):Option PV:=match fldT P t f,x with
 | some fd,.agg l=>QkU P fd.type l fd.offset
 | _,_=>none
def Qfl (t:TypeId) (x i:PV):Option (Option Prop × PV):=match Qg2 P t,x,i with
 | some e,.f y,.f (.v (.int _ i))=>match szT P e,y.view with
  | some k,some (k',n,get)=>match Nat.beq k k' with
   | true=>some (some (0≤i∧i<n),.ep (get i.toNat))
   | false=>none
  | _,_=>none
 | _,_,_=>none
def lenW (s:PS) (t:TypeId) (x:PV):Option PV:=match x with
 | .wr o=>match P.underlying t,nth s.ob o with
  | some (.slice _),some (.own _ y)=>match y.view0 with
   | some (_,n,_)=>some (.f (.v (.int .i64 n)))
   | none=>none
  | _,_=>none
 | _=>none
def Qp9 (s:PS) (t:TypeId) (x i:PV):Option (Option Prop × PV):=match x with
 | .wr o=>match Qg2 P t,nth s.ob o,i with
  | some e,some (.own _ y),.f (.v (.int _ i))=>match szT P e,y.view0 with
   | some k,some (k',n,_)=>match Nat.beq k k' with
    | true=>some (some (0≤i∧i<n),.wp o k i.toNat)
    | false=>none
   | _,_=>none
  | _,_,_=>none
 | _=>none
def Qos (t:TypeId) (n:Nat):Option (TypeId × Nat × Nat × Lf):=match Qg2 P t with
 | some e=>match P.info? e with
  | some i=>match i.zero with
   | some (.int kd z)=>match Nat.beq i.size 1 with
    | true=>some (e,1,i.bytes,.is kd (List.replicate n z))
    | false=>none
   | some zv=>match rawC zv.cells.toList with
    | some zl=>match leafs zl with
     | some l=>match Nat.beq l.length i.size && Nat.ble 1 i.size with
      | true=>some (e,i.size,i.bytes,.row i.size (List.replicate n l))
      | false=>none
     | none=>none
    | none=>none
   | none=>none
  | none=>none
 | none=>none
def Qn9 (place:Nat→Option (Nat × Nat)) (cs:List PV):List (Nat × PV)→Option (List PV)
 | []=>some cs
 | (i,x)::r=>match place i with
  | some (off,n)=>match Nat.beq (QeV x).length n with
   | true=>match Nat.ble (off+n) cs.length && QhW x with
    | true=>Qn9 place (putL cs off (QeV x)) r
    | false=>none
   | false=>none
  | none=>none
def Qeq (t:TypeId) (i:Nat):Option (Nat × Nat):=match fldT P t i with
 | some fd=>match szT P fd.type with
  | some n=>some (fd.offset,n)
  | none=>none
 | none=>none
def Qnm (t:TypeId):Option (List PV):=match Qot P t with
 | some z=>rawC z.cells.toList
 | none=>none
def allF (t:TypeId):Bool:=match P.underlying t with
 | some (.struct fs)=>fs.toList.all fun f=>(szT P f.type).isSome
 | _=>false
def QqK (t:TypeId) (ps:List (Nat × PV)):Option PV:=match Qnm P t,allF P t with
 | some z,true=>match Qn9 (Qeq P t) z ps with
  | some l=>some (.agg l)
  | none=>none
 | _,_=>none
def chunk {α:Type} (k:Nat):Nat→List α→List (List α)
 | 0,_=>[]
 | n+1,l=>l.take k::chunk k n (l.drop k)
def repL {α:Type} (l:List α):Nat→List α
 | 0=>[]
 | n+1=>l++repL l n
def Qc4 (t:TypeId) (len:Nat) (ps:List (Nat × PV)):Option PV:=match Qg2 P t with
 | some e=>match szT P e,Qnm P e with
  | some k,some z=>match Nat.beq z.length k with
   | true=>match Nat.ble (len * k) 16777216,Nat.ble 1 k with
    | true,true=>match Qn9 (fun i=>some (i * k,k)) (repL z len) ps with
     | some l=>match leafs l with
      | some m=>some (.f (.row k (chunk k len m)))
      | none=>none
     | none=>none
    | _,_=>none
   | false=>none
  | _,_=>none
 | none=>none
def lenP (t:TypeId) (x:PV):Option PV:=match P.underlying t,x with
 | some (.slice _),.f y=>match y.view with
  | some (_,n,_)=>some (.f (.v (.int .i64 n)))
  | none=>match y with
   | .v (.slice _ n _)=>some (.f (.v (.int .i64 n)))
   | _=>none
 | some .string,.f (.v (.string s))=>some (.f (.v (.int .i64 s.size)))
 | _,_=>none
end
inductive Rs:Type 1 where
 | one (x:PV)
 | nm (α:Type) (e:α) (r:α→PV)
 | nm2 (α β:Type) (e:α) (e':β) (r:α→β→PV)
def Rs.out:Rs→PV
 | .one x=>x
 | .nm _ e r=>r e
 | .nm2 _ _ e e' r=>r e e'
def bindR:Rs→(PV→Prop)→Prop
 | .one x,k=>k x
 | .nm α e r,k=>∀ y:α,y=e→k (r y)
 | .nm2 α β e e' r,k=>∀ y:α,y=e→∀ z:β,z=e'→k (r y z)
theorem Qhc {r:Rs} {k:PV→Prop} (h:bindR r k):k r.out:=by
 cases r with
 | one x=>exact h
 | nm α e r=>exact h e rfl
 | nm2 α β e e' r=>exact h e rfl e' rfl
abbrev Spec:=List PV→Option (Option Prop × Rs)
abbrev Specs:=FuncId→Option Spec
mutual
def flat:PV→PV
 | .tl _ x=>.f x
 | .agg l=>.agg (Qde l)
 | .fn f l m=>.fn f (Qde l) (Qde m)
 | .ifc t x=>.ifc t (flat x)
 | y=>y
def Qde:List PV→List PV
 | []=>[]
 | x::l=>flat x::Qde l
end
theorem QiS:∀ (l:List PV) (i:Nat),(Qde l)[i]?=(l[i]?).map flat
 | [],i=>by simp [Qde]
 | x::l,0=>by simp [Qde]
 | x::l,i+1=>by simp [Qde,QiS l i]
theorem QcI:∀ (l:List PV),(Qde l).length=l.length
 | []=>rfl
 | x::l=>by simp [Qde,QcI l]
theorem QeR {vs:Array Value} {l:List PV} {R:Value→PV→Prop} (h:∀ (i:Nat) v x,vs[i]?=some v→l[i]?=some x→R v (flat x)):∀ (i:Nat) v x,vs[i]?=some v→(Qde l)[i]?=some x→R v x:=by
 intro i v x hv hx
 rw [QiS] at hx
 cases hy:l[i]? with
 | none=>rw [hy] at hx; cases hx
 | some y=>rw [hy] at hx; cases hx; exact h i v y hv hy
def PS.fl (s:PS) (x:Operand):Option PV:=match s.ev x with
 | some y=>some (flat y)
 | none=>none
def evs (s:PS):List Operand→Option (List PV)
 | []=>some []
 | x::l=>match s.fl x,evs s l with
  | some y,some m=>some (y::m)
  | _,_=>none
def evps (s:PS):List (Nat × Operand)→Option (List (Nat × PV))
 | []=>some []
 | (i,x)::l=>match s.fl x,evps s l with
  | some y,some m=>some ((i,y)::m)
  | _,_=>none
def Qpv:List PV→Option (List Value)
 | []=>some []
 | .f (.v u)::l=>match Qpv l with
  | some m=>some (u::m)
  | none=>none
 | _=>none
def eqLf (P:Program) (f:Field):Value→Value→Option Bool
 | .int k a,.int k' b=>match P.underlying f.type,decide (k=k') with
  | some (.int _),true=>some (a==b)
  | _,_=>none
 | .string a,.string b=>match P.underlying f.type with
  | some .string=>some (a.toList==b.toList)
  | _=>none
 | .bool a,.bool b=>match P.underlying f.type with
  | some .bool=>some (a==b)
  | _=>none
 | _,_=>none
def eqFs (P:Program) (us vs:List Value):List Field→Option Bool
 | []=>some true
 | f :: fs => match decide (f.name = "_"), nth us f.offset, nth vs f.offset with
  | false,some u,some v=>match eqLf P f u v,eqFs P us vs fs with
   | some a,some b=>some (a && b)
   | _,_=>none
  | _,_,_=>none
def eqOp (P:Program) (b:BinOp) (t:TypeId) (l m:List PV):Option Bool:=match Qpv l,Qpv m,P.underlying t with
 | some us,some vs,some (.struct fs)=>match !(P.stoodInHeld t) && !(P.eqGuardType P.depth t),eqFs P us vs fs.toList with
  | true,some r=>match b with
   | .eql=>some r
   | .neq=>some (!r)
   | _=>none
  | _,_=>none
 | _,_,_=>none
def oneP (o:Option Value):Option (Option Prop × Rs × Option PO):=match o with
 | some r=>match r.oneCell' with
  | true=>some (none,.one (.f (.v r)),none)
  | false=>none
 | none=>none
def evO (s:PS):Option Operand→Option (Option Int)
 | none=>some none
 | some x=>match s.fl x with
  | some (.f (.v (.int _ i)))=>some (some i)
  | _=>none
def hinted (s:PS):Option Nat→Bool
 | some d=>match look s.env (d+1000000) with
  | some .any=>true
  | _=>false
 | none=>false
inductive SubL:List Lf→List Lf→Prop
 | nil:SubL [] []
 | cons {x y:Lf} {l m:List Lf} (h:∀ H v,Rd H v x→Rd H v y) (hs:SubL l m):SubL (x::l) (y::m)
theorem SubL.len {l m:List Lf} (h:SubL l m):l.length=m.length:=by
 induction h with
 | nil=>rfl
 | cons h hs ih=>simp [ih]
theorem SubL.at {l m:List Lf} (h:SubL l m):∀ {j:Nat} {y:Lf},m[j]?=some y→∃ x,l[j]?=some x∧∀ H v,Rd H v x→Rd H v y:=by
 induction h with
 | nil=>intro j y hy; simp at hy
 | @cons x y' l m h hs ih =>
  intro j y hy
  cases j with
  | zero=>simp at hy; subst hy; exact ⟨x,by simp,h⟩
  | succ j=>obtain ⟨z,h1,h2⟩:=ih (by simpa using hy); exact ⟨z,by simpa using h1,h2⟩
def Qh0:Lf→Option Bool
 | .v (.bool b)=>some b
 | .zn z=>some (zNeg z)
 | _=>none
def QmV:Lf→Option (List Nat)
 | .lr l _=>some l
 | .v (.slice none 0 0)=>some []
 | .zd z _=>some (digs 1000000000 z.natAbs)
 | _=>none
def dtOf:(s:Sh)→Lf→Option (List s.T)
 | .str,.dt .str l=>some l
 | .tm,.dt .tm l=>some l
 | .vl,.dt .vl l=>some l
 | .srt,.dt .srt l=>some l
 | .con,.dt .con l=>some l
 | .dat,.dt .dat l=>some l
 | .kap,.dt .kap l=>some l
 | .bnd,.dt .bnd l=>some l
 | .ty,.dt .ty l=>some l
 | .prm,.dt .prm l=>some l
 | _,.v (.slice none 0 0)=>some []
 | _,_=>none
theorem QeX {x:Lf} {b:Bool} (h:Qh0 x=some b):∀ H v,Rd H v x→Rd H v (.v (.bool b)):=by
 intro H v hx
 unfold Qh0 at h
 split at h
 · cases h; exact hx
 · cases h; rw [hx.val rfl]; exact .v _ rfl
 · cases h
theorem QkW {H:Hp} {x:Lf} {k:Nat} {get:Nat→List Lf} (hv:x.view=some (k,0,get)) (hf:∀ q,x.full q=q) (hg:x.good):Rd H (.slice none 0 0) x :=
 .slf hf hv hg (Nat.le_refl _) (by unfold maxLen; omega) (fun _=>rfl) 0 0 (fun _ _=>undef) (fun hc=>absurd hc (Nat.lt_irrefl 0)) (fun i hi=>absurd hi (Nat.not_lt_zero i)) (fun i hi=>absurd hi (Nat.not_lt_zero i)) (fun i hi=>absurd hi (Nat.not_lt_zero i))
theorem Rd.seen {H:Hp} {v:Value} {x y:Lf} {k n:Nat} {get get':Nat→List Lf} (hx:x.view=some (k,n,get)) (hfx:∀ q,x.full q=q) (hy:y.view=some (k,n,get')) (hfy:∀ q,y.full q=q) (hgy:x.good→y.good) (hs:∀ i,i<n→SubL (get i) (get' i)) (h:Rd H v x):Rd H v y:=by
 cases h with
 | v x h1=>cases hx
 | zn z=>cases hx
 | sl hv hg hc hm h0 b o val hb hcell hk hrec =>
  rw [hx] at hv
  cases hv
  rw [hfx] at hc hb hcell hk hrec
  exact .slf hfy hy (hgy hg) hc hm h0 b o val hb hcell (fun i hi=>(hs i hi).len.symm.trans (hk i hi)) fun i hi j z hz=>by
   obtain ⟨u,h1,h2⟩:=(hs i hi).at hz
   exact h2 _ _ (hrec i hi j u h1)
theorem SubL.refl:∀ l:List Lf,SubL l l
 | []=>.nil
 | _::l=>.cons (fun _ _ h=>h) (SubL.refl l)
theorem Qj5 {x:Lf} {l:List Nat} (h:QmV x=some l):∀ H v,Rd H v x→Rd H v (.lr l l.length):=by
 intro H v hx
 unfold QmV at h
 split at h
 · cases h; exact hx.seen rfl (fun _=>rfl) rfl (fun _=>rfl) (fun (hg:Lf.good (.lr _ _))=>⟨Nat.le_refl _,hg.2⟩) fun i _=>SubL.refl _
 · cases h; rw [hx.val rfl]; exact QkW rfl (fun _=>rfl) ⟨Nat.le_refl _,fun x hx=>by cases hx⟩
 · cases h; exact hx.seen rfl (fun _=>rfl) rfl (fun _=>rfl) (fun hg=>⟨Nat.le_refl _,QmU _⟩) fun i _=>SubL.refl _
 · cases h
theorem Qcz {s:Sh} {x:Lf} {l:List s.T} (h:dtOf s x=some l):∀ H v,Rd H v x→Rd H v (.dt s l):=by
 intro H v hx
 unfold dtOf at h
 split at h <;> first | (cases h; exact hx) | (cases h; rw [hx.val rfl]; exact QkW rfl (fun _=>rfl) trivial) | cases h
def toTm:List Lf→Option Tw
 | [.v (.int .u8 k),.v (.string n),b,d,x]=>match Qh0 b,QmV d,dtOf .tm x with
  | some b,some d,some l=>some (.mk k n b d l)
  | _,_,_=>none
 | _=>none
def toVl:List Lf→Option Vw
 | [.v (.int .u8 k),b,d,t,.v (.string n),x]=>match Qh0 b,QmV d,Qh0 t,dtOf .vl x with
  | some b,some d,some t,some l=>some (.mk k b d t n l)
  | _,_,_,_=>none
 | _=>none
def toTy:List Lf→Option Yw
 | [f,.v (.string n),k,m,b,d,x,p,r]=>match Qh0 f,toTm [k,m,b,d,x],dtOf .prm p,dtOf .ty r with
  | some f,some t,some p,some r=>some (.mk f n t p r)
  | _,_,_,_=>none
 | _=>none
def Qs9:List Lf→Option ByteArray
 | [.v (.string x)]=>some x
 | _=>none
def Qta:List Lf→Option Srt
 | [.v (.string a),.v (.string b)]=>some ⟨a,b⟩
 | _=>none
def toCn:List Lf→Option Cn
 | [.v (.string a),x]=>match dtOf .str x with | some l=>some ⟨a,l⟩ | none=>none
 | _=>none
def Qtd:List Lf→Option Dat
 | [.v (.string a),x]=>match dtOf .con x with | some l=>some ⟨a,l⟩ | none=>none
 | _=>none
def Qtc:List Lf→Option Kap
 | .v (.string a)::p::l=>match dtOf .srt p,toTm l with | some p,some t=>some ⟨a,p,t⟩ | _,_=>none
 | _=>none
def Qte:List Lf→Option Bnd
 | .v (.string a)::l=>match toVl l with | some t=>some ⟨a,t⟩ | none=>none
 | _=>none
def Qtb:List Lf→Option (ByteArray × Yw)
 | .v (.string a)::l=>match toTy l with | some t=>some (a,t) | none=>none
 | _=>none
def toT:(s:Sh)→List Lf→Option s.T
 | .str=>Qs9
 | .tm=>toTm
 | .vl=>toVl
 | .srt=>Qta
 | .con=>toCn
 | .dat=>Qtd
 | .kap=>Qtc
 | .bnd=>Qte
 | .ty=>toTy
 | .prm=>Qtb
theorem QfM {L:List Lf} {t:Tw} (h:toTm L=some t):SubL L (tmC t):=by
 unfold toTm at h
 split at h
 · split at h
   · rename_i b d l hb hd hl
     cases h
     exact .cons (fun _ _ h=>h) (.cons (fun _ _ h=>h) (.cons (QeX hb) (.cons (Qj5 hd) (.cons (Qcz hl) .nil))))
   · cases h
 · cases h
theorem QlO {L:List Lf} {t:Vw} (h:toVl L=some t):SubL L (vlC t):=by
 unfold toVl at h
 split at h
 · split at h
   · rename_i b d t l hb hd ht hl
     cases h
     exact .cons (fun _ _ h=>h) (.cons (QeX hb) (.cons (Qj5 hd) (.cons (QeX ht) (.cons (fun _ _ h=>h) (.cons (Qcz hl) .nil)))))
   · cases h
 · cases h
theorem QlP {L:List Lf} {t:Yw} (h:toTy L=some t):SubL L (tyC t):=by
 unfold toTy at h
 split at h
 · split at h
   · rename_i f t p r hf ht hp hr
     cases h
     have:=QfM ht
     cases this with
     | cons h1 this=>cases this with
      | cons h2 this=>cases this with
       | cons h3 this=>cases this with
        | cons h4 this=>cases this with
         | cons h5 _=>exact .cons (QeX hf) (.cons (fun _ _ h=>h) (.cons h1 (.cons h2 (.cons h3 (.cons h4 (.cons h5 (.cons (Qcz hp) (.cons (Qcz hr) .nil))))))))
   · cases h
 · cases h
theorem QoF:∀ {s:Sh} {L:List Lf} {t:s.T},toT s L=some t→SubL L (s.cells t)
 | .str,L,t,h=>by
  replace h:Qs9 L=some t:=h
  unfold Qs9 at h
  split at h
  · cases h; exact SubL.refl _
  · cases h
 | .tm,L,t,h=>QfM h
 | .vl,L,t,h=>QlO h
 | .ty,L,t,h=>QlP h
 | .srt,L,t,h=>by
  replace h:Qta L=some t:=h
  unfold Qta at h
  split at h
  · cases h; exact SubL.refl _
  · cases h
 | .con,L,t,h=>by
  replace h:toCn L=some t:=h
  unfold toCn at h
  split at h
  · split at h
    · rename_i l hl; cases h; exact .cons (fun _ _ h=>h) (.cons (Qcz hl) .nil)
    · cases h
  · cases h
 | .dat,L,t,h=>by
  replace h:Qtd L=some t:=h
  unfold Qtd at h
  split at h
  · split at h
    · rename_i l hl; cases h; exact .cons (fun _ _ h=>h) (.cons (Qcz hl) .nil)
    · cases h
  · cases h
 | .kap,L,t,h=>by
  replace h:Qtc L=some t:=h
  unfold Qtc at h
  split at h
  · split at h
    · rename_i p t hp ht; cases h; exact .cons (fun _ _ h=>h) (.cons (Qcz hp) (QfM ht))
    · cases h
  · cases h
 | .bnd,L,t,h=>by
  replace h:Qte L=some t:=h
  unfold Qte at h
  split at h
  · split at h
    · rename_i t ht; cases h; exact .cons (fun _ _ h=>h) (QlO ht)
    · cases h
  · cases h
 | .prm,L,t,h=>by
  replace h:Qtb L=some t:=h
  unfold Qtb at h
  split at h
  · split at h
    · rename_i t ht; cases h; exact .cons (fun _ _ h=>h) (QlP ht)
    · cases h
  · cases h
def Qo0 (P:Program) (s:PS) (t:TypeId) (x y:PV):Option PS:=match x with
 | .bp o off=>match nth s.ob o,szT P t with
  | some (.cells l),some n=>match Nat.beq (QeV y).length n with
   | true=>match Nat.ble (off+n) l.length && (QhW y && (QeV y).all Qsy) with
    | true=>some { s with ob:=setL s.ob o (.cells (putL l off (QeV y))) }
    | false=>none
   | false=>none
  | _,_=>none
 | .wp o k i=>match nth s.ob o,szT P t,y with
  | some (.own e (.is kd l)),some 1,.f (.v (.int kd' z))=>match Nat.beq k 1 && decide (kd'=kd) with
   | true=>some { s with ob:=setL s.ob o (.own e (.is kd (l.set i z))) }
   | false=>none
  | some (.own e (.dt sh l)),some n,y=>match Nat.beq n sh.k && (Nat.beq k sh.k && QhW y),leafs (QeV y) with
   | true,some L=>match toT sh L with
    | some z=>some { s with ob:=setL s.ob o (.own e (.dt sh (l.set i z))) }
    | none=>none
   | _,_=>none
  | _,_,_=>none
 | _=>none
def mapO {α β:Type} (f:α→Option β):List α→Option (List β)
 | []=>some []
 | x::l=>match f x,mapO f l with
  | some y,some m=>some (y::m)
  | _,_=>none
theorem QpR {α β:Type} {f:α→Option β}:∀ {l:List α} {m:List β},mapO f l=some m→m.length=l.length∧∀ (i:Nat) x,l[i]?=some x→∃ y,m[i]?=some y∧f x=some y
 | [],m,h=>by simp only [mapO,Option.some.injEq] at h; subst h; simp
 | x::l,m,h=>by
  simp only [mapO] at h
  split at h
  · rename_i y m' hy hm
    cases h
    obtain ⟨h1,h2⟩:=QpR hm
    refine ⟨by simp [h1],fun i z hz=>?_⟩
    cases i with
    | zero=>simp at hz; subst hz; exact ⟨y,by simp,hy⟩
    | succ i=>simpa using h2 i z (by simpa using hz)
  · cases h
def shOf:List Lf→Option Sh
 | [.v (.string _)]=>some .str
 | [.v (.string _),.v (.string _)]=>some .srt
 | [.v (.string _),.dt .str _]=>some .con
 | [.v (.string _),.dt .con _]=>some .dat
 | [.v (.int .u8 _),.v (.string _),_,_,_]=>some .tm
 | [.v (.int .u8 _),_,_,_,_,_]=>some .vl
 | [.v (.string _),.v (.int .u8 _),_,_,_,_,_]=>some .bnd
 | [.v (.string _),_,.v (.int .u8 _),_,_,_,_]=>some .kap
 | [_,_,_,_,_,_,_,_,_]=>some .ty
 | [_,_,_,_,_,_,_,_,_,_]=>some .prm
 | _=>none
def nrm:Lf→Lf
 | .row k (r::rs)=>match shOf r with
  | some s=>match Nat.beq s.k k,mapO (toT s) (r::rs) with
   | true,some l=>.dt s l
   | _,_=>.row k (r::rs)
  | none=>.row k (r::rs)
 | x=>x
theorem Qsv {x:Lf}:∀ H v,Rd H v x→Rd H v (nrm x):=by
 intro H v h
 unfold nrm
 split
 · rename_i k r rs
   split
   · rename_i s hs
     split
     · rename_i l hk hl
       have hk:=Nat.eq_of_beq_eq_true hk
       subst hk
       obtain ⟨h1,h2⟩:=QpR hl
       refine h.seen (k:=s.k) (n:=(r::rs).length) rfl (fun _=>rfl) (by show some (s.k,l.length,_)=_; rw [h1]) (fun _=>rfl) (fun _=>trivial) fun i hi=>?_
       obtain ⟨y,h3,h4⟩:=h2 i _ (List.getElem?_eq_getElem hi)
       rw [List.getD_eq_getElem?_getD,List.getD_eq_getElem?_getD,List.getElem?_eq_getElem hi,h3]
       exact QoF h4
     · exact h
   · exact h
 · exact h
def nrmV:PV→PV
 | .f x=>.f (nrm x)
 | x=>x
theorem QtP {H:Hp} {B:Hd} {v:Value} {x:PV} (h:PR H B v x):PR H B v (nrmV x):=by
 unfold nrmV
 split
 · exact .f (Qsv _ _ (by cases h with | f h=>exact h))
 · exact h
def Quk:(s:Sh)→List s.T→(s':Sh)→List s'.T→Option Lf
 | .str,L,.str,M=>some (.dt .str (L++M))
 | .tm,L,.tm,M=>some (.dt .tm (L++M))
 | .vl,L,.vl,M=>some (.dt .vl (L++M))
 | .srt,L,.srt,M=>some (.dt .srt (L++M))
 | .con,L,.con,M=>some (.dt .con (L++M))
 | .dat,L,.dat,M=>some (.dt .dat (L++M))
 | .kap,L,.kap,M=>some (.dt .kap (L++M))
 | .bnd,L,.bnd,M=>some (.dt .bnd (L++M))
 | .ty,L,.ty,M=>some (.dt .ty (L++M))
 | .prm,L,.prm,M=>some (.dt .prm (L++M))
 | _,_,_,_=>none
theorem Qr4 {s s':Sh} {L:List s.T} {M:List s'.T} {z:Lf} (h:Quk s L s' M=some z):∃ e:s'=s,z=.dt s (L++e ▸ M):=by
 unfold Quk at h
 split at h <;> first | (cases h; exact ⟨rfl,rfl⟩) | cases h
def QpD (l h:Nat):Lf→Option Lf
 | .lr L k=>some (.lr ((L.take h).drop l) k)
 | .is kd L=>some (.is kd ((L.take h).drop l))
 | .row k L=>some (.row k ((L.take h).drop l))
 | .gen k _ g=>some (.gen k (h - l) fun i=>g (i+l))
 | .dt s L=>some (.dt s ((L.take h).drop l))
 | _=>none
def beyond (x:Lf) (l:Option Int) (h:Nat):Option (Nat × Lf):=match l,x with
 | none,.is kd L=>some (L.length,.sp (.is kd L) h)
 | none,.row k L=>some (L.length,.sp (.row k L) h)
 | none,.sp (.is kd L) _=>some (L.length,.is kd (L.take h))
 | none,.sp (.row k L) _=>some (L.length,.row k (L.take h))
 | none,.gen k n g=>some (n,.sp (.gen k n g) h)
 | none,.sp (.gen k n g) _=>some (n,.gen k h g)
 | _,_=>none
def QeM (kd:IntKind):List (List Lf)→Option (List Int)
 | []=>some []
 | [.v (.int k x)]::r=>match decide (k=kd),QeM kd r with
  | true,some l=>some (x::l)
  | _,_=>none
 | _::_=>none
def Qoi:Lf→Lf→Option Lf
 | .is kd L,.row 1 M=>match QeM kd M with
  | some l=>some (.is kd (L++l))
  | none=>none
 | .is kd L,.is kd' M=>match decide (kd=kd') with
  | true=>some (.is kd (L++M))
  | false=>none
 | .is .u32 L,.lr M _=>some (.is .u32 (L++M.map Int.ofNat))
 | .row 1 M,.is kd L=>match QeM kd M with
  | some l=>some (.is kd (l++L))
  | none=>none
 | .row 1 M,.lr L _=>match QeM .u32 M with
  | some l=>some (.is .u32 (l++L.map Int.ofNat))
  | none=>none
 | .row k L,.row k' M=>match Nat.beq k k' with
  | true=>some (.row k (L++M))
  | false=>none
 | .gen k n g,.row k' M=>match Nat.beq k k' with
  | true=>some (.gen k (n+M.length) fun i=>match Nat.ble (i+1) n with | true=>g i | false=>M.getD (i - n) [])
  | false=>none
 | .dt s L,.dt s' M=>Quk s L s' M
 | _,_=>none
theorem QeL {kd:IntKind}:∀ {M:List (List Lf)} {l:List Int},QeM kd M=some l→l.length=M.length∧∀ i,i<M.length→M.getD i []=[.v (.int kd (l.getD i 0))]
 | [],l,h=>by simp only [QeM,Option.some.injEq] at h; subst h; simp
 | [.v (.int k x)]::r,l,h=>by
  simp only [QeM] at h
  split at h
  · rename_i l' hk hl
    cases h
    obtain ⟨h1,h2⟩:=QeL hl
    have hk:=of_decide_eq_true hk
    subst hk
    refine ⟨by simp [h1],fun i hi=>?_⟩
    cases i with
    | zero=>rfl
    | succ i=>exact h2 i (by simpa using hi)
  · cases h
 | []::r,l,h=>by simp [QeM] at h
 | (_::_::_)::r,l,h=>by simp [QeM] at h
theorem QcY {α:Type} (L M:List α) (d:α):(∀ i,i<L.length→(L++M).getD i d=L.getD i d)∧∀ i,(L++M).getD (L.length+i) d=M.getD i d:=by
 refine ⟨fun i hi=>?_,fun i=>?_⟩
 · rw [List.getD_eq_getElem?_getD,List.getD_eq_getElem?_getD,List.getElem?_append_left hi]
 · rw [List.getD_eq_getElem?_getD,List.getD_eq_getElem?_getD,List.getElem?_append_right (by omega),Nat.add_sub_cancel_left]
theorem Qr1 {x y z:Lf} {k n m:Nat} {gx gy:Nat→List Lf} (hx:x.view=some (k,n,gx)) (hy:y.view=some (k,m,gy)) (h:Qoi x y=some z):∃ gz,z.view=some (k,n+m,gz)∧z.good∧(∀ i,i<n→gz i=gx i)∧(∀ i,i<m→gz (n+i)=gy i)∧∀ q,z.full q=q:=by
 unfold Qoi at h
 split at h
 · rename_i kd L M
   split at h
   · rename_i l hl
     cases h
     obtain ⟨h1,h2⟩:=QeL hl
     simp only [Lf.view,Option.some.injEq,Prod.mk.injEq] at hx hy
     obtain ⟨rfl,rfl,rfl⟩:=hx
     obtain ⟨-,rfl,rfl⟩:=hy
     obtain ⟨h3,h4⟩:=QcY L l 0
     refine ⟨_,by simp only [Lf.view,List.length_append,h1]; rfl,trivial,fun i hi=>by rw [h3 i hi],fun i hi=>by rw [h4 i]; exact (h2 i hi).symm,fun _=>rfl⟩
   · cases h
 · rename_i kd L kd' M
   split at h
   · rename_i hk
     cases h
     have hk:=of_decide_eq_true hk
     subst hk
     simp only [Lf.view,Option.some.injEq,Prod.mk.injEq] at hx hy
     obtain ⟨rfl,rfl,rfl⟩:=hx
     obtain ⟨-,rfl,rfl⟩:=hy
     obtain ⟨h3,h4⟩:=QcY L M 0
     exact ⟨_,by simp only [Lf.view,List.length_append]; rfl,trivial,fun i hi=>by rw [h3 i hi],fun i hi=>by rw [h4 i],fun _=>rfl⟩
   · cases h
 · rename_i L M k'
   cases h
   simp only [Lf.view,Option.some.injEq,Prod.mk.injEq] at hx hy
   obtain ⟨rfl,rfl,rfl⟩:=hx
   obtain ⟨-,rfl,rfl⟩:=hy
   obtain ⟨h3,h4⟩:=QcY L (M.map Int.ofNat) 0
   refine ⟨_,by simp only [Lf.view,List.length_append,List.length_map]; rfl,trivial,fun i hi=>by rw [h3 i hi],fun i hi=>?_,fun _=>rfl⟩
   rw [h4 i]
   simp only [List.getD_eq_getElem?_getD,List.getElem?_map,List.getElem?_eq_getElem hi,Option.map_some,Option.getD_some]
   rfl
 · rename_i M kd L
   split at h
   · rename_i l hl
     cases h
     obtain ⟨h1,h2⟩:=QeL hl
     simp only [Lf.view,Option.some.injEq,Prod.mk.injEq] at hx hy
     obtain ⟨rfl,rfl,rfl⟩:=hx
     obtain ⟨-,rfl,rfl⟩:=hy
     obtain ⟨h3,h4⟩:=QcY l L 0
     refine ⟨fun i=>[.v (.int kd ((l++L).getD i 0))],by simp only [Lf.view,List.length_append,h1],trivial,fun i hi=>?_,fun i hi=>?_,fun _=>rfl⟩
     · dsimp only
       rw [h3 i (by omega)]; exact (h2 i hi).symm
     · dsimp only
       rw [← h1,h4 i]
   · cases h
 · rename_i M L k'
   split at h
   · rename_i l hl
     cases h
     obtain ⟨h1,h2⟩:=QeL hl
     simp only [Lf.view,Option.some.injEq,Prod.mk.injEq] at hx hy
     obtain ⟨rfl,rfl,rfl⟩:=hx
     obtain ⟨-,rfl,rfl⟩:=hy
     obtain ⟨h3,h4⟩:=QcY l (L.map Int.ofNat) 0
     refine ⟨fun i=>[.v (.int .u32 ((l++L.map Int.ofNat).getD i 0))],by simp only [Lf.view,List.length_append,List.length_map,h1],trivial,fun i hi=>?_,fun i hi=>?_,fun _=>rfl⟩
     · dsimp only
       rw [h3 i (by omega)]; exact (h2 i hi).symm
     · dsimp only
       rw [← h1,h4 i]
       simp only [List.getD_eq_getElem?_getD,List.getElem?_map,List.getElem?_eq_getElem hi,Option.map_some,Option.getD_some]
       rfl
   · cases h
 · rename_i j L j' M
   split at h
   · rename_i hk
     cases h
     have hk:=Nat.eq_of_beq_eq_true hk
     subst hk
     simp only [Lf.view,Option.some.injEq,Prod.mk.injEq] at hx hy
     obtain ⟨rfl,rfl,rfl⟩:=hx
     obtain ⟨-,rfl,rfl⟩:=hy
     obtain ⟨h3,h4⟩:=QcY L M []
     exact ⟨fun i=>(L++M).getD i [],by simp only [Lf.view,List.length_append],trivial,h3,fun i hi=>h4 i,fun _=>rfl⟩
   · cases h
 · rename_i j c g j' M
   split at h
   · rename_i hk
     cases h
     have hk:=Nat.eq_of_beq_eq_true hk
     subst hk
     simp only [Lf.view,Option.some.injEq,Prod.mk.injEq] at hx hy
     obtain ⟨rfl,rfl,rfl⟩:=hx
     obtain ⟨-,rfl,rfl⟩:=hy
     refine ⟨_,rfl,trivial,fun i hi=>?_,fun i hi=>?_,fun _=>rfl⟩
     · have e:Nat.ble (i+1) c=true:=Nat.ble_eq_true_of_le hi
       rw [e]
     · have e:Nat.ble (c+i+1) c=false:=by rw [Bool.eq_false_iff]; intro h; have:=Nat.le_of_ble_eq_true h; omega
       rw [e,Nat.add_sub_cancel_left]
   · cases h
 · rename_i s L s' M
   obtain ⟨e,rfl⟩:=Qr4 h
   subst e
   simp only [Lf.view,Option.some.injEq,Prod.mk.injEq] at hx hy
   obtain ⟨rfl,rfl,rfl⟩:=hx
   obtain ⟨-,rfl,rfl⟩:=hy
   obtain ⟨h3,h4⟩:=QcY L M s'.nil
   exact ⟨_,by simp only [Lf.view,List.length_append]; rfl,trivial,fun i hi=>by rw [h3 i hi],fun i hi=>by rw [h4 i],fun _=>rfl⟩
 · cases h
def slT (P:Program) (t:TypeId) (x:PV) (lo hi:Option Int):Option (Option Prop × Rs × Option PO):=match P.underlying t,hi,(match x with | .tl _ y=>some y | .f (.sp y n)=>some (.sp y n) | _=>none) with
 | some (.slice e),some h,some y=>match y.view,szT P e,beyond y lo h.toNat with
  | some (k,_,_),some k',some (m,z)=>match Nat.beq k k' with
   | true=>some (some (0≤h∧h≤m),.one (.f z),none)
   | false=>none
  | _,_,_=>none
 | _,_,_=>none
def slP (P:Program) (t:TypeId) (x:PV) (lo hi:Option Int):Option (Option Prop × Rs × Option PO):=match P.underlying t,x with
 | some .string,.f (.v (.string u))=>some (some (0≤lo.getD 0∧lo.getD 0≤hi.getD u.size∧hi.getD u.size≤u.size),.one (.f (.v (.string (u.extract (lo.getD 0).toNat (hi.getD u.size).toNat)))),none)
 | some (.slice e),.f y=>match y.view,szT P e with
  | some (k,n,_),some k'=>match Nat.beq k k',QpD (lo.getD 0).toNat (hi.getD n).toNat y with
   | true,some z=>some (some (0≤lo.getD 0∧lo.getD 0≤hi.getD n∧hi.getD n≤n),.one (.f z),none)
   | _,_=>none
  | _,_=>none
 | _,_=>none
def strI (s:ByteArray):List Int:=s.data.toList.map fun b=>(b.toNat:Int)
def isZ:Operand→Bool
 | .const (.int _ (.ofNat 0))=>true
 | _=>false
theorem isZ_at {s:PS} {l:Operand} {kd:IntKind} {n:Int} (h:isZ l=true) (hl:s.fl l=some (.f (.v (.int kd n)))):n=0:=by
 unfold isZ at h
 split at h
 · cases hl; rfl
 · cases h
def opv (P:Program) (Γ:Specs) (s:PS) (dst:Option Nat):Op→Option (Option Prop × Rs × Option PO)
 | .move x=>match s.ev x with | some y=>some (none,.one y,none) | none=>none
 | .assign x=>match s.ev x with | some y=>some (none,.one y,none) | none=>none
 | .alloc t=>match Qnm P t with | some z=>some (none,.one (.bp s.ob.length 0),some (.cells z)) | none=>none
 | .makeMap t none=>match P.underlying t with
  | some (.map k _)=>match ktOf P k with
   | some kt=>some (none,.one (.wr s.ob.length),some (.map kt (fun _=>false) (fun _=>[]) [] []))
   | none=>none
  | _=>none
 | .box _ x=>match s.fl x with
  | some y=>match QhW y with | true=>some (none,.one (.bp s.ob.length 0),some (.cells (QeV y))) | false=>none
  | none=>none
 | .load t x=>match s.fl x with
  | some y=>match QpV P s t y with | some z=>some (none,.one z,none) | none=>none
  | none=>none
 | .fieldAddr t x f=>match s.fl x with
  | some y=>match Qfn P t f y with | some z=>some (none,.one z,none) | none=>none
  | none=>none
 | .field t x f=>match s.fl x with
  | some y=>match Qqk P t f y with | some z=>some (none,.one z,none) | none=>none
  | none=>none
 | .indexAddr t x i=>match s.fl x,s.fl i with
  | some (.wr o),some j=>match Qp9 P s t (.wr o) j with | some (p,z)=>some (p,.one z,none) | none=>none
  | some y,some j=>match Qfl P t y j with | some (p,z)=>some (p,.one z,none) | none=>none
  | _,_=>none
 | .build t ps=>match evps s ps.toList with
  | some l=>match QqK P t l with | some z=>some (none,.one z,none) | none=>none
  | none=>none
 | .buildSlice t n ps=>match evps s ps.toList with
  | some l=>match hinted s dst with
   | false=>match Qc4 P t n l with | some z=>some (none,.one (nrmV z),none) | none=>none
   | true=>match Qc4 P t n l,Qg2 P t with
    | some (.f (.row k [])),some e=>some (none,.one (.wr s.ob.length),some (.own e (.row k [])))
    | some (.f (.row k (x::m))),some e=>some (none,.one (.tl s.ob.length (nrm (.row k (x::m)))),some (.tail e k))
    | _,_=>none
  | none=>none
 | .makeInterface t x=>match P.underlying t,s.fl x with
  | some (.interface _),_=>none
  | some _,some y=>match QhW y with | true=>some (none,.one (.ifc t y),none) | false=>none
  | _,_=>none
 | .makeFunc (.func f) us vs=>match evs s us.toList,evs s vs.toList with
  | some l,some m=>some (none,.one (.fn f l m),none)
  | _,_=>none
 | .makeSlice t l c=>match s.fl l,s.fl c with
  | some (.f (.v (.int _ n))),some (.f (.v (.int _ m)))=>match Qos P t n.toNat with
   | some (e,k,b,x)=>match isZ l with
    | true=>some (some (0≤n∧n≤m∧m * b≤140737488355328∧m≤maxLen),.one (.tl s.ob.length x),some (.tail e k))
    | false=>some (some (0≤n∧n≤m∧m * b≤140737488355328∧m≤maxLen),.one (.wr s.ob.length),some (.own e x))
   | none=>none
  | _,_=>none
 | .extract x i=>match s.fl x with
  | some (.tup l)=>match nth l i with | some z=>some (none,.one z,none) | none=>none
  | _=>none
 | .nilCheck x=>match s.fl x with
  | some (.bp o n)=>some (none,.one (.bp o n),none)
  | some (.ep l)=>some (none,.one (.ep l),none)
  | _=>none
 | .binOp b t x y _=>match s.fl x,s.fl y with
  | some (.f u),some (.f v)=>match u.val,v.val with
   | some u,some v=>match b,u,v with
    | .add,.string m,.string n=>some (some (((m.size+n.size:Nat):Int)≤IntKind.i64.max),.one (.f (.v (.string (m++n)))),none)
    | _,_,_=>oneP (peel P (do eqGuard b t x y u v; binOp b t u v))
   | _,_=>none
  | some (.ifc _ _),some (.f (.v .nilIface))=>match b,P.underlying t with
   | .neq,some (.interface _)=>some (none,.one (.f (.v (.bool true))),none)
   | .eql,some (.interface _)=>some (none,.one (.f (.v (.bool false))),none)
   | _,_=>none
  | some (.agg l),some (.agg m)=>match eqOp P b t l m with
   | some r=>some (none,.one (.f (.v (.bool r))),none)
   | none=>none
  | _,_=>none
 | .typeAssert x _ t true=>match s.fl x,P.underlying t with
  | some (.ifc _ _),some (.interface _)=>none
  | some (.ifc t' y),some _=>match Nat.beq t' t with
   | true=>some (none,.one (.tup [y,.f (.v (.bool true))]),none)
   | false=>none
  | _,_=>none
 | .unOp b _ x=>match s.fl x with
  | some (.f u)=>match u.val with
   | some u=>oneP (peel P (Op.unary b u))
   | none=>none
  | _=>none
 | .convert a b x=>match s.fl x with
  | some (.f (.is .u8 l))=>match Qg2 P a,P.underlying b with
   | some e,some .string=>match P.underlying e with
    | some (.int .u8)=>some (none,.one (.f (.v (.string (strOfNums l)))),none)
    | _=>none
   | _,_=>none
  | some (.f (.v (.string u)))=>match Qg2 P b,P.underlying a with
   | some e,some _=>match P.underlying e with
    | some (.int .u8)=>some (some (u.size≤1099511627776),.one (.wr s.ob.length),some (.own e (.is .u8 (strI u))))
    | _=>none
   | _,_=>oneP (peel P (convert a b (.string u)))
  | some (.f u)=>match u.val with
   | some u=>oneP (peel P (convert a b u))
   | none=>none
  | _=>none
 | .index t x i=>match P.underlying t,s.fl x,s.fl i with
  | some .string,some (.f (.v (.string u))),some (.f (.v (.int _ i)))=>some (some (0≤i∧i<u.size),.one (.f (.v (.int .u8 (u.data.toList.getD i.toNat 0).toNat))),none)
  | _,_,_=>none
 | .slice t x lo hi none=>match s.ev x,evO s lo,evO s hi with
  | some y,some l,some h=>match slT P t y l h with
   | some r=>some r
   | none=>slP P t (flat y) l h
  | _,_,_=>none
 | .call ⟨.builtin .len,xs,ts⟩=>match evs s xs.toList,ts[0]? with
  | some [.wr o],some t=>match lenW P s t (.wr o) with | some z=>some (none,.one z,none) | none=>none
  | some [x],some t=>match lenP P t x with | some z=>some (none,.one z,none) | none=>none
  | _,_=>none
 | .call ⟨.builtin .min,xs,_⟩=>match evs s xs.toList with
  | some [.f (.v (.int k m)),.f (.v (.int k' n))]=>match decide (k=k') with | true=>some (none,.one (.f (.v (.int k (min m n)))),none) | false=>none
  | _=>none
 | .call ⟨.value x,xs,_⟩=>match s.fl x,evs s xs.toList with
  | some (.f (.v (.func (.func f) a b))),some l=>match a.size,b.size,QgK l,Γ f with
   | 0,0,true,some sp=>match QgL P f with
    | true=>match sp l with
     | some (p,r)=>match Qdt r.out with
      | true=>some (p,r,none)
      | false=>none
     | none=>none
    | false=>none
   | _,_,_,_=>none
  | _,_=>none
 | _=>none
def QcG (s:PS) (d:Nat) (b:Bool):PS:=s.put (some d) (.f (.v (.bool b)))
def Qko (s:PS):Option PO→PS
 | some y=>{ s with ob:=s.ob++[y] }
 | none=>s
def QdB (m:Nat):Option Nat→Bool
 | some d=>Nat.blt d m
 | none=>true
mutual
def noP (o:Nat):PV→Bool
 | .bp o' _=>!Nat.beq o' o
 | .tl o' _=>!Nat.beq o' o
 | .wr o'=>!Nat.beq o' o
 | .wp o' _ _=>!Nat.beq o' o
 | .agg l=>noL o l
 | .tup l=>noL o l
 | .fn _ l m=>match noL o l with | true=>noL o m | false=>false
 | .ifc _ x=>noP o x
 | _=>true
def noL (o:Nat):List PV→Bool
 | []=>true
 | x::l=>match noP o x with | true=>noL o l | false=>false
end
mutual
def flO (o:Nat):PV→PV
 | .tl o' x=>match Nat.beq o' o with | true=>.f x | false=>.tl o' x
 | .agg l=>.agg (flOL o l)
 | .tup l=>.tup (flOL o l)
 | .fn f l m=>.fn f (flOL o l) (flOL o m)
 | .ifc t x=>.ifc t (flO o x)
 | y=>y
def flOL (o:Nat):List PV→List PV
 | []=>[]
 | x::l=>flO o x::flOL o l
end
def flPO (o:Nat):PO→PO
 | .cells l=>.cells (flOL o l)
 | .map t has get ks vs=>.map t has get ks (flOL o vs)
 | .bld T y=>.bld T (flO o y)
 | x=>x
def flB (o:Nat):List PO→List PO
 | []=>[]
 | x::l=>flPO o x::flB o l
def flE (o:Nat):List (Nat × PV)→List (Nat × PV)
 | []=>[]
 | (d,x)::l=>(d,flO o x)::flE o l
def noE (o:Nat):List (Nat × PV)→Bool
 | []=>true
 | (_,x)::l=>match noP o x with | true=>noE o l | false=>false
def noO (o:Nat):List PO→Bool
 | []=>true
 | .cells l::t=>match noL o l with | true=>noO o t | false=>false
 | .map _ _ _ _ l::t=>match noL o l with | true=>noO o t | false=>false
 | .bld _ y::t=>match noP o y with | true=>noO o t | false=>false
 | _::t=>noO o t
def frO (o:Nat) (y:PV):PV→PV
 | .wr o'=>match Nat.beq o' o with | true=>y | false=>.wr o'
 | .wp o' k i=>match Nat.beq o' o with | true=>.any | false=>.wp o' k i
 | x=>x
def frE (o:Nat) (y:PV):List (Nat × PV)→List (Nat × PV)
 | []=>[]
 | (d,x)::l=>(d,frO o y x)::frE o y l
def freeze (s:PS) (o:Nat):PS:=match nth s.ob o with
 | some (.own _ x)=>match noE o (frE o .any s.env) && noO o s.ob with
  | true=>⟨frE o (.f x) s.env,setL s.ob o .gone⟩
  | false=>s
 | _=>s
def QlQ (s:PS) (o:Nat):Option (PS × Lf):=match nth s.ob o with
 | some (.own e x)=>match x.view0,!isU8 x && (noE o (frE o .any s.env) && noO o s.ob) with
  | some (k,_,_),true=>some (⟨frE o (.tl o x) s.env,setL s.ob o (.tail e k)⟩,x)
  | _,_=>none
 | _=>none
def hardL:Op→List Operand
 | .move _ | .assign _ | .makeSlice ..=>[]
 | .indexAddr _ _ i=>[i]
 | .call ⟨.builtin .len,_,_⟩=>[]
 | .call ⟨.builtin .append,xs,_⟩=>xs.toList.drop 1
 | .slice _ x _ _ _=>[x]
 | .store _ _ y=>[y]
 | .mapUpdate _ _ _ y=>[y]
 | .insert _ _ _ y=>[y]
 | op=>operL' op
where operL':Op→List Operand
 | .box _ x | .convert _ _ x=>[x]
 | .build _ ps=>ps.toList.map (·.2)
 | .buildSlice _ _ ps=>ps.toList.map (·.2)
 | .call ⟨.value _,xs,_⟩=>xs.toList
 | _=>[]
def Qq5:List Oper→Nat→Nat
 | [],d=>d
 | o::os,d=>match o.op,o.dst with
  | .move (.tmp e),some d'=>match Nat.beq d' d with
   | true=>e
   | false=>Qq5 os d
  | _,_=>Qq5 os d
def frzX (os:List Oper) (s:PS):List Operand→PS
 | []=>s
 | .tmp d::l=>match look s.env (Qq5 os d) with
  | some (.wr o)=>frzX os (freeze s o) l
  | _=>frzX os s l
 | _::l=>frzX os s l
def frzOps (os:List Oper) (s:PS):List Oper→PS
 | []=>s
 | o::l=>frzOps os (frzX os s (hardL o.op)) l
def frL (o:Nat) (y:PV):List PV→List PV
 | []=>[]
 | x::l=>frO o y x::frL o y l
def frPO (o:Nat) (y:PV):PO→PO
 | .cells l=>.cells (frL o y l)
 | x=>x
def frB (o:Nat) (y:PV):List PO→List PO
 | []=>[]
 | x::l=>frPO o y x::frB o y l
def freezeB (s:PS) (o:Nat):PS:=match nth s.ob o with
 | some (.own _ x)=>match x.view0 with
  | some _=>⟨frE o (.f x) s.env,setL (frB o (.f x) s.ob) o .gone⟩
  | none=>s
 | _=>s
def frzAll (s:PS):Nat→PS
 | 0=>s
 | n+1=>frzAll (freezeB s n) n
def QoG:List Operand→List Nat
 | []=>[]
 | .tmp d::l=>d::QoG l
 | _::l=>QoG l
def Qc5:List Oper→List Nat
 | []=>[]
 | o::l=>match o.op with
  | .call ⟨.builtin .append,xs,_⟩=>match xs.toList with
   | .tmp d::_=>d::Qc5 l
   | _=>Qc5 l
  | .call ⟨.value (.func f),xs,_⟩=>match Qsu f with
   | true=>QoG xs.toList++Qc5 l
   | false=>Qc5 l
  | _=>Qc5 l
def Qn5 (D:List Nat):List Oper→List (Nat × PV)→List (Nat × PV)
 | [],l=>l
 | o::os,l=>match o.op,o.dst with
  | .buildSlice ..,some d=>match D.contains d with
   | true=>(d+1000000,.any)::Qn5 D os l
   | false=>Qn5 D os l
  | _,_=>Qn5 D os l
def prep (s:PS) (os:List Oper):PS :=
 let s':=frzOps os s os
 ⟨Qn5 (Qc5 os) os s'.env,s'.ob⟩
def appE (P:Program) (t:TypeId) (z:Lf):Option (TypeId × Nat × Nat × Nat):=match Qg2 P t with
 | some e=>match P.info? e,z.view with
  | some i,some (k,n,_)=>match i.zero with
   | some zv=>match Nat.beq i.size k,Nat.beq zv.cells.size i.size && Nat.ble 1 i.size with
    | true,true=>some (e,k,i.bytes,n)
    | _,_=>none
   | none=>none
  | _,_=>none
 | none=>none
def appP (P:Program) (s:PS) (t:TypeId) (o:Nat) (lf z:Lf):Option (Prop × PS × PV):=match appE P t z,lf.view,Qoi lf z,nth s.ob o with
 | some (e,k,b,n'),some (k',n,_),some c,some (.tail e' k'')=>match Nat.beq k k' && (Nat.beq k k'' && Nat.beq e e'),noE o (flE o s.env) && noO o (flB o s.ob) with
  | true,true=>some ((n+n'≤maxLen∧(n+n') * b≤140737488355328),⟨flE o s.env,flB o s.ob⟩,.tl o c)
  | _,_=>none
 | _,_,_,_=>none
def QcU (s:PS) (e:TypeId) (k:Nat):PS:={ s with ob:=s.ob++[.tail e k] }
def Qud:Lf→Lf
 | .is kd _=>.is kd []
 | .row 1 ([.v (.int kd _)]::_)=>.is kd []
 | .row k _=>.row k []
 | .dt s _=>.dt s []
 | x=>x
def Qp7:Lf→Bool
 | .row _ []=>true
 | _=>false
def appB (P:Program) (s:PS) (t:TypeId) (x:PV) (z:Lf):Option (Prop × PS × PV):=match x with
 | .tl o lf=>appP P s t o lf z
 | .wr o=>match nth s.ob o with
  | some (.own e x)=>match Qp7 x && z.view0.isSome with
   | true=>match appE P t z,z.view0,noE o (frE o .any s.env) && noO o s.ob with
    | some (e',k,b,n),some _,true=>match Nat.beq e e' && (match x.view0 with | some (k',_,_)=>Nat.beq k k' | none=>false) with
     | true=>some ((n≤maxLen∧n * b≤140737488355328),⟨frE o .any s.env,setL s.ob o (.own e z)⟩,.wr o)
     | false=>none
    | _,_,_=>none
   | false=>match QlQ s o with
    | some (s',y)=>appP P s' t o y z
    | none=>none
  | _=>none
 | .f (.v (.slice none 0 0))=>match appE P t z,Qud z with
  | some (e,k,_,_),.is kd []=>appP P (QcU s e k) t s.ob.length (.is kd []) z
  | some (e,k,_,_),.row j []=>match Nat.beq j k with
   | true=>appP P (QcU s e k) t s.ob.length (.row j []) z
   | false=>none
  | some (e,k,_,_),.dt d []=>appP P (QcU s e k) t s.ob.length (.dt d []) z
  | _,_=>none
 | _=>none
def keyP:(kt:Kt)→PV→Option kt.T
 | .str,.f (.v (.string s))=>some s
 | .int k,.f (.v (.int k' n))=>match decide (k'=k) with
  | true=>some n
  | false=>none
 | _,_=>none
def ktB:Kt→Kt→Bool
 | .str,.str=>true
 | .int a,.int b=>decide (a=b)
 | _,_=>false
def ktIs (P:Program) (k:TypeId) (kt:Kt):Bool:=match ktOf P k with
 | some kt'=>ktB kt' kt
 | none=>false
def Qmx (P:Program) (s:PS) (t:TypeId) (u k v:PV):Option PS:=match u with
 | .wr o=>match nth s.ob o,P.underlying t with
  | some (.map kt has get ks vs),some (.map kty _)=>match keyP kt k,ktIs P kty kt with
   | some key,true=>some { s with ob:=setL s.ob o (.map kt has get (key::ks) (v::vs)) }
   | _,_=>none
  | _,_=>none
 | _=>none
def QcW:PV→Option (List Lf)
 | .f x=>some [x]
 | .agg []=>some []
 | .agg (x::y::l)=>leafs (x::y::l)
 | _=>none
def getA (kt:Kt) (has:kt.T→Bool) (get:kt.T→List Lf) (ks:List kt.T) (vs:List PV) (x:kt.T):List Lf:=match Qbc kt has get ks vs x with
 | some v=>match QcW v with
  | some l=>l
  | none=>[]
 | none=>[]
def hasD (kt:Kt) (has:kt.T→Bool) (get:kt.T→List Lf) (ks:List kt.T) (vs:List PV) (key x:kt.T):Bool:=match kt.eq x key with
 | true=>false
 | false=>(Qbc kt has get ks vs x).isSome
def QeH:List PV→Bool
 | []=>true
 | v::l=>(QcW v).isSome && QeH l
def QpS (P:Program) (s:PS) (t:TypeId) (u k:PV):Option PS:=match u with
 | .wr o=>match nth s.ob o,P.underlying t with
  | some (.map kt has get ks vs),some (.map kty _)=>match keyP kt k,ktIs P kty kt,QeH vs with
   | some key,true,true=>some { s with ob:=setL s.ob o (.map kt (hasD kt has get ks vs key) (getA kt has get ks vs) [] []) }
   | _,_,_=>none
  | _,_=>none
 | _=>none
def QgV (kt:Kt) (has:kt.T→Bool) (get:kt.T→List Lf) (key:kt.T):List kt.T→List PV→(Option PV→Prop)→Prop
 | k::ks,v::vs,K=>ifB (kt.eq key k) (K (some v)) (QgV kt has get key ks vs K)
 | _,_,K=>ifB (has key) (K (some (Qbm (get key)))) (K none)
def QqT (P:Program) (e:TypeId):Option PV:=match Qot P e with
 | some (.agg cs)=>match rawC cs.toList with
  | some l=>some (.agg l)
  | none=>none
 | some z=>match z.oneCell' with
  | true=>some (.f (.v z))
  | false=>none
 | none=>none
def Qn4 (kd:IntKind):List PV→Option (List Int)
 | []=>some []
 | .f (.v (.int k n))::l=>match decide (k=kd) with
  | true=>match Qn4 kd l with
   | some m=>some (n::m)
   | none=>none
  | false=>none
 | _=>none
def Qk4 (kt:Kt) (key:kt.T) (d:Int):List kt.T→List Int→Int × Bool
 | k::ks,n::ns=>match kt.eq key k with
  | true=>(n,true)
  | false=>Qk4 kt key d ks ns
 | _,_=>(d,false)
def QtU (P:Program) (e:TypeId) (kt:Kt) (has:kt.T→Bool) (get:kt.T→List Lf) (key:kt.T) (ks:List kt.T) (vs:List PV) (c:Bool) (k:PV→Prop):Prop:=QgV kt has get key ks vs fun r=>match r with
 | some v=>k (match c with | true=>.tup [v,.f (.v (.bool true))] | false=>v)
 | none=>match QqT P e with
  | some z=>k (match c with | true=>.tup [z,.f (.v (.bool false))] | false=>z)
  | none=>False
def QtY (P:Program) (e:TypeId) (kt:Kt) (has:kt.T→Bool) (get:kt.T→List Lf) (key:kt.T) (ks:List kt.T) (vs:List PV) (c:Bool) (k:PV→Prop):Prop:=match c,Nat.ble 4 vs.length,QqT P e with
 | true,true,some (.f (.v (.int kd d)))=>match Qn4 kd vs with
  | some ns=>(∀ x,has x=false)∧∀ p:Int × Bool,p=Qk4 kt key d ks ns→k (.tup [.f (.v (.int kd p.1)),.f (.v (.bool p.2))])
  | none=>QtU P e kt has get key ks vs true k
 | c,_,_=>QtU P e kt has get key ks vs c k
def QtV (P:Program) (s:PS) (t:TypeId) (u kv:PV) (c:Bool) (k:PV→Prop):Prop:=match u with
 | .wr o=>match nth s.ob o,P.underlying t with
  | some (.map kt has get ks vs),some (.map kty e)=>match keyP kt kv,ktIs P kty kt with
   | some key,true=>QtY P e kt has get key ks vs c k
   | _,_=>False
  | _,_=>False
 | _=>False
inductive Out:Type 1 where
 | ret (x:PV) (ob:List PO)
 | pan (x:PV) (ob:List PO)
 | nm (α:Type) (e:α) (r:α→Out)
 | br (b:Bool) (x y:Out)
 | need (p:Prop) (o:Out)
abbrev Spec2:=List PV→List PO→Option Out
abbrev Specs2:=FuncId→Option Spec2
def Out.run:Out→(PV→List PO→Prop)→(PV→List PO→Prop)→Prop
 | .ret x ob,k,_=>k x ob
 | .pan x ob,_,q=>q x ob
 | .nm α e r,k,q=>∀ y:α,y=e→(r y).run k q
 | .br b x y,k,q=>ifB b (x.run k q) (y.run k q)
 | .need p o,k,q=>p∧o.run k q
def Out.ok:Out→Prop
 | .ret ..=>True
 | .pan ..=>True
 | .nm _ e r=>(r e).ok
 | .br b x y=>ifB b x.ok y.ok
 | .need p o=>p∧o.ok
def Out.fin:Out→Bool × PV × List PO
 | .ret x ob=>(true,x,ob)
 | .pan x ob=>(false,x,ob)
 | .nm _ e r=>(r e).fin
 | .br b x y=>match b with | true=>x.fin | false=>y.fin
 | .need _ o=>o.fin
theorem Out.run_out {o:Out} {k q:PV→List PO→Prop} (h:o.run k q):o.ok∧(match o.fin with | (true,x,ob)=>k x ob | (false,x,ob)=>q x ob):=by
 induction o with
 | ret x ob=>exact ⟨trivial,h⟩
 | pan x ob=>exact ⟨trivial,h⟩
 | nm α e r ih=>exact ih e (h e rfl)
 | br b x y ihx ihy =>
  rcases Qbf h with ⟨rfl,h⟩ | ⟨rfl,h⟩
  · exact ihx h
  · exact ihy h
 | need p o ih=>exact ⟨⟨h.1,(ih h.2).1⟩,(ih h.2).2⟩
mutual
def renT (σ:Nat→Nat):PV→PV
 | .bp o n=>.bp (σ o) n
 | .tl o x=>.tl (σ o) x
 | .wr o=>.wr (σ o)
 | .wp o k i=>.wp (σ o) k i
 | .agg l=>.agg (renL σ l)
 | .tup l=>.tup (renL σ l)
 | .fn f l m=>.fn f (renL σ l) (renL σ m)
 | .ifc t x=>.ifc t (renT σ x)
 | x=>x
def renL (σ:Nat→Nat):List PV→List PV
 | []=>[]
 | x::l=>renT σ x::renL σ l
end
def renO (σ:Nat→Nat):PO→PO
 | .cells l=>.cells (renL σ l)
 | .map t has get ks vs=>.map t has get ks (renL σ vs)
 | .bld T y=>.bld T (renT σ y)
 | x=>x
def renB (σ:Nat→Nat):List PO→List PO
 | []=>[]
 | x::l=>renO σ x::renB σ l
mutual
def allH (p:Nat→Bool):PV→Bool
 | .bp o _=>p o
 | .tl o _=>p o
 | .wr o=>p o
 | .wp o _ _=>p o
 | .agg l=>Qe2 p l
 | .tup l=>Qe2 p l
 | .fn _ l m=>match Qe2 p l with | true=>Qe2 p m | false=>false
 | .ifc _ x=>allH p x
 | _=>true
def Qe2 (p:Nat→Bool):List PV→Bool
 | []=>true
 | x::l=>match allH p x with | true=>Qe2 p l | false=>false
end
def Qkn (p:Nat→Bool):PO→Bool
 | .cells l=>Qe2 p l
 | .map _ _ _ _ l=>Qe2 p l
 | .bld _ y=>allH p y
 | _=>true
def QqP (p:Nat→Bool):List PO→Bool
 | []=>true
 | x::l=>match Qkn p x with | true=>QqP p l | false=>false
def QqO (p:Nat→Bool):List (Nat × PV)→Bool
 | []=>true
 | (_,x)::l=>match allH p x with | true=>QqO p l | false=>false
def insN (o:Nat):List Nat→List Nat
 | []=>[o]
 | x::l=>match Nat.beq x o with | true=>x::l | false=>x::insN o l
mutual
def hsP:PV→List Nat→List Nat
 | .bp o _,ρ=>insN o ρ
 | .tl o _,ρ=>insN o ρ
 | .wr o,ρ=>insN o ρ
 | .wp o _ _,ρ=>insN o ρ
 | .agg l,ρ=>hsL l ρ
 | .tup l,ρ=>hsL l ρ
 | .fn _ l m,ρ=>hsL m (hsL l ρ)
 | .ifc _ x,ρ=>hsP x ρ
 | _,ρ=>ρ
def hsL:List PV→List Nat→List Nat
 | [],ρ=>ρ
 | x::l,ρ=>hsL l (hsP x ρ)
end
def QhU (ob:List PO):Nat→Nat→List Nat→List Nat
 | 0,_,ρ=>ρ
 | f+1,i,ρ=>match nth ρ i with
  | some o=>match nth ob o with
   | some (.cells l)=>QhU ob f (i+1) (hsL l ρ)
   | some (.map _ _ _ _ l)=>QhU ob f (i+1) (hsL l ρ)
   | some (.bld _ y)=>QhU ob f (i+1) (hsP y ρ)
   | _=>QhU ob f (i+1) ρ
  | none=>ρ
def memN (o:Nat):List Nat→Bool
 | []=>false
 | x::l=>match Nat.beq x o with | true=>true | false=>memN o l
def idxN (o:Nat):List Nat→Nat
 | []=>0
 | x::l=>match Nat.beq x o with | true=>0 | false=>idxN o l+1
def nodN:List Nat→Bool
 | []=>true
 | x::l=>match memN x l with | true=>false | false=>nodN l
def allN (p:Nat→Bool):List Nat→Bool
 | []=>true
 | x::l=>match p x with | true=>allN p l | false=>false
def subO (σ:Nat→Nat) (ob:List PO):List Nat→List PO
 | []=>[]
 | o::ρ=>(match nth ob o with | some x=>renO σ x | none=>.gone)::subO σ ob ρ
def chkR (ob:List PO) (ρ:List Nat):Bool:=nodN ρ && (allN (fun o=>Nat.blt o ob.length) ρ && allN (fun o=>match nth ob o with | some x=>Qkn (fun o'=>memN o' ρ) x | none=>false) ρ)
def Qp8:Option PO→Bool
 | some (.cells _)=>true
 | some (.map ..)=>true
 | some (.bld ..)=>true
 | _=>false
def Qkz (ob:List PO) (ρ:List Nat) (o:Nat):Bool:=match memN o ρ with
 | true=>Qp8 (nth ob o)
 | false=>Nat.blt o ob.length
def Qll (ob:List PO):List Nat→List (Nat × PV)→List (Nat × PV)
 | [],l=>l
 | o::ρ,l=>match nth ob o with
  | some (.tail _ _)=>Qll ob ρ (flE o l)
  | _=>Qll ob ρ l
def QdT (ob:List PO) (ρ:List Nat):Nat→List PO→Bool
 | _,[]=>true
 | i,x::l=>match memN i ρ with
  | true=>QdT ob ρ (i+1) l
  | false=>match Qkn (Qkz ob ρ) x with | true=>QdT ob ρ (i+1) l | false=>false
def Qi4 (n:Nat) (ρ:List Nat) (i:Nat):Nat:=match nth ρ i with
 | some o=>o
 | none=>n+(i - ρ.length)
def putO (τ:Nat→Nat) (ob':List PO) (ρ:List Nat):Nat→List PO→List PO
 | _,[]=>renB τ (ob'.drop ρ.length)
 | i,x::l=>(match memN i ρ with
  | true=>match nth ob' (idxN i ρ) with | some y=>renO τ y | none=>.gone
  | false=>x)::putO τ ob' ρ (i+1) l
def backS (s:PS) (ρ:List Nat) (ob':List PO):PS:=⟨Qll s.ob ρ s.env,putO (Qi4 s.ob.length ρ) ob' ρ 0 s.ob⟩
def Qse (s:PS) (ρ:List Nat) (y:PV) (ob':List PO) (k:PV→PS→Prop):Prop :=
 match Nat.ble ρ.length ob'.length && (allH (fun i=>Nat.blt i ob'.length) y && QqP (fun i=>Nat.blt i ob'.length) ob') with
 | true=>k (renT (Qi4 s.ob.length ρ) y) (backS s ρ ob')
 | false=>False
def Qr5 (P:Program) (s:PS) (sp:Spec2) (f:FuncId) (xs:List PV) (k q:PV→PS→Prop):Prop :=
 let ρ:=QhU s.ob (s.ob.length+1) 0 (hsL xs [])
 match QgL P f && (chkR s.ob ρ && (Qe2 (fun o=>memN o ρ) xs && (QqO (Qkz s.ob ρ) (Qll s.ob ρ s.env) && QdT s.ob ρ 0 s.ob))) with
 | true=>match sp (renL (fun o=>idxN o ρ) xs) (subO (fun o=>idxN o ρ) s.ob ρ) with
  | some o=>o.run (fun y ob'=>Qse s ρ y ob' k) (fun y ob'=>Qse s ρ y ob' q)
  | none=>False
 | false=>False
def QiZ (s:PS) (x:Operand):Option (FuncId × List PV × List PV):=match s.fl x with
 | some (.fn f l m)=>some (f,l,m)
 | some (.f (.v (.func (.func f) a b)))=>match a.size,b.size with
  | 0,0=>some (f,[],[])
  | _,_=>none
 | _=>none
def allP:List Nat→(Nat→Prop)→Prop
 | [],_=>True
 | [i],p=>p i
 | i::l,p=>p i∧allP l p
theorem Qi7:∀ {l:List Nat} {p:Nat→Prop},allP l p→∀ i∈l,p i
 | [j],p,h,i,hi=>by simp at hi; subst hi; exact h
 | j::x::l,p,h,i,hi=>by
  rcases List.mem_cons.1 hi with rfl | hi
  · exact h.1
  · exact Qi7 h.2 i hi
def QuD (os:List Oper):Bool:=Nat.ble os.length 8 && os.all fun o=>o.guard.isNone
def Qen:Op→Bool
 | .store ..=>true
 | .panic _=>true
 | .call ⟨.builtin .append,_,_⟩=>true
 | .mapUpdate ..=>true
 | .insert ..=>true
 | .lookup ..=>true
 | .call ⟨.builtin .delete,_,_⟩=>true
 | _=>false
def nOf:List Oper→Nat
 | []=>0
 | o::os=>match Qen o.op with | true=>0 | false=>nOf os+1
def Qj1:List Oper→List Nat
 | []=>[]
 | o::os=>match o.dst with | some d=>d::Qj1 os | none=>Qj1 os
def QpP (M:List Nat):List Edge→Nat
 | []=>0
 | e::es=>match Region.binds .any e with | true=>((QpP M es) ||| (1 <<< e.on)) ||| M.getD e.on 0 | false=>QpP M es
def MOf:List Nat→List Oper→List Nat
 | M,[]=>M
 | M,o::os=>MOf (M++[QpP M o.after.toList]) os
def Qp2 (k:Nat):Nat→List Nat
 | 0=>[]
 | n+1=>match k.testBit n with | true=>Qp2 k n | false=>Qp2 k n++[n]
def LtOf (os:List Oper) (M:List Nat) (n:Nat):List Nat:=match Nat.blt n os.length with
 | true=>Qp2 (M.getD n 0) n
 | false=>[]
def idxL:List Nat→Nat→Nat→Option Nat
 | [],_,_=>none
 | e::l,d,i=>match Nat.beq e d with | true=>some i | false=>idxL l d (i+1)
def Qcy (D:List Nat) (i:Nat) (o:Oper):Operand→Bool
 | .tmp d=>match idxL D d 0 with
  | some j=>Nat.blt j i && Qax o j
  | none=>true
 | _=>true
def Qat:Op→List Operand
 | .move x | .assign x | .box _ x | .load _ x | .fieldAddr _ x _ | .field _ x _ | .extract x _ | .nilCheck x | .unOp _ _ x | .convert _ _ x | .makeInterface _ x | .typeAssert x _ _ _=>[x]
 | .makeFunc _ us vs=>us.toList++vs.toList
 | .indexAddr _ x i | .index _ x i | .makeSlice _ x i=>[x,i]
 | .slice _ x lo hi _=>x::(lo.toList++hi.toList)
 | .binOp _ _ x y _=>[x,y]
 | .pick c x y=>[c,x,y]
 | .store _ x y=>[x,y]
 | .build _ ps=>ps.toList.map (·.2)
 | .buildSlice _ _ ps=>ps.toList.map (·.2)
 | .call ⟨.value x,xs,_⟩=>x::xs.toList
 | .call ⟨_,xs,_⟩=>xs.toList
 | _=>[]
def QiL:Op→Bool
 | .move _=>true
 | .binOp ..=>true
 | .call ⟨.builtin .len,_,_⟩=>true
 | _=>false
def opOkD (D:List Nat) (Lt:List Nat) (i:Nat) (o:Oper):Bool :=
 (Qat o.op).all (Qcy D i o) && (match o.guard with | some (j,_)=>Nat.blt j i && Qax o j | none=>true) &&
  (match Lt.contains i with
   | true=>match o.op,o.guard with
    | .extract (.tmp _) _,none=>true
    | .pick (.tmp _) _ _,none=>true
    | op,_=>QiL op
   | false=>true)
def QmT (os:List Oper) (m n:Nat):Bool :=
 let M:=MOf [] os
 let Lt:=LtOf os M n
 let D:=Qj1 (os.take n)
 Qf5 os D n m M Lt true && (os.take n).zipIdx.all fun p=>opOkD D Lt p.2 p.1
mutual
def QbH (n:Nat):PV→Bool
 | .bp o _=>Nat.blt o n
 | .tl o _=>Nat.blt o n
 | .wr o=>Nat.blt o n
 | .wp o _ _=>Nat.blt o n
 | .agg l=>Qct n l
 | .tup l=>Qct n l
 | .fn _ l m=>match Qct n l with | true=>Qct n m | false=>false
 | .ifc _ x=>QbH n x
 | _=>true
def Qct (n:Nat):List PV→Bool
 | []=>true
 | x::l=>match QbH n x with | true=>Qct n l | false=>false
end
structure SubB (x y:PV):Prop where
 out:∀ (H:Hp) (B:Hd) (v:Value),PR H B v x→PR H B v y
theorem SubB.refl (x:PV):SubB x x:=⟨fun _ _ _ h=>h⟩
def newT (n:Nat):PV→PV→Bool
 | .f (.v (.slice none 0 0)),.tl o (.is _ _)=>Nat.ble n o
 | .f (.v (.slice none 0 0)),.tl o (.row _ _)=>Nat.ble n o
 | .f (.v (.slice none 0 0)),.tl o (.dt _ _)=>Nat.ble n o
 | _,_=>false
def QdA:PV→Prop
 | .tl _ (.is _ l)=>l=[]
 | .tl _ (.row _ l)=>l=[]
 | .tl _ (.dt _ l)=>l=[]
 | _=>False
def Qje (n:Nat):List PV→List PV→Prop
 | [],[]=>True
 | x::l,y::m=>match newT n x y with | true=>QdA y∧Qje n l m | false=>SubB x y∧Qje n l m
 | _,_=>False
def Qmy:Option PV→Option PV→Prop
 | some x,some y=>SubB x y
 | none,none=>True
 | _,_=>False
structure MapW (t':Kt) (has':t'.T→Bool) (get':t'.T→List Lf) (ks':List t'.T) (vs':List PV) (t:Kt) (has:t.T→Bool) (get:t.T→List Lf) (ks:List t.T) (vs:List PV):Prop where
 out:∃ h:t'=t,∀ key:t'.T,Qmy (Qbc t' has' get' ks' vs' key) (Qbc t has get ks vs (h ▸ key))
def Qcf (n:Nat):List PO→List PO→Prop
 | [],_=>True
 | .cells l::t,.cells m::s=>Qje n m l∧Qcf n t s
 | .gone::t,_::s=>Qcf n t s
 | .tail e k::t,.tail e' k'::s=>match Nat.beq e e' && Nat.beq k k' with
  | true=>Qcf n t s
  | false=>False
 | .own e x::t,.own e' x'::s=>match Nat.beq e e' with
  | true=>x=x'∧Qcf n t s
  | false=>False
 | .map t has get ks vs::T,.map t' has' get' ks' vs'::s=>MapW t' has' get' ks' vs' t has get ks vs∧Qcf n T s
 | .bld T y::t,.bld T' z::s=>match Nat.beq T T' with
  | true=>SubB z y∧Qcf n t s
  | false=>False
 | .tail _ _::t,[]=>Qcf n t []
 | _,_=>False
def QoB (s:PS):List (Nat × PV)→Prop
 | []=>True
 | (d,x)::l=>match look s.env d with | some y=>(match newT s.ob.length y x with | true=>QdA x∧QoB s l | false=>SubB y x∧QoB s l) | none=>False
def QfB (n:Nat):List (Nat × PV)→Bool
 | []=>true
 | (_,x)::l=>match QbH n x with | true=>QfB n l | false=>false
def Qcs (n:Nat):List PO→Bool
 | []=>true
 | .cells l::t=>match Qct n l with | true=>Qcs n t | false=>false
 | .map _ _ _ _ l::t=>match Qct n l with | true=>Qcs n t | false=>false
 | .bld _ y::t=>match QbH n y with | true=>Qcs n t | false=>false
 | _::t=>Qcs n t
def Qdi:Nat→List PO→PS→PS
 | _,[],s=>s
 | o,.tail _ _::t,s=>match nth s.ob o with
  | some (.own _ _)=>match QlQ s o with
   | some (s',_)=>Qdi (o+1) t s'
   | none=>s
  | _=>Qdi (o+1) t s
 | o,_::t,s=>Qdi (o+1) t s
def Weak0 (n0:Nat) (T s:PS):Prop:=match QfB T.ob.length T.env && (Qcs T.ob.length T.ob && Nat.ble n0 T.ob.length) with
 | true=>Qcf s.ob.length T.ob s.ob∧QoB s T.env
 | false=>False
def Weak (n0:Nat) (T s:PS):Prop:=Weak0 n0 T (Qdi 0 T.ob s)
theorem Qdh:∀ (t:List PO) (o:Nat) (s:PS),(∀ (i:Nat) e k,t[i]?=some (.tail e k)→∀ e' x,s.ob[o+i]?≠some (.own e' x))→Qdi o t s=s
 | [],o,s,h=>rfl
 | y::t,o,s,h=>by
  have ih:=Qdh t (o+1) s fun i e k hi=>by
   have:=h (i+1) e k (by simpa using hi)
   rwa [show o+(i+1)=o+1+i by omega] at this
  cases y with
  | tail e k =>
   rw [Qdi]
   have h0:=h 0 e k rfl
   split
   · rename_i e' x hx
     rw [Qap] at hx
     exact absurd hx (h0 e' x)
   · exact ih
  | _=>exact ih
structure Ann:Type 1 where
 α:Type
 T:α→PS
 I:α→Prop
 μ:α→Nat
 R:α→α→Prop
structure Ann4:Type 1 where
 α:Type
 T:α→PS
 I:α→Prop
 μ:α→Nat
def Ann.s (a:Ann4):Ann:=⟨a.α,a.T,a.I,a.μ,fun _ _=>True⟩
abbrev Loops:=Nat→Option Ann
def QjC:Code→Nat
 | .region id _ _=>id
 | .seq a _=>QjC a
 | .block _ a=>QjC a
 | .loop a=>QjC a
 | .scope a=>QjC a
 | .cond _ .skip b=>QjC b
 | .cond _ a _=>QjC a
 | _=>0
end Go.Proofs.YtmbmbcamecfnkaaGreatDoor
namespace Go.Proofs.YtmbmbcamecfnkaaGreatDoor
open Go.RowKit
set_option linter.unusedVariables false
theorem QbX (b o j:Nat):(⟨b,o,none⟩:Addr).add j=⟨b,o+j,none⟩:=by unfold Addr.add; split <;> simp_all
def PRs (H:Hp) (B:Hd) (vs:List Value) (l:List PV):Prop:=vs.length=l.length∧∀ (i:Nat) v x,vs[i]?=some v→l[i]?=some x→PR H B v x
theorem PRs.nil {H:Hp} {B:Hd}:PRs H B [] []:=⟨rfl,by simp⟩
theorem PRs.cons {H:Hp} {B:Hd} {v:Value} {x:PV} {vs:List Value} {l:List PV} (h:PR H B v x) (hs:PRs H B vs l):PRs H B (v::vs) (x::l):=by
 refine ⟨by simp [hs.1],fun i u y hu hy=>?_⟩
 cases i with
 | zero=>simp at hu hy; subst hu hy; exact h
 | succ i=>exact hs.2 i u y (by simpa using hu) (by simpa using hy)
theorem PRs.at {H:Hp} {B:Hd} {vs:List Value} {l:List PV} (h:PRs H B vs l) {i:Nat} {x:PV} (hx:l[i]?=some x):∃ v,vs[i]?=some v∧PR H B v x:=by
 have hl:=(List.getElem?_eq_some_iff.1 hx).1
 have hv:vs[i]?=some (vs[i]'(by rw [h.1]; exact hl)):=List.getElem?_eq_getElem _
 exact ⟨_,hv,h.2 i _ _ hv hx⟩
theorem PRs.mono {H H':Hp} {B B':Hd} (hle:H.le H') (hbe:B.le B') {vs:List Value} {l:List PV} (h:PRs H B vs l):PRs H' B' vs l:=⟨h.1,fun i v x hv hx=>(h.2 i v x hv hx).mono hle hbe⟩
theorem PRs.cut {H:Hp} {B:Hd} {vs:List Value} {l:List PV} (h:PRs H B vs l) (k n:Nat):PRs H B ((vs.drop k).take n) ((l.drop k).take n):=by
 refine ⟨by simp [h.1],fun i v x hv hx=>?_⟩
 rw [List.getElem?_take] at hv hx
 split at hv
 · rw [if_pos (by assumption)] at hx
   rw [List.getElem?_drop] at hv hx
   exact h.2 _ v x hv hx
 · cases hv
theorem PRs.agg {H:Hp} {B:Hd} {vs:List Value} {l:List PV} (h:PRs H B vs l):PR H B (.agg vs.toArray) (.agg l) :=
 .agg (by simpa using h.1) fun i v x hv hx=>h.2 i v x (by simpa using hv) hx
theorem PRs.of_agg {H:Hp} {B:Hd} {v:Value} {l:List PV} (h:PR H B v (.agg l)):∃ vs:List Value,v=.agg vs.toArray∧PRs H B vs l:=by
 cases h with
 | @agg vs l hn h=>exact ⟨vs.toList,by simp,by simpa using hn,fun i v x hv hx=>h i v x (by simpa using hv) hx⟩
theorem PRs.of_tup {H:Hp} {B:Hd} {v:Value} {l:List PV} (h:PR H B v (.tup l)):∃ vs:List Value,v=.tuple vs.toArray∧PRs H B vs l:=by
 cases h with
 | @tup vs l hn h=>exact ⟨vs.toList,by simp,by simpa using hn,fun i v x hv hx=>h i v x (by simpa using hv) hx⟩
theorem QaR {α:Type}:∀ (l:List α) (n:Nat) (y:α),(setL l n y).length=l.length
 | [],_,_=>rfl
 | _::l,0,y=>rfl
 | x::l,n+1,y=>by simp [setL,QaR l n y]
theorem Qcw {α:Type}:∀ (l:List α) (n:Nat) (y:α),setL l n y=l.set n y
 | [],_,_=>by simp [setL]
 | _::l,0,y=>by simp [setL]
 | x::l,n+1,y=>by simp [setL,Qcw l n y]
theorem PRs.set {H:Hp} {B:Hd} {vs:List Value} {l:List PV} (h:PRs H B vs l) {v:Value} {x:PV} (hx:PR H B v x) (n:Nat):PRs H B (vs.set n v) (setL l n x):=by
 rw [Qcw]
 refine ⟨by simp [h.1],fun i u y hu hy=>?_⟩
 rw [List.getElem?_set] at hu hy
 split at hu
 · rename_i hni
   rw [if_pos hni] at hy
   split at hu
   · rename_i hl
     rw [if_pos (by rw [← h.1]; exact hl)] at hy
     cases hu; cases hy; exact hx
   · cases hu
 · rename_i hni
   rw [if_neg hni] at hy
   exact h.2 i u y hu hy
def putV (vs:List Value) (off:Nat):List Value→List Value
 | []=>vs
 | v::us=>putV (vs.set off v) (off+1) us
theorem PRs.put {H:Hp} {B:Hd}:∀ {us:List Value} {m:List PV} {vs:List Value} {l:List PV} (off:Nat),PRs H B vs l→PRs H B us m→PRs H B (putV vs off us) (putL l off m)
 | [],[],vs,l,off,h,_=>h
 | [],x::m,_,_,_,_,hu=>by have:=hu.1; simp at this
 | v::us,[],_,_,_,_,hu=>by have:=hu.1; simp at this
 | v::us,x::m,vs,l,off,h,hu=>by
  have h0:PR H B v x:=hu.2 0 v x rfl rfl
  have h1:PRs H B us m:=⟨by have:=hu.1; simpa using this,fun i v x hv hx=>hu.2 (i+1) v x (by simpa using hv) (by simpa using hx)⟩
  exact PRs.put (off+1) (h.set h0 off) h1
theorem Qds {H:Hp} {B:Hd}:∀ {vs:List Value} {l:List PV},rawC vs=some l→PRs H B vs l
 | [],l,h=>by simp only [rawC,Option.some.injEq] at h; subst h; exact .nil
 | v::vs,l,h=>by
  simp only [rawC] at h
  split at h
  · rename_i m hv hm
    simp only [Option.some.injEq] at h
    subst h
    exact .cons (.f (.v v hv)) (Qds hm)
  · cases h
theorem PR.one {H:Hp} {B:Hd} {v:Value} {x:Lf} (h:PR H B v (.f x)):v.oneCell'=true:=by
 cases h with
 | f h=>cases h with
  | v x h1=>exact h1
  | zn=>rfl
  | sl=>rfl
theorem PR.rd {H:Hp} {B:Hd} {v:Value} {x:Lf} (h:PR H B v (.f x)):Rd H v x:=by
 cases h with
 | f h=>exact h
theorem QgM {v:Value} (h:v.oneCell'=true):v.cells.toList=[v]:=by cases v <;> first | rfl | cases h
theorem PR.cells {H:Hp} {B:Hd} {v:Value} {x:PV} (hx:QhW x=true) (h:PR H B v x):PRs H B v.cells.toList (QeV x):=by
 cases x with
 | agg l =>
  obtain ⟨vs,rfl,h1⟩:=PRs.of_agg h
  exact (by simpa [QeV,Value.cells] using h1)
 | f x=>rw [QgM h.one]; exact .cons h .nil
 | bp o n=>cases h; exact .cons (.bp (by assumption)) .nil
 | ep l=>cases h; exact .cons (.ep _ _ _ (by assumption) (by assumption)) .nil
 | wr o =>
  have h':=h
  cases h with
  | wr hb h1=>rw [QgM h1]; exact .cons h' .nil
 | wp o k i=>cases hx
 | any=>cases hx
 | tl o y =>
  have h':=h
  cases h with
  | tl hr hb=>rw [QgM (PR.one (H:=H) (B:=B) (.f hr))]; exact .cons h' .nil
 | tup l=>cases hx
 | fn f l m=>cases h; exact .cons (.fn (by assumption) (by assumption) (by assumption) (by assumption)) .nil
 | ifc t x=>cases h; exact .cons (.ifc (by assumption)) .nil
theorem Obs.cell {lo:Nat→Prop} {ob:List PO} {g:Gh} {w:World} (h:Obs lo ob g w) {o:Nat} {l:List PV} (ho:ob[o]?=some (.cells l)) {b:Nat} (hb:g.B o=some (.pointer (some ⟨b,0,none⟩))) :
  ∃ vs,Box w b vs∧PRs g.H g.B vs l∧¬ lo b∧∀ j,g.H b j=none:=by
 obtain ⟨b',vs,h1,h2,h3,h4,h5,h6⟩:=h.hold o _ _ ho hb
 cases h1
 exact ⟨vs,h2,⟨h3,h4⟩,h.kept o _ b hb rfl,h6⟩
section
variable {P : Program} {w : World}
theorem Qdn {t:TypeId} {b:Bool} (h:aggT P t=some b):(isAgg t).run P w=.ok b w:=by
 unfold aggT at h
 unfold isAgg underlying
 cases hu:P.underlying t with
 | none=>rw [hu] at h; cases h
 | some d=>rw [hu] at h; cases d <;> simp at h <;> subst h <;> simp [hu]
theorem QaL {t:TypeId} {n:Nat} (h:szT P t=some n):(sizeOf t).run P w=.ok n w:=by
 unfold szT at h
 unfold sizeOf typeInfo
 cases hu:P.info? t with
 | none=>rw [hu] at h; cases h
 | some d=>rw [hu] at h; simp only [Option.some.injEq] at h; subst h; simp [hu]
theorem Qrq {H:Hp} {B:Hd} {v:Value} {x:PV} (h:PR H B v x):PR H B v (QtQ x):=by
 unfold QtQ
 split
 · rename_i z
   have:=h.rd.val rfl
   subst this
   exact .f (.v _ rfl)
 · exact h
theorem Qmo {H:Hp} {B:Hd} {t:TypeId} {l:List PV} {off:Nat} {y:PV} {vs:List Value} (h:QkU P t l off=some y) (hs:PRs H B vs l) :
  ∃ v,PR H B v y∧((∃ n,aggT P t=some true∧szT P t=some n∧v=.agg ((vs.drop off).take n).toArray∧off+n≤vs.length)∨(aggT P t=some false∧vs[off]?=some v)):=by
 unfold QkU at h
 split at h
 · rename_i n h1 h2
   unfold Go.Proofs.YtmbmbcamecfnkaaGreatDoor.cut at h
   split at h
   · rename_i m hm
     split at hm
     · rename_i hle
       simp only [Option.some.injEq] at hm h
       subst hm h
       exact ⟨_,(hs.cut off n).agg,.inl ⟨n,h1,h2,rfl,by rw [hs.1]; exact Nat.le_of_ble_eq_true hle⟩⟩
     · cases hm
   · cases h
 · rename_i h1
   split at h
   · rename_i x hx
     cases h
     rw [Qap] at hx
     obtain ⟨v,hv,hr⟩:=hs.at hx
     exact ⟨v,Qrq hr,.inr ⟨h1,hv⟩⟩
   · cases h
 · cases h
theorem Qej {H:Hp} {B:Hd} {t:TypeId} {l:List PV} {off b o:Nat} {y:PV} {vs:List Value} (h:QkU P t l off=some y) (hs:PRs H B vs l) (hc:∀ j v,vs[j]?=some v→w.cell? ⟨b,o+j,none⟩=some v) :
  ∃ v,PR H B v y∧(Instr.loadAt t (.pointer (some ⟨b,o+off,none⟩))).run P w=.ok v w:=by
 obtain ⟨v,hv,h1 | h1⟩:=Qmo h hs
 · obtain ⟨n,ha,hn,rfl,hle⟩:=h1
   refine ⟨_,hv,?_⟩
   have hl:=run_loadCells_list (P:=P) (w:=w) ⟨b,o+off,none⟩ ((vs.drop off).take n) (fun j v hjv=>by
    rw [QbX]
    rw [List.getElem?_take] at hjv
    split at hjv
    · rw [List.getElem?_drop] at hjv
      rw [Nat.add_assoc]; exact hc _ _ hjv
    · cases hjv)
   have hlen:((vs.drop off).take n).length=n:=by simp; omega
   rw [hlen] at hl
   simp only [Instr.loadAt,Instr.sureAddr,loadVar,Sem.run_bind,Sem.run_pure,Result.andThen_ok,Qdn ha,QaL hn,if_true,hl]
 · obtain ⟨ha,hv'⟩:=h1
   refine ⟨_,hv,?_⟩
   have:=hc _ _ hv'
   simp [Instr.loadAt,Instr.sureAddr,loadVar,Qdn ha,this]
end
end Go.Proofs.YtmbmbcamecfnkaaGreatDoor
namespace Go.Proofs.YtmbmbcamecfnkaaGreatDoor
open Go.RowKit
set_option linter.unusedVariables false
def B0:Hd:=fun _=>none
theorem B0.le (B:Hd):B0.le B:=fun _ _ h=>by cases h
def Contract (P:Program) (E:Env) (f:FuncId) (sp:Spec):Prop :=
 ∀ xs p r,sp xs=some (p,r)→(∀ q,p=some q→q)→∀ (w:World) (H:Hp) (vs:List Value),Fro H w→E (fun b=>b<w.heap.size) w H→PRs H B0 vs xs →
  Calls P f vs.toArray w fun e w'=>∃ H' v,e=.returned v∧Ext w H w' H'∧PR H' B0 v r.out
def Sound (P:Program) (E:Env) (Γ:Specs):Prop:=∀ f sp,Γ f=some sp→Contract P E f sp
structure Up (E:Env):Prop where
 go:∀ (c:Cx) (H:Hp) (w':World) (H':Hp),ExtK c H w' H'→E c.K c.w H→E c.K w' H'
 more:∀ (K K':Nat→Prop) (w:World) (H:Hp),(∀ b,K b→K' b)→E K w H→E K' w H
theorem PO.other {w w':World} {H:Hp} {B:Hd} {lo b:Nat} {u:Value} {x:PO} (h:x.holds w H B lo u) (hb:blk u≠some b) (hk:∀ k,k≠b→w'.heap[k]?=w.heap[k]?) (hsz:w'.heap.size=w.heap.size):x.holds w' H B lo u:=by
 cases x with
 | cells l =>
  obtain ⟨b',vs,rfl,h1,h2,h3,h4,h5⟩:=h
  have hne:b'≠b:=fun hc=>hb (by rw [hc]; rfl)
  refine ⟨b',vs,rfl,⟨fun j hj=>(World.cell?_of_block (a:=⟨b',j,none⟩) (hk b' hne)).trans (h1.cells j hj),fun j=>(World.frozen?_of_block (a:=⟨b',j,none⟩) (hk b' hne)).trans (h1.free j),by rw [hsz]; exact h1.lt⟩,h2,h3,h4,h5⟩
 | own e x =>
  obtain ⟨k,n,get,vs,hv,h1,h3,h4⟩:=h
  refine ⟨k,n,get,vs,hv,⟨h1.1,?_⟩,h3,h4⟩
  rcases h1.2 with h5 | ⟨g,cap,cur,rfl,hg,hh,r⟩
  · exact .inl h5
  · have hne:g≠b:=fun hc=>hb (by rw [hc]; rfl)
    exact .inr ⟨g,cap,cur,rfl,hg,hh.keep (hk g hne),r⟩
 | tail e k =>
  rcases h with h | ⟨g,n,cap,cur,rfl,h1,h2,h3⟩
  · exact .inl h
  · have hne:g≠b:=fun hc=>hb (by rw [hc]; rfl)
    exact .inr ⟨g,n,cap,cur,rfl,h1,by rw [hk g hne]; exact h2,h3⟩
 | gone=>trivial
 | map t has get ks vs =>
  obtain ⟨b',es,clock,l,rfl,h1,h2⟩:=h
  have hne:b'≠b:=fun hc=>hb (by rw [hc]; rfl)
  exact ⟨b',es,clock,l,rfl,by rw [hk b' hne]; exact h1,h2⟩
 | bld T y =>
  obtain ⟨b',p,v,rfl,h1,h2⟩:=h
  have hne:b'≠b:=fun hc=>hb (by rw [hc]; rfl)
  exact ⟨b',p,v,rfl,by rw [hk b' hne]; exact h1,h2⟩
section
variable {P : Program} {w : World} {a : Act} {Q : Exit → Act → World → Prop} {lo : Nat → Prop} {ob : List PO} {g : Gh}
def Makes (P:Program) (lo:Nat→Prop) (ob:List PO) (s:PS) (nob:Option PO) (y:PV) (a:Act) (w:World) (g:Gh) (o:Oper) (Q:Exit→Act→World→Prop):Prop :=
 ∀ K:Act→World→Prop,(∀ w' u g',Obs lo ob g' w'→Ext w g.H w' g'.H→g.B.le g'.B→(∀ i,nob=none∨i≠s.ob.length→g'.B i=g.B i)→(∀ z,nob=some z→∃ u,g'.B s.ob.length=some u)→PR g'.H g'.B u y→K (a.put o.dst u) w')→o.wp P a w K Q
theorem Qam {s:PS} {y:PV} {o:Oper} {u:Value} (hO:Obs lo ob g w) (h:(execOp a.eval o).run P w=.ok (.value u) w) (hu:PR g.H g.B u y):Makes P lo ob s none y a w g o Q:=by
 intro K hK
 exact QbM h (hK w u g hO (Ext.refl hO.fro) (fun _ _ h=>h) (fun _ _=>rfl) (fun z hz=>by cases hz) hu)
theorem Qas {s:Sem Value} {u:Value} {w':World} (h:s.run P w=.ok u w'):(do pure (Next.value (← s)):Sem Next).run P w=.ok (.value u) w':=by simp [h]
theorem Obs.alloc {z:List PV} {vs:List Value} {i:Nat} (t:TypeId) (hO:Obs lo ob g w) (hlo:∀ b,lo b→b<w.heap.size) (hi:ob[i]?=some (.cells z)) (hB:g.B i=none) (hz:PRs g.H g.B vs z) :
  Obs lo ob ⟨g.H,fun j=>if j=i then some (.pointer (some ⟨w.heap.size,0,none⟩)) else g.B j⟩ (w.alloc (.cells vs.toArray t))∧Ext w g.H (w.alloc (.cells vs.toArray t)) g.H∧g.B.le (fun j=>if j=i then some (.pointer (some ⟨w.heap.size,0,none⟩)) else g.B j):=by
 have hbel:Below w.heap.size w (w.alloc (.cells vs.toArray t)):=(Below.refl _ _).alloc (Nat.le_refl _) _
 have hE:Ext w g.H (w.alloc (.cells vs.toArray t)) g.H:=Ext.below hO.fro hbel
 have hle:g.B.le (fun j=>if j=i then some (.pointer (some ⟨w.heap.size,0,none⟩)) else g.B j):=by
  intro j v hj
  by_cases hji:j=i
  · subst hji; rw [hB] at hj; cases hj
  · simp only [if_neg hji]; exact hj
 refine ⟨⟨hE.fro,fun o u b hu hb=>?_,fun o x u hx hu=>?_,fun o o' u u' b hne hu hu' hb hb'=>?_,fun o u hu=>?_,fun o u b hu hb hK=>?_⟩,hE,hle⟩
 · by_cases hoi:o=i
   · simp only [if_pos hoi] at hu; cases hu; cases hb; rw [Qaa]; dsimp only; omega
   · simp only [if_neg hoi] at hu; rw [Qaa]; have:=hO.lt o u b hu hb; omega
 · by_cases hoi:o=i
   · subst hoi
     simp only [if_true] at hu
     cases hu
     rw [hi] at hx
     cases hx
     refine ⟨_,vs,rfl,Box.new w t rfl (by simp),hz.1,fun i v x hv hx=>(hz.2 i v x hv hx).mono g.H.le_refl hle,Nat.zero_le _,fun j=>?_⟩
     cases hh:g.H w.heap.size j with
     | none=>rfl
     | some v=>have:=hO.fro.lt hh; omega
   · simp only [if_neg hoi] at hu
     exact PO.mono (hO.hold o x u hx hu) hE hle
 · by_cases hoi:o=i
   · simp only [if_pos hoi] at hu
     have hoi':o'≠i:=fun h=>hne (hoi.trans h.symm)
     simp only [if_neg hoi'] at hu'
     cases hu; cases hb
     have:=hO.lt o' u' _ hu' hb'
     dsimp only at this
     omega
   · simp only [if_neg hoi] at hu
     by_cases hoi':o'=i
     · simp only [if_pos hoi'] at hu'
       cases hu'; cases hb'
       have:=hO.lt o u _ hu hb
       dsimp only at this
       omega
     · simp only [if_neg hoi'] at hu'
       exact hO.apart o o' u u' b hne hu hu' hb hb'
 · by_cases hoi:o=i
   · subst hoi; exact (List.getElem?_eq_some_iff.1 hi).1
   · simp only [if_neg hoi] at hu; exact hO.dom o u hu
 · by_cases hoi:o=i
   · simp only [if_pos hoi] at hu; cases hu; cases hb; have:=hlo _ hK; dsimp only at this; omega
   · simp only [if_neg hoi] at hu; exact hO.kept o u b hu hb hK
theorem Obs.fresh {i:Nat} {u:Value} {x:PO} (hO:Obs lo ob g w) (hB:g.B i=none) (hi:ob[i]?=some x) (hlt:∀ b,blk u=some b→b<w.heap.size) (hnk:∀ b,blk u=some b→¬ lo b) (hap:∀ o u' b,g.B o=some u'→blk u'=some b→blk u=some b→False) (hold:∀ B,x.holds w g.H B 0 u) :
  Obs lo ob ⟨g.H,fun j=>if j=i then some u else g.B j⟩ w∧g.B.le (fun j=>if j=i then some u else g.B j):=by
 have hle:g.B.le (fun j=>if j=i then some u else g.B j):=by
  intro j v hj
  by_cases hji:j=i
  · subst hji; rw [hB] at hj; cases hj
  · simp only [if_neg hji]; exact hj
 refine ⟨⟨hO.fro,fun o v b hu hb=>?_,fun o y v hx hu=>?_,fun o o' v v' b hne hu hu' hb hb'=>?_,fun o v hu=>?_,fun o v b hu hb=>?_⟩,hle⟩
 · by_cases hoi:o=i
   · simp only [if_pos hoi] at hu; cases hu; exact hlt b hb
   · simp only [if_neg hoi] at hu; exact hO.lt o v b hu hb
 · by_cases hoi:o=i
   · subst hoi
     simp only [if_true] at hu
     cases hu
     rw [hi] at hx
     cases hx
     exact hold _
   · simp only [if_neg hoi] at hu
     exact PO.mono (hO.hold o y v hx hu) (Ext.refl hO.fro) hle
 · by_cases hoi:o=i
   · simp only [if_pos hoi] at hu
     have hoi':o'≠i:=fun h=>hne (hoi.trans h.symm)
     simp only [if_neg hoi'] at hu'
     cases hu
     exact hap o' v' b hu' hb' hb
   · simp only [if_neg hoi] at hu
     by_cases hoi':o'=i
     · simp only [if_pos hoi'] at hu'
       cases hu'
       exact hap o v b hu hb hb'
     · simp only [if_neg hoi'] at hu'
       exact hO.apart o o' v v' b hne hu hu' hb hb'
 · by_cases hoi:o=i
   · subst hoi; exact (List.getElem?_eq_some_iff.1 hi).1
   · simp only [if_neg hoi] at hu; exact hO.dom o v hu
 · by_cases hoi:o=i
   · simp only [if_pos hoi] at hu; cases hu; exact hnk b hb
   · simp only [if_neg hoi] at hu; exact hO.kept o v b hu hb
theorem Obs.newRow {i n cap:Nat} {vs:List Value} {x:PO} (e:TypeId) (hO:Obs lo ob g w) (hlo:∀ b,lo b→b<w.heap.size) (hB:g.B i=none) (hi:ob[i]?=some x) (hold:∀ B,x.holds (w.alloc (.cells vs.toArray e)) g.H B 0 (.slice (some ⟨w.heap.size,0,none⟩) n cap)) :
  Obs lo ob ⟨g.H,fun j=>if j=i then some (.slice (some ⟨w.heap.size,0,none⟩) n cap) else g.B j⟩ (w.alloc (.cells vs.toArray e))∧Ext w g.H (w.alloc (.cells vs.toArray e)) g.H∧g.B.le (fun j=>if j=i then some (.slice (some ⟨w.heap.size,0,none⟩) n cap) else g.B j):=by
 have hbel:Below w.heap.size w (w.alloc (.cells vs.toArray e)):=(Below.refl _ _).alloc (Nat.le_refl _) _
 have hE:Ext w g.H (w.alloc (.cells vs.toArray e)) g.H:=Ext.below hO.fro hbel
 obtain ⟨h1,h2⟩:=(hO.ext hE).fresh (i:=i) (u:=.slice (some ⟨w.heap.size,0,none⟩) n cap) hB hi (fun b hb=>by cases hb; rw [Qaa]; exact Nat.lt_succ_self _) (fun b hb hc=>by cases hb; have:=hlo _ hc; dsimp only at this; omega) (fun o u b hu hb hc=>by cases hc; have:=hO.lt o u _ hu hb; dsimp only at this; omega) hold
 exact ⟨h1,hE,h2⟩
theorem Obs.newRowW {i n cap:Nat} {x:PO} {w':World} (hO:Obs lo ob g w) (hlo:∀ b,lo b→b<w.heap.size) (hB:g.B i=none) (hi:ob[i]?=some x) (hbel:Below w.heap.size w w') (hsz:w'.heap.size=w.heap.size+1) (hold:∀ B,x.holds w' g.H B 0 (.slice (some ⟨w.heap.size,0,none⟩) n cap)) :
  Obs lo ob ⟨g.H,fun j=>if j=i then some (.slice (some ⟨w.heap.size,0,none⟩) n cap) else g.B j⟩ w'∧Ext w g.H w' g.H∧g.B.le (fun j=>if j=i then some (.slice (some ⟨w.heap.size,0,none⟩) n cap) else g.B j):=by
 have hE:Ext w g.H w' g.H:=Ext.below hO.fro hbel
 obtain ⟨h1,h2⟩:=(hO.ext hE).fresh (i:=i) (u:=.slice (some ⟨w.heap.size,0,none⟩) n cap) hB hi (fun b hb=>by cases hb; rw [hsz]; exact Nat.lt_succ_self _) (fun b hb hc=>by cases hb; have:=hlo _ hc; dsimp only at this; omega) (fun o u b hu hb hc=>by cases hc; have:=hO.lt o u _ hu hb; dsimp only at this; omega) hold
 exact ⟨h1,hE,h2⟩
theorem QdO (s:ByteArray):(strI s).length=s.size:=by simp [strI]
theorem QlB (w:World) {H:Hp} {B:Hd} (e:TypeId) (u:ByteArray) (hs:u.size≤1099511627776) (hno:∀ j,H w.heap.size j=none):(PO.own e (.is .u8 (strI u))).holds (Lib.bytesWorld w e u) H B 0 (.slice (some ⟨w.heap.size,0,none⟩) u.size (grownCap w u.size 0 e)):=by
 have hc:=grownCap_ge w u.size 0 e
 have hl:=QdO u
 have hsz:(Lib.bytesCells w e u).size=grownCap w u.size 0 e * 1:=by
  simp only [Lib.bytesCells,Array.size_append,Array.size_map,Array.size_replicate]
  have:u.data.size=u.size:=rfl
  omega
 refine ⟨1,u.size,fun q=>[.v (.int .u8 ((strI u).getD q 0))],(Lib.bytesCells w e u).toList.take (u.size * 1),by simp only [Lf.view0,hl],⟨by rw [List.length_take,Array.length_toList,hsz]; omega,.inr ⟨_,_,Lib.bytesCells w e u,rfl,Nat.zero_le _,⟨_,Lib.bytesWorld_at_new w e u,.inr ⟨rfl,Nat.le_refl _⟩⟩,hc,grownCap_le_maxLen w u.size 0 e (by unfold maxLen; omega),hsz,rfl⟩⟩,fun i hi=>⟨rfl,fun j y hy=>?_⟩,fun b hb j=>by cases hb; exact hno j⟩
 cases j with
 | succ j=>cases hy
 | zero =>
  cases hy
  refine ⟨.int .u8 ((strI u).getD i 0),?_,.v _ rfl⟩
  rw [Nat.mul_one,Nat.mul_one,Nat.add_zero,List.getElem?_take,if_pos hi,Array.getElem?_toList]
  have hi':i<u.data.size:=hi
  simp [Lib.bytesCells,Array.getElem?_append,hi,strI,List.getD_eq_getElem?_getD]
theorem QgT {s:PS} {z:List PV} {vs:List Value} {o:Oper} {t:TypeId} (hO:Obs lo ob g w) (hlo:∀ b,lo b→b<w.heap.size) (hi:ob[s.ob.length]?=some (.cells z)) (hB:g.B s.ob.length=none) (hz:PRs g.H g.B vs z)
  (h:(execOp a.eval o).run P w=.ok (.value (.pointer (some ⟨w.heap.size,0,none⟩))) (w.alloc (.cells vs.toArray t))):Makes P lo ob s (some (.cells z)) (.bp s.ob.length 0) a w g o Q:=by
 intro K hK
 obtain ⟨h1,h2,h3⟩:=hO.alloc t hlo hi hB hz
 refine QbM h (hK _ _ ⟨_,_⟩ h1 h2 h3 (fun i hi=>?_) (fun _ _=>⟨_,if_pos rfl⟩) (.bp (if_pos rfl)))
 rcases hi with hi | hi
 · cases hi
 · exact if_neg hi
theorem QrK (w:World) (o:Obj):(w.alloc o).heap[w.heap.size]?=some o:=by
 show (w.heap.push o)[w.heap.size]?=_
 simp
theorem QpT {s:PS} {kt:Kt} {o:Oper} (hO:Obs lo ob g w) (hlo:∀ b,lo b→b<w.heap.size) (hi:ob[s.ob.length]?=some (.map kt (fun _=>false) (fun _=>[]) [] [])) (hB:g.B s.ob.length=none)
  (h:(execOp a.eval o).run P w=.ok (.value (.map (some w.heap.size))) (w.alloc (.map #[] 0))):Makes P lo ob s (some (.map kt (fun _=>false) (fun _=>[]) [] [])) (.wr s.ob.length) a w g o Q:=by
 intro K hK
 have hbel:Below w.heap.size w (w.alloc (.map #[] 0)):=(Below.refl _ _).alloc (Nat.le_refl _) _
 have hE:Ext w g.H (w.alloc (.map #[] 0)) g.H:=Ext.below hO.fro hbel
 obtain ⟨h1,h2⟩:=(hO.ext hE).fresh (i:=s.ob.length) (u:=.map (some w.heap.size)) hB hi (fun b hb=>by cases hb; rw [Qaa]; exact Nat.lt_succ_self _) (fun b hb hc=>by cases hb; have:=hlo _ hc; omega) (fun o u b hu hb hc=>by cases hc; have:=hO.lt o u _ hu hb; omega) (fun B=>⟨w.heap.size,#[],0,[],rfl,QrK w _,⟨⟨rfl,List.nodup_nil⟩,MapKept.stamped_empty 0⟩,Nat.zero_le _,fun j=>by
  cases hh:g.H w.heap.size j with
  | none=>rfl
  | some v=>have:=hO.fro.lt hh; omega,fun key=>trivial⟩)
 refine QbM h (hK _ _ ⟨_,_⟩ h1 hE h2 (fun i hi=>?_) (fun _ _=>⟨_,if_pos rfl⟩) (.wr (if_pos rfl) rfl))
 rcases hi with hi | hi
 · cases hi
 · exact if_neg hi
theorem Obs.frozen {vs:List Value} (t:TypeId) (hO:Obs lo ob g w) :
  Obs lo ob ⟨fun b j=>if b=w.heap.size then vs[j]? else g.H b j,g.B⟩ (w.alloc (.cells vs.toArray t))∧Ext w g.H (w.alloc (.cells vs.toArray t)) (fun b j=>if b=w.heap.size then vs[j]? else g.H b j):=by
 have hbel:Below w.heap.size w (w.alloc (.cells vs.toArray t)):=(Below.refl _ _).alloc (Nat.le_refl _) _
 have hE:Ext w g.H (w.alloc (.cells vs.toArray t)) (fun b j=>if b=w.heap.size then vs[j]? else g.H b j):=by
  refine ⟨hbel,fun b j v h=>?_,fun b j v h=>?_,fun b j v h1 h2=>?_⟩
  · have:=hO.fro.lt h
    show (if b=w.heap.size then vs[j]? else g.H b j)=some v
    rw [if_neg (by omega)]; exact h
  · by_cases hb:b=w.heap.size
    · simp only [if_pos hb] at h
      rw [Qal w vs.toArray t b j hb]
      simpa using h
    · simp only [if_neg hb] at h
      exact (hbel.cell (p:=⟨b,j,none⟩) (hO.fro.lt h)).trans (hO.fro b j v h)
  · by_cases hb:b=w.heap.size
    · omega
    · simp only [if_neg hb] at h1; rw [h1] at h2; cases h2
 exact ⟨hO.ext hE,hE⟩
end
end Go.Proofs.YtmbmbcamecfnkaaGreatDoor
namespace Go.Proofs.YtmbmbcamecfnkaaGreatDoor
open Go.RowKit
set_option linter.unusedVariables false
theorem Qf6 {s:PS} {v:Value} {y:PV} {H:Hp} {B:Hd} (h:s.ev (.const v)=some y):PR H B v y:=by
 unfold PS.ev at h
 split at h
 · rename_i hc; cases hc
 · rename_i cs hc
   cases hc
   split at h
   · rename_i l hl
     cases h
     have:=(Qds (H:=H) (B:=B) hl).agg
     simpa using this
   · cases h
 · cases h
 · rename_i v' h1 h2 hc
   cases hc
   cases h
   refine .f (.v v ?_)
   cases v with
   | agg cs=>exact absurd rfl (h1 cs)
   | tuple cs=>exact absurd rfl (h2 cs)
   | _=>rfl
 · rename_i hc; cases hc
 · rename_i hc; cases hc
abbrev operT:=Qat
section
variable {P : Program} {w : World} {a : Act} {Q : Exit → Act → World → Prop} {lo : Nat → Prop} {ob : List PO} {g : Gh} {s : PS}
theorem PR.flat {H:Hp} {B:Hd} {v:Value} {x:PV} (h:PR H B v x):PR H B v (flat x):=by
 induction h with
 | tl h _=>exact .f h
 | f h=>exact .f h
 | bp h=>exact .bp h
 | ep b o val hc h=>exact .ep b o val hc h
 | wr hb h1=>exact .wr hb h1
 | wp hb hi=>exact .wp hb hi
 | any=>exact .any
 | agg hn h ih=>exact .agg (by rw [QcI]; exact hn) (QeR ih)
 | tup hn h=>exact .tup hn h
 | fn hm h1 hn h2 ih1 ih2=>exact .fn (by rw [QcI]; exact hm) (QeR ih1) (by rw [QcI]; exact hn) (QeR ih2)
 | ifc h ih=>exact .ifc ih
theorem QcZ {s:PS} {H:Hp} {B:Hd} {v:Value} {x:Operand} (h:∀ y,s.ev x=some y→PR H B v y):∀ y,s.fl x=some y→PR H B v y:=by
 intro y hy
 unfold PS.fl at hy
 split at hy
 · rename_i z hz; cases hy; exact (h z hz).flat
 · cases hy
theorem fl_tup {s:PS} {x:Operand} {l:List PV} (h:s.fl x=some (.tup l)):s.ev x=some (.tup l):=by
 unfold PS.fl at h
 split at h
 · rename_i z hz
   cases z <;> simp only [flat,Option.some.injEq] at h <;> first | (cases h; done) | (rw [hz,h]) | cases h
 · cases h
theorem QfA {xs:List Operand}:∀ {l:List PV},(∀ x∈xs,∀ y,s.fl x=some y→PR g.H g.B (a.eval x) y)→evs s xs=some l→PRs g.H g.B (xs.map a.eval) l:=by
 induction xs with
 | nil=>intro l _ h; simp only [evs,Option.some.injEq] at h; subst h; exact .nil
 | cons x xs ih =>
  intro l hev h
  simp only [evs] at h
  split at h
  · rename_i y m hy hm
    cases h
    exact .cons (hev x List.mem_cons_self y hy) (ih (fun x hx=>hev x (List.mem_cons_of_mem _ hx)) hm)
  · cases h
theorem QdX {o:Oper} {t:Sem Value} {q:Option Prop} {y:Rs} {nob:Option PO} (hO:Obs lo ob g w) (h:oneP (peel P t)=some (q,y,nob)) (he:execOp a.eval o=(do pure (.value (← t)))):Makes P lo ob s nob y.out a w g o Q:=by
 unfold oneP at h
 split at h
 · rename_i r hr
   split at h
   · rename_i h1
     cases h
     exact Qam hO (by rw [he]; exact Qas (Qiz _ hr w)) (.f (.v r h1))
   · cases h
 · cases h
theorem run_underlying {t:TypeId} {d:TypeDesc} (h:P.underlying t=some d):(underlying t).run P w=.ok d w:=by
 unfold underlying; simp [h]
theorem QmN {t:TypeId} {f:Nat} {fd:Field} (h:fldT P t f=some fd):∃ fs,P.underlying t=some (.struct fs)∧fs[f]?=some fd:=by
 unfold fldT at h
 split at h
 · rename_i fs hu; exact ⟨fs,hu,h⟩
 · cases h
theorem Qbq {t:TypeId} {e:TypeId} (h:Qg2 P t=some e):P.underlying t=some (.slice e):=by
 unfold Qg2 at h
 split at h
 · rename_i e' hu; cases h; exact hu
 · cases h
theorem Qey {t:TypeId} {z:Value} (h:Qot P t=some z):(zeroValue t).run P w=.ok z w:=by
 unfold Qot at h
 unfold zeroValue typeInfo
 split at h
 · rename_i i hi; simp [hi,h]
 · cases h
theorem Qh4 {t:TypeId} {z:List PV} (h:Qnm P t=some z):∃ v,Qot P t=some v∧rawC v.cells.toList=some z:=by
 unfold Qnm at h
 split at h
 · rename_i v hv; exact ⟨v,hv,h⟩
 · cases h
theorem QrT {H:Hp} {B:Hd} {v:Value} {l:List Lf} (h:PR H B v (.ep l)) (hf:Fro H w):∃ b o vs,v=.pointer (some ⟨b,o,none⟩)∧PRs H B vs (QaU l)∧∀ j u,vs[j]?=some u→w.cell? ⟨b,o+j,none⟩=some u:=by
 have hw:∀ l:List Lf,(QaU l).length=l.length∧∀ (i:Nat),(QaU l)[i]?=(l[i]?).map PV.f:=by
  intro l
  induction l with
  | nil=>exact ⟨rfl,fun i=>by simp [QaU]⟩
  | cons x l ih=>exact ⟨by simp [QaU,ih.1],fun i=>by cases i <;> simp [QaU,ih.2]⟩
 cases h with
 | ep b o val hc h =>
  refine ⟨b,o,(List.range l.length).map val,rfl,⟨by simp [(hw l).1],fun i v x hv hx=>?_⟩,fun j u hu=>?_⟩
  · rw [(hw l).2] at hx
    have hi:i<l.length:=by
     have:=(List.getElem?_eq_some_iff.1 hv).1; simpa using this
    rw [List.getElem?_map,List.getElem?_range hi] at hv
    simp at hv
    subst hv
    rw [List.getElem?_eq_getElem hi] at hx
    simp at hx
    subst hx
    exact .f (h i _ (List.getElem?_eq_getElem hi))
  · have hj:j<l.length:=by
     have:=(List.getElem?_eq_some_iff.1 hu).1; simpa using this
    rw [List.getElem?_map,List.getElem?_range hj] at hu
    simp at hu
    subst hu
    exact hf _ _ _ (hc j hj)
theorem Obs.ownS {o:Nat} {e:TypeId} {x:Lf} {v:Value} (hO:Obs lo ob g w) (ho:ob[o]?=some (.own e x)) (hb:g.B o=some v):∃ ao n cap,v=.slice ao n cap:=by
 obtain ⟨k,n,get,vs,_,h1,_⟩:=hO.hold o _ v ho hb
 rcases h1.2 with ⟨rfl,_⟩ | ⟨b,cap,cur,rfl,_⟩
 · exact ⟨_,_,_,rfl⟩
 · exact ⟨_,_,_,rfl⟩
theorem Obs.own {o:Nat} {e:TypeId} {x:Lf} {ao:Option Addr} {n cap:Nat} (hO:Obs lo ob g w) (ho:ob[o]?=some (.own e x)) (hb:g.B o=some (.slice ao n cap)):∃ (k:Nat) (get:Nat→List Lf) (vs:List Value),x.view0=some (k,n,get)∧Qcg w 0 e k (.slice ao n cap) n vs (isU8 x)∧(∀ i,i<n→(get i).length=k∧∀ j y,(get i)[j]?=some y→∃ v,vs[i * k+j]?=some v∧Rd g.H v y)∧∀ b,blk (.slice ao n cap)=some b→∀ j,g.H b j=none:=by
 obtain ⟨k,n',get,vs,h1,h2,h3,h4⟩:=hO.hold o _ _ ho hb
 have hn:n'=n:=by
  rcases h2.2 with ⟨hc,rfl⟩ | ⟨g1,c1,cur,hc,_⟩
  · cases hc; rfl
  · cases hc; rfl
 subst hn
 exact ⟨k,get,vs,h1,h2,h3,h4⟩
theorem QhK {t:TypeId} {v:Value} {x y:PV} (hs:∀ (i:Nat) x,s.ob[i]?=some x→ob[i]?=some x) (hO:Obs lo ob g w) (hx:PR g.H g.B v x) (h:QpV P s t x=some y):∃ u,(Instr.loadAt t v).run P w=.ok u w∧PR g.H g.B u y:=by
 unfold QpV at h
 split at h
 · rename_i o off
   split at h
   · rename_i l hl
     rw [Qap] at hl
     cases hx with
     | @bp _ _ b hb =>
      obtain ⟨vs,h1,h2,h3,h4⟩:=hO.cell (hs _ _ hl) hb
      obtain ⟨u,h5,h6⟩:=Qej (P:=P) (w:=w) (b:=b) (o:=0) h h2 (fun j u hu=>by
       obtain ⟨hj,hu'⟩:=List.getElem?_eq_some_iff.1 hu
       subst hu'
       rw [Nat.zero_add]; exact h1.cells j hj)
      rw [Nat.zero_add] at h6
      exact ⟨u,h6,h5⟩
   · cases h
 · rename_i l
   obtain ⟨b,o,vs,rfl,h1,h2⟩:=QrT hx hO.fro
   obtain ⟨u,h5,h6⟩:=Qej (P:=P) (w:=w) (b:=b) (o:=o) h h1 h2
   exact ⟨u,h6,h5⟩
 · rename_i o k i
   split at h
   · rename_i e kd l ho ha
     rw [Qap] at ho
     split at h
     · rename_i hk
       cases h
       have hk:=Nat.eq_of_beq_eq_true hk
       subst hk
       cases hx with
       | @wp _ _ _ b n cap hb hi =>
        obtain ⟨k,get,vs,h1,h2,h3,h4⟩:=hO.own (hs _ _ ho) hb
        simp only [Lf.view0,Option.some.injEq,Prod.mk.injEq] at h1
        obtain ⟨rfl,rfl,rfl⟩:=h1
        obtain ⟨v,h5,h6⟩:=(h3 i hi).2 0 _ rfl
        have h7:=h6.val rfl
        subst h7
        have h8:=h2.cellAt (i * 1) (by simpa using hi)
        rw [Nat.add_zero] at h5
        rw [h5] at h8
        refine ⟨_,?_,.f (.v _ rfl)⟩
        rw [Nat.mul_one] at h8 ⊢
        simp only [Instr.loadAt,Instr.sureAddr,loadVar,Sem.run_bind,Sem.run_pure,Result.andThen_ok,Qdn ha]
        simp [h8]
     · cases h
   · rename_i e sh l ag ho ha
     rw [Qap] at ho
     split at h
     · rename_i hk
       have hk:=Nat.eq_of_beq_eq_true hk
       subst hk
       cases hx with
       | @wp _ _ _ b n cap hb hi =>
        obtain ⟨k,get,vs,h1,h2,h3,h4⟩:=hO.own (hs _ _ ho) hb
        simp only [Lf.view0,Option.some.injEq,Prod.mk.injEq] at h1
        obtain ⟨rfl,rfl,rfl⟩:=h1
        have hlt:i * sh.k+sh.k≤l.length * sh.k:=by
         have:=Nat.mul_le_mul_right sh.k (show i+1≤l.length from hi)
         rwa [Nat.succ_mul] at this
        have hvl:vs.length=l.length * sh.k:=h2.1
        have hP:PRs g.H g.B ((vs.drop (i * sh.k)).take sh.k) (QaU (sh.cells (l.getD i sh.nil))):=by
         have hcl:=Sh.cells_len sh (l.getD i sh.nil)
         have wl:∀ (l:List Lf),(QaU l).length=l.length:=by
          intro l; induction l with
          | nil=>rfl
          | cons x l ih=>simp [QaU,ih]
         have wa:∀ (l:List Lf) (j:Nat),(QaU l)[j]?=(l[j]?).map PV.f:=by
          intro l; induction l with
          | nil=>intro j; simp [QaU]
          | cons x l ih=>intro j; cases j with
           | zero=>simp [QaU]
           | succ j=>simp [QaU,ih]
         refine ⟨by rw [wl,List.length_take,List.length_drop,hcl]; omega,fun j u y hu hy=>?_⟩
         rw [wa] at hy
         cases hc:(sh.cells (l.getD i sh.nil))[j]? with
         | none=>rw [hc] at hy; cases hy
         | some z =>
          rw [hc] at hy
          cases hy
          obtain ⟨v,q1,q2⟩:=(h3 i hi).2 j z hc
          have hj:j<sh.k:=by rw [← hcl]; exact (List.getElem?_eq_some_iff.1 hc).1
          rw [List.getElem?_take,if_pos hj,List.getElem?_drop,q1] at hu
          cases hu
          exact .f q2
        obtain ⟨u,h5,h6⟩:=Qej (P:=P) (w:=w) (b:=b) (o:=i * sh.k) h hP (fun j v hv=>by
         rw [List.getElem?_take] at hv
         split at hv
         · rename_i hj
           rw [List.getElem?_drop] at hv
           rw [h2.cellAt (i * sh.k+j) (by omega)]; exact hv
         · cases hv)
        rw [Nat.add_zero] at h6
        exact ⟨u,h6,h5⟩
     · cases h
   · cases h
 · cases h
theorem Qg1 {t:TypeId} {f:Nat} {v:Value} {x y:PV} (hx:PR g.H g.B v x) (h:Qfn P t f x=some y):∃ u,(Instr.fieldAt t v f).run P w=.ok u w∧PR g.H g.B u y:=by
 unfold Qfn at h
 split at h
 · rename_i fd hfd
   obtain ⟨fs,h1,h2⟩:=QmN hfd
   split at h
   · rename_i n hn
     split at h
     · rename_i o off
       cases h
       cases hx with
       | @bp _ _ b hb =>
        refine ⟨.pointer (some ⟨b,off+fd.offset,none⟩),?_,.bp hb⟩
        simp [Instr.fieldAt,run_underlying h1,h2,Instr.sureAddr,fieldPlace,QaL hn,QbX]
     · rename_i l
       cases h
       cases hx with
       | ep b o val hc hr =>
        refine ⟨.pointer (some ⟨b,o+fd.offset,none⟩),?_,.ep b (o+fd.offset) (fun j=>val (fd.offset+j)) (fun j hj=>?_) (fun j x hx=>?_)⟩
        · simp [Instr.fieldAt,run_underlying h1,h2,Instr.sureAddr,fieldPlace,QaL hn,QbX]
        · rw [List.length_drop] at hj
          rw [Nat.add_assoc]; exact hc _ (by omega)
        · rw [List.getElem?_drop] at hx
          exact hr _ _ hx
     · cases h
   · cases h
 · cases h
theorem Qlm {t:TypeId} {f:Nat} {v:Value} {x y:PV} (hx:PR g.H g.B v x) (h:Qqk P t f x=some y):∃ u,(Instr.field t v f).run P w=.ok u w∧PR g.H g.B u y:=by
 unfold Qqk at h
 split at h
 · rename_i fd l hfd
   obtain ⟨fs,h1,h2⟩:=QmN hfd
   obtain ⟨vs,rfl,h3⟩:=PRs.of_agg hx
   obtain ⟨u,h4,h5 | h5⟩:=Qmo h h3
   · obtain ⟨n,h6,h7,rfl,h8⟩:=h5
     refine ⟨_,?_,h4⟩
     have e1:vs.toArray.extract fd.offset (fd.offset+n)=((vs.drop fd.offset).take n).toArray:=by
      simp [List.extract_toArray]
     simp [Instr.field,run_underlying h1,h2,part,asAgg,Qdn h6,QaL h7]
   · obtain ⟨h6,h7⟩:=h5
     exact ⟨u,by simp [Instr.field,run_underlying h1,h2,part,asAgg,Qdn h6,h7],h4⟩
 · cases h
theorem Qlf {t:TypeId} {v i:Value} {x j z:PV} {q:Option Prop} (hx:PR g.H g.B v x) (hi:PR g.H g.B i j) (h:Qfl P t x j=some (q,z)) (hq:∀ p,q=some p→p):∃ u,(Instr.indexAt t v i).run P w=.ok u w∧PR g.H g.B u z:=by
 unfold Qfl at h
 split at h
 · rename_i e y kk i' he
   split at h
   · rename_i k k' n get hk hv
     split at h
     · rename_i hkk
       cases h
       have hkk:=Nat.eq_of_beq_eq_true hkk
       subst hkk
       obtain ⟨hi0,hin⟩:=hq _ rfl
       have:=hi.val
       subst this
       have hu:=Qbq he
       cases hx with
       | f hx=>cases hx with
        | v=>cases hv
        | zn=>cases hv
        | @sl _ k2 n2 get2 ao cap hv2 hg hc hm h0 b o val hb hcell hlen hrec =>
         rw [hv] at hv2
         cases hv2
         have hfl:=Lf.full_le hv hg
         have hin':i'.toNat<y.full n:=by omega
         have hao:=hb (by omega)
         subst hao
         refine ⟨.pointer (some ⟨b,o+i'.toNat * k,none⟩),?_,.ep b (o+i'.toNat * k) (val i'.toNat) (fun j hj=>hcell _ hin' j (by rw [hlen _ hin'] at hj; exact hj)) (fun j x hx=>hrec _ hin' j x hx)⟩
         simp [Instr.indexAt,asIntOf,run_underlying hu,QaL hk,hi0,hin,QbX]
     · cases h
   · cases h
 · cases h
end
end Go.Proofs.YtmbmbcamecfnkaaGreatDoor
namespace Go.Proofs.YtmbmbcamecfnkaaGreatDoor
open Go.RowKit
set_option linter.unusedVariables false
def RelP (H:Hp) (B:Hd):List (Nat × Value)→List (Nat × PV)→Prop
 | [],[]=>True
 | (i,v)::us,(j,x)::ps=>i=j∧PR H B v x∧RelP H B us ps
 | _,_=>False
theorem QjV (off:Nat):∀ (us:List Value) (k:Nat) (vs:List Value),(us.zipIdx k).foldl (fun (cs:Array Value) (c:Value × Nat)=>cs.setIfInBounds (off+c.2) c.1) vs.toArray=(putV vs (off+k) us).toArray
 | [],k,vs=>by simp [putV]
 | u::us,k,vs=>by
  simp only [List.zipIdx_cons,List.foldl_cons,putV,List.setIfInBounds_toArray]
  rw [QjV off us (k+1) (vs.set (off+k) u)]
  rw [Nat.add_assoc]
theorem Qmn:∀ (us:List Value) (off:Nat) (vs:List Value),(putV vs off us).length=vs.length
 | [],_,_=>rfl
 | u::us,off,vs=>by simp [putV,Qmn us]
theorem Qfm {H:Hp} {B:Hd} {place:Nat→Option (Nat × Nat)}:∀ (ps:List (Nat × PV)) (us:List (Nat × Value)) (cs:List PV) (vs:List Value) (l:List PV),RelP H B us ps→PRs H B vs cs→Qn9 place cs ps=some l →
  ∃ vs',Instr.fill place vs.toArray us=some vs'.toArray∧PRs H B vs' l∧vs'.length=vs.length
 | [],[],cs,vs,l,_,hs,h=>by simp only [Qn9,Option.some.injEq] at h; subst h; exact ⟨vs,rfl,hs,rfl⟩
 | [],_::_,_,_,_,hr,_,_=>by cases hr
 | _::_,[],_,_,_,hr,_,_=>by cases hr
 | (i,x)::ps,(j,v)::us,cs,vs,l,hr,hs,h=>by
  obtain ⟨rfl,h1,h2⟩:=hr
  simp only [Qn9] at h
  split at h
  · rename_i off n hp
    split at h
    · rename_i hn
      split at h
      · rename_i hle
        rw [Bool.and_eq_true] at hle
        have h3:=h1.cells hle.2
        have hn':=Nat.eq_of_beq_eq_true hn
        have hle':=Nat.le_of_ble_eq_true hle.1
        have h4:=hs.put off h3
        obtain ⟨vs',h5,h6,h7⟩:=Qfm ps us _ _ l h2 h4 h
        refine ⟨vs',?_,h6,by rw [h7,Qmn]⟩
        have hsz:v.cells.size=n:=by rw [← hn',← h3.1]; simp
        have hlv:vs.toArray.size=cs.length:=by simp [hs.1]
        have hz:Array.foldl (fun (cs:Array Value) (c:Value × Nat)=>cs.setIfInBounds (off+c.2) c.1) vs.toArray v.cells.zipIdx=(putV vs off v.cells.toList).toArray:=by
         rw [← Array.foldl_toList,Array.toList_zipIdx]
         exact QjV off v.cells.toList 0 vs
        rw [Instr.fill]
        simp only [hp]
        rw [if_neg (by rw [hsz,hlv]; simp; omega)]
        exact (congrArg (fun z=>Instr.fill place z us) hz).trans h5
      · cases h
    · cases h
  · cases h
theorem Qmj {α:Type} (z:List α) (hz:0<z.length):∀ (n i:Nat),i<n * z.length→(repL z n)[i]?=z[i % z.length]?
 | 0,i,h=>by omega
 | n+1,i,h=>by
  rw [Nat.add_mul,Nat.one_mul] at h
  unfold repL
  by_cases hi:i<z.length
  · rw [List.getElem?_append_left hi,Nat.mod_eq_of_lt hi]
  · rw [List.getElem?_append_right (by omega),Qmj z hz n _ (by omega),← Nat.mod_eq_sub_mod (by omega)]
theorem Qmi {α:Type} (z:List α):∀ n,(repL z n).length=n * z.length
 | 0=>by simp [repL]
 | n+1=>by simp [repL,Qmi z n,Nat.add_mul]; omega
theorem QdC {α:Type} (k:Nat):∀ (n:Nat) (l:List α),(chunk k n l).length=n
 | 0,_=>rfl
 | n+1,l=>by simp [chunk,QdC k n]
theorem Qkd {α:Type} (k:Nat):∀ (n:Nat) (l:List α) (i:Nat),i<n→(chunk k n l).getD i []=(l.drop (i * k)).take k
 | 0,_,i,h=>by omega
 | n+1,l,0,h=>by simp [chunk]
 | n+1,l,i+1,h=>by
  have:=Qkd k n (l.drop k) i (by omega)
  simp only [chunk,List.getD_cons_succ,this,List.drop_drop]
  congr 2
  rw [Nat.add_mul]; omega
section
variable {P : Program} {w : World} {a : Act} {Q : Exit → Act → World → Prop} {lo : Nat → Prop} {ob : List PO} {g : Gh} {s : PS}
theorem Qln:∀ {xs:List (Nat × Operand)} {l:List (Nat × PV)},(∀ x∈xs.map (·.2),∀ y,s.fl x=some y→PR g.H g.B (a.eval x) y)→evps s xs=some l→RelP g.H g.B (xs.map fun p=>(p.1,a.eval p.2)) l
 | [],l,_,h=>by simp only [evps,Option.some.injEq] at h; subst h; trivial
 | (i,x)::xs,l,hev,h=>by
  simp only [evps] at h
  split at h
  · rename_i y m hy hm
    cases h
    exact ⟨rfl,hev x (by simp) y hy,Qln (fun x hx=>hev x (by simp only [List.map_cons]; exact List.mem_cons_of_mem _ hx)) hm⟩
  · cases h
theorem QhD:∀ (fs:List Field),(∀ f∈fs,(szT P f.type).isSome=true)→(fs.mapM fun f=>(do pure (f.offset,← sizeOf f.type):Sem (Nat × Nat))).run P w=.ok (fs.map fun f=>(f.offset,(szT P f.type).getD 0)) w
 | [],_=>rfl
 | f::fs,h=>by
  obtain ⟨n,hn⟩:=Option.isSome_iff_exists.1 (h f List.mem_cons_self)
  have ih:=QhD fs (fun f hf=>h f (List.mem_cons_of_mem _ hf))
  simp only [List.mapM_cons,Sem.run_bind,QaL hn,Result.andThen_ok,Sem.run_pure,ih,List.map_cons,hn,Option.getD_some]
theorem QlD {t:TypeId} {us:Array (Nat × Value)} {ps:List (Nat × PV)} {y:PV} (hr:RelP g.H g.B us.toList ps) (h:QqK P t ps=some y):∃ u,(Instr.build t us).run P w=.ok u w∧PR g.H g.B u y:=by
 unfold QqK at h
 split at h
 · rename_i z hz ha
   obtain ⟨zv,hz1,hz2⟩:=Qh4 hz
   split at h
   · rename_i l hl
     cases h
     unfold allF at ha
     split at ha
     · rename_i fs hu
       rw [List.all_eq_true] at ha
       have hm:=QhD (P:=P) (w:=w) fs.toList ha
       obtain ⟨vs',h5,h6,h7⟩:=Qfm ps us.toList _ _ l hr (Qds hz2) hl
       refine ⟨.agg vs'.toArray,?_,h6.agg⟩
       have hpl:(fun i=>(fs.toList.map fun f=>(f.offset,(szT P f.type).getD 0))[i]?)=Qeq P t:=by
        funext i
        unfold Qeq fldT
        simp only [hu,List.getElem?_map,Array.getElem?_toList]
        cases hf:fs[i]? with
        | none=>rfl
        | some f =>
         have:=ha f (by rw [← Array.getElem?_toList] at hf; exact List.mem_of_getElem? hf)
         simp only [Option.map_some]
         cases hs:szT P f.type with
         | none=>rw [hs] at this; cases this
         | some n=>rfl
       rw [← hpl] at h5
       simp only [Instr.build,Sem.run_bind,Qey hz1,Result.andThen_ok,run_underlying hu]
       rw [Array.mapM_eq_mapM_toList]
       simp only [Sem.run_map,hm,Result.andThen_ok,List.getElem?_toArray]
       rw [Array.toArray_toList] at h5
       rw [h5]
       rfl
     · cases ha
   · cases h
 · cases h
theorem QbV {t:TypeId} {n:Nat} {us:Array (Nat × Value)} {ps:List (Nat × PV)} {y:PV} (hO:Obs lo ob g w) (hr:RelP g.H g.B us.toList ps) (h:Qc4 P t n ps=some y) :
  ∃ u w' H',(Instr.buildSlice t n us).run P w=.ok u w'∧Obs lo ob ⟨H',g.B⟩ w'∧Ext w g.H w' H'∧PR H' g.B u y∧∀ e,Qg2 P t=some e→∃ (k:Nat) (L:List (List Lf)) (vs':List Value),y=.f (.row k L)∧w'=w.alloc (.cells vs'.toArray e)∧vs'.length=L.length * k∧H'=(fun b j=>if b=w.heap.size then vs'[j]? else g.H b j)∧u=.slice (some ⟨w.heap.size,0,none⟩) L.length L.length∧L.length≤maxLen:=by
 unfold Qc4 at h
 split at h
 · rename_i e he
   have hu:=Qbq he
   split at h
   · rename_i k z hk hz
     obtain ⟨zv,hz1,hz2⟩:=Qh4 hz
     split at h
     · rename_i hzk
       have hzk:=Nat.eq_of_beq_eq_true hzk
       split at h
       · rename_i hle h1k
         have hle:=Nat.le_of_ble_eq_true hle
         have h1k:=Nat.le_of_ble_eq_true h1k
         split at h
         · rename_i l hl
           split at h
           · rename_i m hm
             cases h
             have hzr:=Qds (H:=g.H) (B:=g.B) hz2
             have hzs:zv.cells.size=k:=by have:=hzr.1; simpa [hzk] using this
             have hini:PRs g.H g.B ((List.range (n * k)).map fun i=>zv.cells[i % zv.cells.size]!) (repL z n):=by
              refine ⟨by simp [Qmi,hzk],fun i v x hv hx=>?_⟩
              have hi:i<n * k:=by
               have:=(List.getElem?_eq_some_iff.1 hv).1
               simpa using this
              rw [List.getElem?_map,List.getElem?_range hi] at hv
              simp only [Option.map_some,Option.some.injEq] at hv
              rw [Qmj z (by omega) n i (by rw [hzk]; exact hi)] at hx
              refine hzr.2 (i % z.length) v x ?_ hx
              have hlt:i % zv.cells.size<zv.cells.size:=Nat.mod_lt _ (by omega)
              rw [hzk,← hzs,Array.getElem?_toList,Array.getElem?_eq_getElem hlt,← hv]
              rw [getElem!_pos zv.cells _ hlt]
             obtain ⟨vs',h5,h6,h7⟩:=Qfm ps us.toList _ _ l hr hini hl
             obtain ⟨h8,h9⟩:=QcX hm
             have hlen:vs'.length=n * k:=by rw [h7]; simp
             have hml:m.length=n * k:=by rw [h8,← h6.1,hlen]
             obtain ⟨hO',hE'⟩:=hO.frozen (vs:=vs') e
             have hk1:n≤n * k:=by have:=Nat.mul_le_mul_left n h1k; omega
             have hlt:∀ i j,i<n→j<k→i * k+j<n * k:=by
              intro i j hi hj
              have:=Nat.mul_le_mul_right k hi
              rw [Nat.succ_mul] at this
              omega
             have hget:∀ i,i<n→(chunk k n m).getD i []=(m.drop (i * k)).take k:=fun i hi=>Qkd k n m i hi
             refine ⟨.slice (some ⟨w.heap.size,0,none⟩) n n,_,_,?_,hO',hE',?_,fun e' he'=>⟨k,chunk k n m,vs',rfl,by rw [he] at he'; cases he'; rfl,by rw [QdC]; exact hlen,rfl,by rw [QdC],by rw [QdC]; unfold maxLen; omega⟩⟩
             · have hns:¬ (n * k > 2 ^ 24):=by omega
               simp only [Instr.buildSlice,Sem.run_bind,run_underlying hu,Result.andThen_ok,QaL hk,if_neg hns]
               by_cases h0:n * k=0
               · rw [h0] at h5
                 simp only [h0,if_true,pure_bind]
                 have h5':Instr.fill (fun i=>some (i * k,k)) (Array.map (fun x=>(#[]:Array Value)[x % (#[]:Array Value).size]!) (Array.range 0)) us.toList=some vs'.toArray:=by simpa [← List.toArray_range] using h5
                 rw [h5']
                 rfl
               · simp only [if_neg h0,Sem.run_bind,Qey hz1,Result.andThen_ok,Sem.run_pure]
                 have e1:Array.map (fun x=>zv.cells[x % zv.cells.size]!) (Array.range (n * k))=((List.range (n * k)).map fun i=>zv.cells[i % zv.cells.size]!).toArray:=by
                  simp [← List.toArray_range]
                 rw [e1,h5]
                 rfl
             refine .f (.sl (k:=k) (n:=n) (get:=fun i=>(chunk k n m).getD i []) (by simp [Lf.view,QdC]) trivial (Nat.le_refl _) (by unfold maxLen; omega) (fun h=>by cases h) w.heap.size 0 (fun i j=>vs'.getD (i * k+j) undef) (fun _=>rfl) (fun i hi j hj=>?_) (fun i hi=>?_) (fun i hi j x hx=>?_))
             · have hi:i<n:=hi
               have:=hlt i j hi hj
               simp only [if_true,Nat.zero_add,List.getD_eq_getElem?_getD]
               rw [List.getElem?_eq_getElem (by omega)]; rfl
             · have hi:i<n:=hi
               rw [hget i hi,List.length_take,List.length_drop,hml]
               have:=Nat.mul_le_mul_right k hi
               rw [Nat.succ_mul] at this
               omega
             · have hi:i<n:=hi
               rw [hget i hi,List.getElem?_take] at hx
               split at hx
               · rename_i hj
                 rw [List.getElem?_drop] at hx
                 have h10:=h9 _ _ hx
                 have hl2:=hlt i j hi hj
                 have h11:=h6.2 _ _ _ (List.getElem?_eq_getElem (by omega)) h10
                 rw [List.getD_eq_getElem?_getD,List.getElem?_eq_getElem (by omega),Option.getD_some]
                 exact h11.rd.mono hE'.le
               · cases hx
           · cases h
         · cases h
       · cases h
     · cases h
   · cases h
 · cases h
end
end Go.Proofs.YtmbmbcamecfnkaaGreatDoor
namespace Go.Proofs.YtmbmbcamecfnkaaGreatDoor
open Go.RowKit
set_option linter.unusedVariables false
section
variable {P : Program} {w : World} {a : Act} {Q : Exit → Act → World → Prop} {lo : Nat → Prop} {ob : List PO} {g : Gh} {s : PS}
theorem Qro {K:Act→World→Prop} {dst:Option Nat} {x:Operand} {f:FuncId} {xs:Array Operand} {ts:Array TypeId} {ty:TypeId} {pos:String} {af:Array Edge} {gd:Option (Nat × Bool)} {R:Ending→World→Prop}
  (hx:a.eval x=.func (.func f) #[] #[]) (hf:QgL P f=true) (hc:Calls P f (xs.map a.eval) w R) (hR:∀ e w',R e w'→∃ v,e=.returned v∧K (a.put dst v) w') :
  (Oper.mk dst (.call ⟨.value x,xs,ts⟩) ty pos af gd).wp P a w K Q:=by
 have h:(execOp a.eval (Oper.mk dst (.call ⟨.value x,xs,ts⟩) ty pos af gd)).run P w=.ok (.enter f (xs.map a.eval)) w:=by
  unfold QgL at hf
  split at hf
  · rename_i fn hfn
    simp only [Bool.and_eq_true,Bool.not_eq_true'] at hf
    have hb:fn.body.isNone=false:=by cases h:fn.body <;> simp_all
    show (do let d ← resolve a.eval ⟨.value x,xs,ts⟩ ty; invoke d.target d.args:Sem Next).run P w=_
    have e1:resolve a.eval ⟨.value x,xs,ts⟩ ty=pure { target:=.fn (.func f) #[],args:=#[]++xs.map a.eval }:=by
     show Deferred.ofValue (a.eval x) (xs.map a.eval)=_
     rw [hx]; rfl
    rw [e1]
    have hn : ¬ fn.name = "runtime.NumGoroutine" := by simpa using hf.1
    have hb':¬ fn.body=none:=fun hc=>by rw [hc] at hb; cases hb
    simp [invoke,callFunc,hfn,hn,hb']
  · cases hf
 unfold Oper.wp
 rw [h,Oper.upon_enter]
 refine hc.mono ?_
 intro e w' hr
 obtain ⟨v,rfl,hk⟩:=hR e w' hr
 exact hk
theorem QtI {H:Hp} {B:Hd} {vs:List Value} {x y:Value} (h:PRs H B vs [.f (.v x),.f (.v y)]):vs=[x,y]:=by
 have h1:=h.1
 match vs,h1 with
 | [u,v],_=>rw [(h.2 0 u _ rfl rfl).val,(h.2 1 v _ rfl rfl).val]
theorem QpY {t ty:TypeId} {ts:Array TypeId} {vs:Array Value} {v:Value} {x y:PV} (ht:ts[0]?=some t) (hvs:vs[0]?=some v) (hx:PR g.H g.B v x) (h:lenP P t x=some y):∃ u,(Builtin.len_ ts ty vs).run P w=.ok u w∧PR g.H g.B u y:=by
 unfold lenP at h
 split at h
 · rename_i e z hu
   split at h
   · rename_i k n get hv
     cases h
     cases hx with
     | f hx=>cases hx with
      | v=>cases hv
      | zn=>cases hv
      | @sl _ k2 n2 get2 ao cap hv2 =>
       rw [hv] at hv2
       cases hv2
       exact ⟨.int .i64 n,by simp [Builtin.len_,ht,hvs,run_underlying hu,goInt],.f (.v _ rfl)⟩
   · split at h
     · rename_i ao n cap hv
       cases h
       have:=hx.val
       subst this
       exact ⟨.int .i64 n,by simp [Builtin.len_,ht,hvs,run_underlying hu,goInt],.f (.v _ rfl)⟩
     · cases h
 · rename_i str hu
   cases h
   have:=hx.val
   subst this
   exact ⟨.int .i64 str.size,by simp [Builtin.len_,ht,hvs,run_underlying hu,goInt],.f (.v _ rfl)⟩
 · cases h
theorem PRs.pure {H:Hp} {B:Hd} {vs:List Value} {l:List PV} (h:PRs H B vs l) (hp:QgK l=true):PRs H B0 vs l :=
 ⟨h.1,fun i v x hv hx=>(h.2 i v x hv hx).pure (QdS hp i x hx)⟩
theorem PR.tupAt {H:Hp} {B:Hd} {v:Value} {l:List PV} {i:Nat} {z:PV} (h:PR H B v (.tup l)) (hz:nth l i=some z):∃ u,(Instr.extract v i).run P w=.ok u w∧PR H B u z∧∃ vs:Array Value,v=.tuple vs∧vs[i]?=some u:=by
 obtain ⟨vs,rfl,hs⟩:=PRs.of_tup h
 rw [Qap] at hz
 obtain ⟨u,hu,hr⟩:=hs.at hz
 exact ⟨u,by simp [Instr.extract,hu],hr,vs.toArray,rfl,by simpa using hu⟩
theorem Qpq {zs:List Value} {zl:List PV} {l:List Lf} (hz:rawC zs=some zl) (hl:leafs zl=some l) (j:Nat) (y:Lf) (hy:l[j]?=some y):∃ v,zs[j]?=some v∧∀ H,Rd H v y:=by
 obtain ⟨h1,h2⟩:=QcX hl
 have h3:=h2 j y hy
 have h4:∀ H:Hp,∃ v,zs[j]?=some v∧PR H (fun _=>none) v (.f y):=fun H=>(Qds (H:=H) (B:=fun _=>none) hz).at h3
 obtain ⟨v,h5,_⟩:=h4 (fun _ _=>none)
 exact ⟨v,h5,fun H=>by obtain ⟨v',h6,h7⟩:=h4 H; rw [h5] at h6; cases h6; exact h7.rd⟩
theorem QiE {t e:TypeId} {n m:Int} {kl kc:IntKind} {k b:Nat} {x:Lf} (hz:Qos P t n.toNat=some (e,k,b,x)) (r1:0≤n) (r2:n≤m) (r3:m * b≤140737488355328) (r4:m≤maxLen) :
  ∃ (w':World) (vs':List Value) (get:Nat→List Lf),(Instr.makeSlice t (.int kl n) (.int kc m)).run P w=.ok (.slice (some ⟨w.heap.size,0,none⟩) n.toNat m.toNat) w'∧w'=w.alloc (.cells vs'.toArray e)∧x.view0=some (k,n.toNat,get)∧vs'.length=m.toNat * k ∧
   ∀ i,i<n.toNat→(get i).length=k∧∀ j y,(get i)[j]?=some y→∃ v,vs'[i * k+j]?=some v∧∀ H,Rd H v y:=by
 have hm63:m≤9223372036854775807:=by unfold maxLen at r4; omega
 unfold Qos at hz
 split at hz
 · rename_i e' he
   have hu:=Qbq he
   split at hz
   · rename_i i hi
     have hby:(i.bytes:Int) * m≤281474976710656∨True:=.inr trivial
     have hcell:∀ (zc:Array Value) (kk:Nat),zc.size=kk→0<kk→∀ p q,p<m.toNat→q<kk→(madeCells zc (m.toNat * kk)).toList[p * kk+q]?=zc.toList[q]?:=by
      intro zc kk hs hk p q hp hq
      have hlt:p * kk+q<m.toNat * kk:=by
       have:=Nat.mul_le_mul_right kk (show p+1≤m.toNat from hp)
       rw [Nat.succ_mul] at this; omega
      have hmod:(p * kk+q) % zc.size=q:=by rw [hs,Nat.mul_comm,Nat.mul_add_mod,Nat.mod_eq_of_lt hq]
      have hq':q<zc.size:=by omega
      simp only [madeCells,Array.toList_map,Array.toList_range,List.getElem?_map,List.getElem?_range hlt,Option.map_some,hmod]
      rw [getElem!_pos zc q hq',Array.getElem?_toList,Array.getElem?_eq_getElem hq']
     split at hz
     · rename_i kd z hzv
       split at hz
       · rename_i hsz
         cases hz
         have hsz:=Nat.eq_of_beq_eq_true hsz
         have hr:=run_make (P:=P) w t _ i _ hu hi hzv kl kc n m r1 r2 (by rw [Int.mul_comm]; omega) hm63
         refine ⟨_,(madeCells #[.int kd z] (m.toNat * 1)).toList,fun i=>[.v (.int kd ((List.replicate n.toNat z).getD i 0))],by rw [hsz] at hr; simpa [Value.cells] using hr,by simp,by simp [Lf.view0],by simp [madeCells],fun p hp=>⟨rfl,fun j y hy=>?_⟩⟩
         cases j with
         | zero =>
          cases hy
          refine ⟨.int kd z,?_,fun H=>?_⟩
          · rw [hcell #[.int kd z] 1 rfl (by omega) p 0 (by omega) (by omega)]; rfl
          · rw [List.getD_eq_getElem?_getD,List.getElem?_replicate,if_pos hp]; exact .v _ rfl
         | succ j=>cases hy
       · cases hz
     · rename_i zv hnz hzv
       split at hz
       · rename_i zl hzl
         split at hz
         · rename_i l hl
           split at hz
           · rename_i hle
             cases hz
             rw [Bool.and_eq_true] at hle
             have hle1:=Nat.eq_of_beq_eq_true hle.1
             have hle2:=Nat.le_of_ble_eq_true hle.2
             have hr:=run_make (P:=P) w t _ i _ hu hi hzv kl kc n m r1 r2 (by rw [Int.mul_comm]; omega) hm63
             have hzs:zv.cells.size=i.size:=by
              have h1:=(Qds (H:=fun _ _=>none) (B:=fun _=>none) hzl).1
              have h2:=(QcX hl).1
              rw [Array.length_toList] at h1; omega
             refine ⟨_,(madeCells zv.cells (m.toNat * i.size)).toList,fun q=>(List.replicate n.toNat l).getD q [],by simpa using hr,by simp,by simp [Lf.view0],by simp [madeCells],fun p hp=>?_⟩
             have e1:(List.replicate n.toNat l).getD p []=l:=by rw [List.getD_eq_getElem?_getD,List.getElem?_replicate,if_pos hp]; rfl
             dsimp only
             rw [e1]
             refine ⟨hle1,fun j y hy=>?_⟩
             have hj:=(List.getElem?_eq_some_iff.1 hy).1
             rw [hcell zv.cells i.size hzs (by omega) p j (by omega) (by omega)]
             exact Qpq hzl hl j y hy
           · cases hz
         · cases hz
       · cases hz
     · cases hz
   · cases hz
 · cases hz
theorem Qn1 {t ty:TypeId} {ts:Array TypeId} {vs:Array Value} {v:Value} {x y:PV} (hs:∀ (i:Nat) x,s.ob[i]?=some x→ob[i]?=some x) (hO:Obs lo ob g w) (ht:ts[0]?=some t) (hvs:vs[0]?=some v) (hx:PR g.H g.B v x) (h:lenW P s t x=some y):∃ u,(Builtin.len_ ts ty vs).run P w=.ok u w∧PR g.H g.B u y:=by
 unfold lenW at h
 split at h
 · rename_i o
   split at h
   · rename_i e e' z hu ho
     rw [Qap] at ho
     split at h
     · rename_i k n get hv
       cases h
       cases hx with
       | @wr _ v hb _ =>
        obtain ⟨ao,n2,cap,rfl⟩:=hO.ownS (hs _ _ ho) hb
        obtain ⟨k2,get2,vs2,h1,_⟩:=hO.own (hs _ _ ho) hb
        rw [hv] at h1
        cases h1
        exact ⟨.int .i64 n,by simp [Builtin.len_,ht,hvs,run_underlying hu,goInt],.f (.v _ rfl)⟩
     · cases h
   · cases h
 · cases h
theorem QjR {t:TypeId} {v i:Value} {x j z:PV} {q:Option Prop} (hs:∀ (i:Nat) x,s.ob[i]?=some x→ob[i]?=some x) (hO:Obs lo ob g w) (hx:PR g.H g.B v x) (hi:PR g.H g.B i j) (h:Qp9 P s t x j=some (q,z)) (hq:∀ p,q=some p→p):∃ u,(Instr.indexAt t v i).run P w=.ok u w∧PR g.H g.B u z:=by
 unfold Qp9 at h
 split at h
 · rename_i o
   split at h
   · rename_i e e' y kk i' he ho
     rw [Qap] at ho
     split at h
     · rename_i k k' n get hk hv
       split at h
       · rename_i hkk
         cases h
         have hkk:=Nat.eq_of_beq_eq_true hkk
         subst hkk
         obtain ⟨hi0,hin⟩:=hq _ rfl
         have:=hi.val
         subst this
         have hu:=Qbq he
         cases hx with
         | @wr _ v hb _ =>
          obtain ⟨ao,n2,cap,rfl⟩:=hO.ownS (hs _ _ ho) hb
          obtain ⟨k2,get2,vs2,h1,h2,_⟩:=hO.own (hs _ _ ho) hb
          rw [hv] at h1
          cases h1
          rcases h2.2 with ⟨_,hn⟩ | ⟨b,c1,cur,hc,_⟩
          · omega
          · cases hc
            refine ⟨.pointer (some ⟨b,i'.toNat * k,none⟩),?_,.wp hb (by omega)⟩
            simp [Instr.indexAt,asIntOf,run_underlying hu,QaL hk,hi0,hin,QbX]
       · cases h
     · cases h
   · cases h
 · cases h
inductive OI:Option Value→Option Int→Prop
 | none:OI none none
 | some (k:IntKind) (i:Int):OI (some (.int k i)) (some i)
theorem QhZ {b:Bool} {len cap:Nat} {vlo vhi:Option Value} {lo hi:Option Int} (h1:OI vlo lo) (h2:OI vhi hi) (hc:len≤cap) (h3:0≤lo.getD 0) (h4:lo.getD 0≤hi.getD len) (h5:hi.getD len≤len) :
  (Instr.sliceBounds b len cap vlo vhi none).run P w=.ok ((lo.getD 0).toNat,(hi.getD len).toNat,cap) w:=by
 cases h1 <;> cases h2 <;> simp only [Option.getD_none,Option.getD_some] at h3 h4 h5 ⊢
 · simp [Instr.sliceBounds]
 · rename_i k i
   have h6:0≤i∧i≤(cap:Int):=by omega
   simp [Instr.sliceBounds,Instr.sliceBound,asIntOf,h6]
 · rename_i k i
   have h6:0≤i∧i≤(len:Int):=by omega
   simp [Instr.sliceBounds,Instr.sliceBound,asIntOf,h6]
 · rename_i k i k' i'
   have h6:0≤i'∧i'≤(cap:Int):=by omega
   have h7:0≤i∧i≤((i'.toNat:Nat):Int):=by omega
   have e1:(Instr.sliceBound (.int k' i') cap (if b=true then .sliceAcap else .sliceAlen)).run P w=.ok i'.toNat w:=by simp [Instr.sliceBound,asIntOf,h6]
   have e2:(Instr.sliceBound (.int k i) i'.toNat .sliceB).run P w=.ok i.toNat w:=by
    simp only [Instr.sliceBound,asIntOf,Sem.run_bind,Sem.run_pure,Result.andThen_ok]
    rw [if_pos h7]; rfl
   simp [Instr.sliceBounds,e1,e2]
theorem QpB {y z:Lf} {k n:Nat} {get:Nat→List Lf} {l h:Nat} (hy:y.view=some (k,n,get)) (hz:QpD l h y=some z) (hh:h≤n) (hg:y.good):∃ get',z.view=some (k,h - l,get')∧z.good∧(∀ i,i<h - l→get' i=get (i+l))∧∀ q,z.full q=q:=by
 have gd:∀ {α:Type} (L:List α) (d:α),L.length=n→∀ i,i<h - l→((L.take h).drop l).getD i d=L.getD (i+l) d:=by
  intro α L d hL i hi
  rw [List.getD_eq_getElem?_getD,List.getD_eq_getElem?_getD,List.getElem?_drop,List.getElem?_take,if_pos (by omega),Nat.add_comm]
 cases y <;> simp only [QpD,Option.some.injEq] at hz <;> try (cases hz; done)
 · rename_i L j
   subst hz
   simp only [Lf.view,Option.some.injEq,Prod.mk.injEq] at hy
   obtain ⟨rfl,rfl,rfl⟩:=hy
   refine ⟨_,by simp only [Lf.view,List.length_drop,List.length_take,Nat.min_eq_left hh]; rfl,⟨?_,fun x hx=>hg.2 x (List.mem_of_mem_take (List.mem_of_mem_drop hx))⟩,fun i hi=>by rw [gd L 0 rfl i hi],fun _=>rfl⟩
   have:=hg.1
   simp only [List.length_drop,List.length_take]
   omega
 · rename_i j L
   subst hz
   simp only [Lf.view,Option.some.injEq,Prod.mk.injEq] at hy
   obtain ⟨rfl,rfl,rfl⟩:=hy
   exact ⟨fun i=>((L.take h).drop l).getD i [],by simp only [Lf.view,List.length_drop,List.length_take,Nat.min_eq_left hh],trivial,fun i hi=>gd L [] rfl i hi,fun _=>rfl⟩
 · rename_i kd L
   subst hz
   simp only [Lf.view,Option.some.injEq,Prod.mk.injEq] at hy
   obtain ⟨rfl,rfl,rfl⟩:=hy
   exact ⟨_,by simp only [Lf.view,List.length_drop,List.length_take,Nat.min_eq_left hh]; rfl,trivial,fun i hi=>by rw [gd L 0 rfl i hi],fun _=>rfl⟩
 · rename_i j m g
   subst hz
   simp only [Lf.view,Option.some.injEq,Prod.mk.injEq] at hy
   obtain ⟨rfl,rfl,rfl⟩:=hy
   exact ⟨_,rfl,trivial,fun i hi=>rfl,fun _=>rfl⟩
 · rename_i s L
   subst hz
   simp only [Lf.view,Option.some.injEq,Prod.mk.injEq] at hy
   obtain ⟨rfl,rfl,rfl⟩:=hy
   exact ⟨_,by simp only [Lf.view,List.length_drop,List.length_take,Nat.min_eq_left hh]; rfl,trivial,fun i hi=>by rw [gd L s.nil rfl i hi],fun _=>rfl⟩
theorem Qo5 {t:TypeId} {v:Value} {y:PV} {vlo vhi:Option Value} {lo hi:Option Int} {q:Option Prop} {r:Rs} {nob:Option PO} (hx:PR g.H g.B v y) (h1:OI vlo lo) (h2:OI vhi hi) (h:slP P t y lo hi=some (q,r,nob)) (hq:∀ p,q=some p→p) :
  nob=none∧∃ u,(Instr.sliceAt t v vlo vhi none).run P w=.ok u w∧PR g.H g.B u r.out:=by
 unfold slP at h
 split at h
 · rename_i u hu
   cases h
   obtain ⟨h3,h4,h5⟩:=hq _ rfl
   have:=hx.val
   subst this
   refine ⟨rfl,_,?_,.f (.v _ rfl)⟩
   simp only [Instr.sliceAt,Sem.run_bind,run_underlying hu,Result.andThen_ok,Instr.slice]
   rw [if_neg (by simp)]
   simp only [Sem.run_bind,Sem.run_pure,Result.andThen_ok,QhZ h1 h2 (Nat.le_refl _) h3 h4 h5]
 · rename_i e y hu
   split at h
   · rename_i k n get k' hv hk
     split at h
     · rename_i z hkk hz
       cases h
       have hkk:=Nat.eq_of_beq_eq_true hkk
       subst hkk
       obtain ⟨h3,h4,h5⟩:=hq _ rfl
       cases hx with
       | f hx=>cases hx with
        | v=>cases hv
        | zn=>cases hv
        | @sl _ k2 n2 get2 ao cap hv2 hg hc hm h0 b o val hb hcell hlen hrec =>
         rw [hv] at hv2
         cases hv2
         have hfl:=Lf.full_le hv hg
         obtain ⟨get',hz1,hz2,hz3,hz4⟩:=QpB hv hz (by omega) hg
         refine ⟨rfl,.slice (if cap=(lo.getD 0).toNat then ao else ao.map (·.add ((lo.getD 0).toNat * k))) ((hi.getD n).toNat - (lo.getD 0).toNat) (cap - (lo.getD 0).toNat),?_,.f (.sl hz1 hz2 ?_ ?_ ?_ b (o+(lo.getD 0).toNat * k) (fun i j=>val (i+(lo.getD 0).toNat) j) ?_ ?_ ?_ ?_)⟩
         · simp only [Instr.sliceAt,Sem.run_bind,run_underlying hu,Result.andThen_ok,Instr.slice,QhZ h1 h2 (Nat.le_trans hfl hc) h3 h4 h5,QaL hk,Sem.run_pure]
         · rw [hz4]; omega
         · omega
         · intro hn
           split at hn
           · have:=h0 hn; omega
           · have:ao=none:=by cases ao with | none=>rfl | some a=>cases hn
             have:=h0 this; omega
         · intro hn
           rw [hz4] at hn
           rw [if_neg (by omega),hb (by omega)]
           simp [QbX]
         · intro i hi j hj
           rw [hz4] at hi
           have:=hcell (i+(lo.getD 0).toNat) (by omega) j hj
           rw [Nat.add_mul] at this
           rw [show o+(lo.getD 0).toNat * k+i * k+j=o+(i * k+(lo.getD 0).toNat * k)+j by omega]
           exact this
         · intro i hi
           rw [hz4] at hi
           rw [hz3 i hi]; exact hlen _ (by omega)
         · intro i hi j x hx
           rw [hz4] at hi
           rw [hz3 i hi] at hx
           exact hrec _ (by omega) j x hx
     · cases h
   · cases h
 · cases h
theorem QlG {y z:Lf} {k n m:Nat} {get:Nat→List Lf} {lo:Option Int} {h:Nat} (hy:y.view=some (k,n,get)) (hz:beyond y lo h=some (m,z)) (hm:h≤m) :
  lo=none∧y.full n=m∧∃ get',z.view=some (k,h,get')∧z.good∧h≤z.full h∧z.full h≤m∧∀ i,i<z.full h→get' i=get i:=by
 have gd:∀ {α:Type} (L:List α) (d:α) (i:Nat),i<h→(L.take h).getD i d=L.getD i d:=by
  intro α L d i hi
  rw [List.getD_eq_getElem?_getD,List.getD_eq_getElem?_getD,List.getElem?_take,if_pos hi]
 unfold beyond at hz
 split at hz
 · rename_i kd L
   cases hz
   cases hy
   exact ⟨rfl,rfl,_,rfl,hm,hm,Nat.le_refl _,fun _ _=>rfl⟩
 · rename_i j L
   cases hz
   cases hy
   exact ⟨rfl,rfl,_,rfl,hm,hm,Nat.le_refl _,fun _ _=>rfl⟩
 · rename_i kd L j
   cases hz
   cases hy
   exact ⟨rfl,rfl,fun i=>[.v (.int kd ((L.take h).getD i 0))],by simp only [Lf.view,List.length_take,Nat.min_eq_left hm],trivial,Nat.le_refl _,hm,fun i hi=>by dsimp only; rw [gd L 0 i hi]⟩
 · rename_i k' L j
   cases hz
   cases hy
   exact ⟨rfl,rfl,fun i=>(L.take h).getD i [],by simp only [Lf.view,List.length_take,Nat.min_eq_left hm],trivial,Nat.le_refl _,hm,fun i hi=>gd L [] i hi⟩
 · cases hz
   cases hy
   exact ⟨rfl,rfl,_,rfl,hm,hm,Nat.le_refl _,fun _ _=>rfl⟩
 · cases hz
   cases hy
   exact ⟨rfl,rfl,_,rfl,trivial,Nat.le_refl _,hm,fun _ _=>rfl⟩
 · cases hz
theorem Qo4 {t:TypeId} {v:Value} {y:PV} {vlo vhi:Option Value} {lo hi:Option Int} {q:Option Prop} {r:Rs} {nob:Option PO} (hx:PR g.H g.B v y) (h1:OI vlo lo) (h2:OI vhi hi) (h:slT P t y lo hi=some (q,r,nob)) (hq:∀ p,q=some p→p) :
  nob=none∧∃ u,(Instr.sliceAt t v vlo vhi none).run P w=.ok u w∧PR g.H g.B u r.out:=by
 unfold slT at h
 split at h
 · rename_i e hh y' hu hy'
   have hrd:Rd g.H v y':=by
    split at hy'
    · cases hy'; cases hx with | tl h _=>exact h
    · cases hy'; exact hx.rd
    · cases hy'
   split at h
   · rename_i k n get k' m z hv hk hz
     split at h
     · rename_i hkk
       cases h
       have hkk:=Nat.eq_of_beq_eq_true hkk
       subst hkk
       obtain ⟨h3,h4⟩:=hq _ rfl
       obtain ⟨rfl,hf,get',hz1,hz2,hz3,hz4,hz5⟩:=QlG hv hz (by omega)
       cases hrd with
       | v=>cases hv
       | zn=>cases hv
       | @sl _ k2 n2 get2 ao cap hv2 hg hc hm h0 b o val hb hcell hlen hrec =>
        rw [hv] at hv2
        cases hv2
        rw [hf] at hc hb hcell hlen hrec
        refine ⟨rfl,.slice ao hh.toNat cap,?_,.f (.sl hz1 hz2 (by omega) hm h0 b o val (fun hn=>hb (by omega)) (fun i hi j hj=>hcell i (by omega) j hj) (fun i hi=>?_) (fun i hi j x hx=>?_))⟩
        · have hb2:(Instr.sliceBounds true n cap vlo vhi none).run P w=.ok (0,hh.toNat,cap) w:=by
           cases h1
           cases h2 with
           | some kk _ =>
            have h6:0≤hh∧hh≤(cap:Int):=by omega
            simp [Instr.sliceBounds,Instr.sliceBound,asIntOf,h6]
          simp only [Instr.sliceAt,Sem.run_bind,run_underlying hu,Result.andThen_ok,Instr.slice,hb2,QaL hk,Sem.run_pure]
          have e1:(if cap=0 then ao else ao.map (·.add (0 * k)))=ao:=by
           split
           · rfl
           · rw [Nat.zero_mul]; cases ao <;> simp [Addr.add]
          simp only [e1,Nat.sub_zero]
        · rw [hz5 i hi]; exact hlen i (by omega)
        · rw [hz5 i hi] at hx; exact hrec i (by omega) j x hx
     · cases h
   · cases h
 · cases h
theorem QsK {lo:Option Operand} {l:Option Int} (h:evO s lo=some l) (hev:∀ x∈lo.toList,∀ y,s.fl x=some y→PR g.H g.B (a.eval x) y):OI (lo.map a.eval) l:=by
 cases lo with
 | none=>cases h; exact .none
 | some x =>
  simp only [evO] at h
  split at h
  · rename_i k i hx
    cases h
    have:=(hev x (by simp) _ hx).val
    show OI (some (a.eval x)) _
    rw [this]; exact .some k i
  · cases h
theorem Qc0 {t:TypeId} {ms:Array (String × TypeId)} (hd:P.underlying t=some (.interface ms)) (t':TypeId) (v:Value):(Op.equal t (.iface t' v) .nilIface).run P w=.ok false w:=by
 unfold Op.equal
 rw [show Op.maxDepth=9999+1 from rfl,Op.equalIn]
 simp only [Sem.run_bind,run_underlying hd,Result.andThen_ok]
 rfl
theorem Qit {H:Hp} {B:Hd}:∀ {l:List PV} {us:List Value} {vs:List Value},Qpv l=some us→vs.length=l.length→(∀ (i:Nat) v x,vs[i]?=some v→l[i]?=some x→PR H B v x)→vs=us
 | [],us,vs,h,hl,_=>by
  cases h
  exact List.eq_nil_of_length_eq_zero (by simpa using hl)
 | x::l,us,vs,h,hl,hp=>by
  unfold Qpv at h
  split at h
  · rename_i heq; cases heq
  · rename_i u l' heq
    cases heq
    split at h
    · rename_i m hm
      cases h
      cases vs with
      | nil=>simp at hl
      | cons v vs =>
       have h1:=(hp 0 v _ rfl rfl).val
       have h2:=Qit hm (by simpa using hl) (fun i v x hv hx=>hp (i+1) v x (by simpa using hv) (by simpa using hx))
       rw [h1,h2]
    · cases h
  · cases h
theorem Qmp {t:TypeId} {cs:Array Value} {off:Nat} {v:Value} {d:TypeDesc} (hd:P.underlying t=some d) (hn:∀ fs,d≠.struct fs) (hn2:∀ n e,d≠.array n e) (hv:cs[off]?=some v) (w:World):(part t cs off).run P w=.ok v w:=by
 unfold part isAgg
 simp only [Sem.run_bind,run_underlying hd,Result.andThen_ok]
 cases d <;> first | exact absurd rfl (hn _) | exact absurd rfl (hn2 _ _) | simp [hv]
theorem QrR {f:Field} {u v:Value} {r:Bool} (h:eqLf P f u v=some r) (d:Nat) (w:World):(∃ td,P.underlying f.type=some td∧(∀ fs,td≠.struct fs)∧∀ n e,td≠.array n e)∧(Op.equalIn (d+1) f.type u v).run P w=.ok r w:=by
 unfold eqLf at h
 split at h
 · rename_i k a k' b
   split at h
   · rename_i k0 hu hk
     cases h
     have hk:=of_decide_eq_true hk
     subst hk
     exact ⟨⟨_,hu,by simp,by simp⟩,run_equalIn_int w d _ _ _ _ _ hu⟩
   · cases h
 · rename_i a b
   split at h
   · rename_i hu
     cases h
     exact ⟨⟨_,hu,by simp,by simp⟩,run_equalIn_string w d _ _ _ hu⟩
   · cases h
 · rename_i a b
   split at h
   · rename_i hu
     cases h
     exact ⟨⟨_,hu,by simp,by simp⟩,run_equalIn_bool' w d _ _ _ hu⟩
   · cases h
 · cases h
theorem QmR {us vs:List Value} (d:Nat) (w:World):∀ {fs:List Field} {r:Bool},eqFs P us vs fs=some r→(Op.eqFields (d+1) us.toArray vs.toArray fs).run P w=.ok r w
 | [],r,h=>by cases h; rfl
 | f::fs,r,h=>by
  unfold eqFs at h
  split at h
  · rename_i u v hn hu hv
    split at h
    · rename_i a b ha hb
      cases h
      have hn:=of_decide_eq_false hn
      rw [Qap] at hu hv
      obtain ⟨⟨td,h1,h2,h3⟩,h4⟩:=QrR ha d w
      unfold Op.eqFields
      rw [if_pos hn]
      simp only [Sem.run_bind,Qmp h1 h2 h3 (show us.toArray[f.offset]?=some u by simpa using hu) w,Qmp h1 h2 h3 (show vs.toArray[f.offset]?=some v by simpa using hv) w,Result.andThen_ok,h4]
      cases a with
      | false=>rfl
      | true=>exact QmR d w hb
    · cases h
  · cases h
theorem QmQ {b:BinOp} {t:TypeId} {x y:Operand} {l m:List PV} {u v:Value} {r:Bool} {H:Hp} {B:Hd} (h:eqOp P b t l m=some r) (hu:PR H B u (.agg l)) (hv:PR H B v (.agg m)) (w:World):(do eqGuard b t x y u v; binOp b t u v:Sem Value).run P w=.ok (.bool r) w:=by
 unfold eqOp at h
 split at h
 · rename_i us vs fs h1 h2 h3
   split at h
   · rename_i r0 hc hr
     simp only [Bool.and_eq_true,Bool.not_eq_true'] at hc
     obtain ⟨as,rfl,ha⟩:=PRs.of_agg hu
     obtain ⟨bs,rfl,hb⟩:=PRs.of_agg hv
     obtain rfl:=Qit h1 ha.1 ha.2
     obtain rfl:=Qit h2 hb.1 hb.2
     have hf:P.fieldsOf t=fs:=by unfold Program.fieldsOf; rw [h3]
     have he:(Op.equalIn 10000 t (.agg as.toArray) (.agg bs.toArray)).run P w=.ok r0 w:=by
      rw [run_equalIn_agg w 9999 t _ _ (by rw [hf]; exact h3) hc.1,hf]
      exact QmR 9998 w hr
     simp only [Sem.run_bind,run_eqGuard_agg w b t x y _ _ hc.2,Result.andThen_ok]
     split at h
     · cases h
       rw [run_eql_struct,he]; rfl
     · cases h
       rw [run_neq_struct,he]; rfl
     · cases h
   · cases h
 · cases h
theorem Qon {t0 t:TypeId} {d:TypeDesc} (hd:P.underlying t=some d) (hni:∀ ms,d≠.interface ms) (v:Value):(Instr.typeAssert (.iface t v) t0 t true).run P w=.ok (.tuple #[v,.bool true]) w:=by
 unfold Instr.typeAssert
 simp only [Sem.run_bind,run_underlying hd,Result.andThen_ok]
 cases d <;> first | exact absurd rfl (hni _) | simp
set_option maxHeartbeats 1000000 in
theorem QeE {E:Env} {Γ:Specs} (hΓ:Sound P E Γ) (hU:Up E) (hE:E lo w g.H) {o:Oper} {q:Option Prop} {y:Rs} {nob:Option PO} (h:opv P Γ s o.dst o.op=some (q,y,nob)) (hq:∀ p,q=some p→p)
  (hs:∀ (i:Nat) x,s.ob[i]?=some x→ob[i]?=some x) (hO:Obs lo ob g w) (hlo:∀ b,lo b→b<w.heap.size)
  (hev0:∀ x∈operT o.op,∀ y,s.ev x=some y→PR g.H g.B (a.eval x) y)
  (hnew:∀ z,nob=some z→ob[s.ob.length]?=some z∧g.B s.ob.length=none):Makes P lo ob s nob y.out a w g o Q:=by
 obtain ⟨dst,op,ty,pos,af,gd⟩:=o
 dsimp only at h hev0
 have hev:∀ x∈operT op,∀ y,s.fl x=some y→PR g.H g.B (a.eval x) y:=fun x hx=>QcZ (hev0 x hx)
 unfold opv at h
 split at h
 · -- move
   rename_i x
   split at h
   · rename_i z hz; cases h; exact Qam hO rfl (hev0 x (by simp [Qat]) _ hz)
   · cases h
 · -- assign
   rename_i x
   split at h
   · rename_i z hz; cases h; exact Qam hO rfl (hev0 x (by simp [Qat]) _ hz)
   · cases h
 · -- alloc
   rename_i t
   split at h
   · rename_i z hz
     cases h
     obtain ⟨v,hv1,hv2⟩:=Qh4 hz
     obtain ⟨h1,h2⟩:=hnew _ rfl
     refine QgT (t:=t) (vs:=v.cells.toList) hO hlo h1 h2 (Qds hv2) ?_
     refine Qas (s:=Instr.alloc t true (.tuple #[])) ?_
     simp [Instr.alloc,Qey hv1,newVar,newRow]
   · cases h
 · -- makeMap
   rename_i t
   split at h
   · rename_i k e hu
     split at h
     · rename_i kt hk
       cases h
       obtain ⟨h1,h2⟩:=hnew _ rfl
       refine QpT hO hlo h1 h2 ?_
       refine Qas (s:=Instr.makeMap t none) ?_
       simp [Instr.makeMap,newObj,Sem.run]
     · cases h
   · cases h
 · -- box
   rename_i t x
   split at h
   · rename_i z hz
     split at h
     · rename_i hc
       cases h
       obtain ⟨h1,h2⟩:=hnew _ rfl
       refine QgT (t:=t) (vs:=(a.eval x).cells.toList) hO hlo h1 h2 ((hev x (by simp [Qat]) _ hz).cells hc) ?_
       refine Qas (s:=Instr.box t (a.eval x)) ?_
       simp [Instr.box,newVar,newRow]
     · cases h
   · cases h
 · -- load
   rename_i t x
   split at h
   · rename_i z hz
     split at h
     · rename_i u hu
       cases h
       obtain ⟨v,h1,h2⟩:=QhK hs hO (hev x (by simp [Qat]) _ hz) hu
       exact Qam hO (Qas h1) h2
     · cases h
   · cases h
 · -- fieldAddr
   rename_i t x f
   split at h
   · rename_i z hz
     split at h
     · rename_i u hu
       cases h
       obtain ⟨v,h1,h2⟩:=Qg1 (w:=w) (hev x (by simp [Qat]) _ hz) hu
       exact Qam hO (Qas h1) h2
     · cases h
   · cases h
 · -- field
   rename_i t x f
   split at h
   · rename_i z hz
     split at h
     · rename_i u hu
       cases h
       obtain ⟨v,h1,h2⟩:=Qlm (w:=w) (hev x (by simp [Qat]) _ hz) hu
       exact Qam hO (Qas h1) h2
     · cases h
   · cases h
 · -- indexAddr
   rename_i t x i
   split at h
   · rename_i o' j hz hj
     split at h
     · rename_i p u hu
       cases h
       obtain ⟨v,h1,h2⟩:=QjR (w:=w) hs hO (hev x (by simp [Qat]) _ hz) (hev i (by simp [Qat]) _ hj) hu hq
       exact Qam hO (Qas h1) h2
     · cases h
   · rename_i z j hnw hz hj
     split at h
     · rename_i p u hu
       cases h
       obtain ⟨v,h1,h2⟩:=Qlf (w:=w) (hev x (by simp [Qat]) _ hz) (hev i (by simp [Qat]) _ hj) hu hq
       exact Qam hO (Qas h1) h2
     · cases h
   · cases h
 · -- build
   rename_i t ps
   split at h
   · rename_i l hl
     split at h
     · rename_i u hu
       cases h
       have hr:=Qln (a:=a) (g:=g) (fun x hx=>hev x (by simpa [Qat] using hx)) hl
       obtain ⟨v,h1,h2⟩:=QlD (w:=w) (us:=ps.map fun (i,x)=>(i,a.eval x)) (by simpa using hr) hu
       exact Qam hO (Qas h1) h2
     · cases h
   · cases h
 · -- buildSlice
   rename_i t n ps
   split at h
   · rename_i l hl
     have hr:=Qln (a:=a) (g:=g) (fun x hx=>hev x (by simpa [Qat] using hx)) hl
     split at h
     · split at h
       · rename_i u hu
         cases h
         obtain ⟨v,w',H',h1,h2,h3,h4,_⟩:=QbV (us:=ps.map fun (i,x)=>(i,a.eval x)) hO (by simpa using hr) hu
         intro K hK
         exact QbM (Qas h1) (hK w' v ⟨H',g.B⟩ h2 h3 (fun _ _ h=>h) (fun _ _=>rfl) (fun z hz=>by cases hz) (QtP h4))
       · cases h
     · split at h
       · rename_i k e hu he
         cases h
         obtain ⟨h1',h2'⟩:=hnew _ rfl
         obtain ⟨v,w',H',h1,h2,h3,h4,h5⟩:=QbV (us:=ps.map fun (i,x)=>(i,a.eval x)) hO (by simpa using hr) hu
         obtain ⟨k',L,vs',h6,rfl,h7,rfl,rfl,h8⟩:=h5 e he
         cases h6
         have hno:∀ j,g.H w.heap.size j=none:=by
          intro j
          cases hh:g.H w.heap.size j with
          | none=>rfl
          | some v=>have:=hO.fro.lt hh; omega
         obtain ⟨h9,h10,h11⟩:=hO.newRow (i:=s.ob.length) (x:=.own e (.row k [])) e hlo h2' h1' (n:=0) (cap:=0) (vs:=vs') fun B=>⟨k,0,fun i=>([]:List (List Lf)).getD i [],[],rfl,⟨by simp,.inr ⟨_,0,vs'.toArray,rfl,Nat.zero_le _,.of (heap_alloc_new w _),Nat.le_refl _,by unfold maxLen; omega,by simpa using h7,by simp⟩⟩,fun i hi=>by omega,fun b hb j=>by cases hb; exact hno j⟩
         intro K hK
         refine QbM (Qas h1) (hK _ _ ⟨_,_⟩ h9 h10 h11 (fun i hi=>?_) (fun _ _=>⟨_,if_pos rfl⟩) (.wr (if_pos rfl) rfl))
         rcases hi with hi | hi
         · cases hi
         · exact if_neg hi
       · rename_i k y m e hu he
         cases h
         obtain ⟨h1',h2'⟩:=hnew _ rfl
         obtain ⟨v,w',H',h1,h2,h3,h4,h5⟩:=QbV (us:=ps.map fun (i,x)=>(i,a.eval x)) hO (by simpa using hr) hu
         obtain ⟨k',L,vs',h6,rfl,h7,rfl,rfl,h8⟩:=h5 e he
         cases h6
         obtain ⟨h9,h10⟩:=h2.fresh (i:=s.ob.length) (u:=.slice (some ⟨w.heap.size,0,none⟩) (y::m).length (y::m).length) (x:=.tail e k) h2' h1' (fun b hb=>by cases hb; rw [Qaa]; exact Nat.lt_succ_self _) (fun b hb hc=>by cases hb; have:=hlo _ hc; dsimp only at this; omega) (fun o u b hu hb hc=>by cases hc; have:=hO.lt o u _ hu hb; dsimp only at this; omega) fun B=>.inr ⟨_,_,_,vs'.toArray,rfl,Nat.zero_le _,heap_alloc_new w _,Nat.le_refl _,h8,by simpa using h7,fun j hj=>by dsimp only; rw [if_pos rfl,List.getElem?_eq_none (by omega)]⟩
         intro K hK
         refine QbM (Qas h1) (hK _ _ ⟨_,_⟩ h9 h3 h10 (fun i hi=>?_) (fun _ _=>⟨_,if_pos rfl⟩) (.tl (Qsv _ _ h4.rd) (if_pos rfl)))
         rcases hi with hi | hi
         · cases hi
         · exact if_neg hi
       · cases h
   · cases h
 · -- makeInterface
   rename_i t x
   split at h
   · cases h
   · rename_i d y hni hd hy
     split at h
     · cases h
       refine Qam hO (Qas (s:=Instr.makeInterface t (a.eval x)) (u:=.iface t (a.eval x)) ?_) (.ifc (hev x (by simp [Qat]) _ hy))
       simp only [Instr.makeInterface,Sem.run_bind,run_underlying hd,Result.andThen_ok]
       cases d <;> first | rfl | exact absurd hd (hni _)
     · cases h
   · cases h
 · -- makeFunc
   rename_i f us vs
   split at h
   · rename_i l m hl hm
     cases h
     have h1:=QfA (a:=a) (g:=g) (fun x hx=>hev x (by simp [Qat]; exact .inl (by simpa using hx))) hl
     have h2:=QfA (a:=a) (g:=g) (fun x hx=>hev x (by simp [Qat]; exact .inr (by simpa using hx))) hm
     refine Qam hO (Qas (s:=Instr.makeFunc (.func f) (us.map a.eval) (vs.map a.eval)) (u:=.func (.func f) (us.map a.eval) (vs.map a.eval)) rfl) (.fn ?_ ?_ ?_ ?_)
     · simpa using h1.1
     · exact fun i v x hv hx=>h1.2 i v x (by simpa using hv) hx
     · simpa using h2.1
     · exact fun i v x hv hx=>h2.2 i v x (by simpa using hv) hx
   · cases h
 · -- makeSlice
   rename_i t l c
   split at h
   · rename_i kl n kc m hl hc
     have e1:=(hev l (by simp [Qat]) _ hl).val
     have e2:=(hev c (by simp [Qat]) _ hc).val
     split at h
     · rename_i e k b x hz
       have hq':0≤n∧n≤m∧m * b≤140737488355328∧m≤maxLen:=by
        split at h <;> cases h <;> exact hq _ rfl
       obtain ⟨r1,r2,r3,r4⟩:=hq'
       obtain ⟨w',vs',get,h1,h2,h3,h4,h5⟩:=QiE (w:=w) (kl:=kl) (kc:=kc) hz r1 r2 r3 r4
       subst h2
       rw [← e1,← e2] at h1
       have hno:∀ j,g.H w.heap.size j=none:=by
        intro j
        cases hh:g.H w.heap.size j with
        | none=>rfl
        | some v=>have:=hO.fro.lt hh; omega
       have hown:∀ (H:Hp) (B:Hd),(∀ j,H w.heap.size j=none)→(PO.own e x).holds (w.alloc (.cells vs'.toArray e)) H B 0 (.slice (some ⟨w.heap.size,0,none⟩) n.toNat m.toNat):=fun H B hH =>
        ⟨k,n.toNat,get,vs'.take (n.toNat * k),h3,⟨by rw [List.length_take,h4,Nat.min_eq_left (Nat.mul_le_mul_right k (by omega))],.inr ⟨_,m.toNat,vs'.toArray,rfl,Nat.zero_le _,.of (heap_alloc_new w _),by omega,by omega,by simpa using h4,rfl⟩⟩,fun i hi=>⟨(h5 i hi).1,fun j y hy=>by
         obtain ⟨v,q1,q2⟩:=(h5 i hi).2 j y hy
         have hj:j<k:=by rw [← (h5 i hi).1]; exact (List.getElem?_eq_some_iff.1 hy).1
         have hik:i * k+j<n.toNat * k:=by
          have:=Nat.mul_le_mul_right k (show i+1≤n.toNat from hi)
          rw [Nat.succ_mul] at this; omega
         exact ⟨v,by rw [List.getElem?_take,if_pos hik]; exact q1,q2 H⟩⟩,fun b hb j=>by cases hb; exact hH j⟩
       have htl:∀ (H:Hp) (B:Hd),(∀ j,H w.heap.size j=none)→n.toNat=0→(PO.tail e k).holds (w.alloc (.cells vs'.toArray e)) H B 0 (.slice (some ⟨w.heap.size,0,none⟩) n.toNat m.toNat):=fun H B hH hn =>
        .inr ⟨_,_,_,vs'.toArray,rfl,Nat.zero_le _,heap_alloc_new w _,by omega,by omega,by simpa using h4,fun j _=>hH j⟩
       have hrd:∀ (H:Hp),x.view0=some (k,n.toNat,get)→n.toNat=0→(∀ q,x.full q=q)→x.good→x.view=x.view0→Rd H (.slice (some ⟨w.heap.size,0,none⟩) n.toNat m.toNat) x:=fun H hv hn hf hg he =>
        .sl (he.trans hv) hg (by rw [hf]; omega) (by omega) (fun hc=>by cases hc) w.heap.size 0 (fun _ _=>undef) (fun hc=>rfl) (fun q hq=>by rw [hf] at hq; omega) (fun q hq=>by rw [hf] at hq; omega) (fun q hq=>by rw [hf] at hq; omega)
       split at h
       · rename_i hz0
         cases h
         obtain ⟨h1',h2'⟩:=hnew _ rfl
         have hn:n.toNat=0:=by rw [isZ_at hz0 hl]; rfl
         obtain ⟨f1,f2,f3⟩:=Lf.view0_facts h3
         obtain ⟨h9,h10,h11⟩:=hO.newRow (i:=s.ob.length) e hlo h2' h1' (n:=n.toNat) (cap:=m.toNat) (vs:=vs') fun B=>htl g.H B hno hn
         intro K hK
         refine QbM (Qas h1) (hK _ _ ⟨_,_⟩ h9 h10 h11 (fun i hi=>?_) (fun _ _=>⟨_,if_pos rfl⟩) (.tl (hrd _ h3 hn f2 f3 (f1.trans h3.symm)) (if_pos rfl)))
         rcases hi with hi | hi
         · cases hi
         · exact if_neg hi
       · cases h
         obtain ⟨h1',h2'⟩:=hnew _ rfl
         obtain ⟨h9,h10,h11⟩:=hO.newRow (i:=s.ob.length) e hlo h2' h1' (n:=n.toNat) (cap:=m.toNat) (vs:=vs') fun B=>hown g.H B hno
         intro K hK
         refine QbM (Qas h1) (hK _ _ ⟨_,_⟩ h9 h10 h11 (fun i hi=>?_) (fun _ _=>⟨_,if_pos rfl⟩) (.wr (if_pos rfl) rfl))
         rcases hi with hi | hi
         · cases hi
         · exact if_neg hi
     · cases h
   · cases h
 · -- extract
   rename_i x i
   split at h
   · rename_i l hl
     split at h
     · rename_i z hz
       cases h
       obtain ⟨u,h1,h2,_⟩:=(hev x (by simp [Qat]) _ hl).tupAt (P:=P) (w:=w) hz
       exact Qam hO (Qas h1) h2
     · cases h
   · cases h
 · -- nilCheck
   rename_i x
   split at h
   · rename_i o n hz
     cases h
     have hx:=hev x (by simp [Qat]) _ hz
     refine Qam hO (u:=a.eval x) ?_ hx
     cases hx':a.eval x <;> rw [hx'] at hx <;> cases hx
     simp only [execOp,hx']
     rfl
   · rename_i l hz
     cases h
     have hx:=hev x (by simp [Qat]) _ hz
     refine Qam hO (u:=a.eval x) ?_ hx
     cases hx':a.eval x <;> rw [hx'] at hx <;> cases hx
     simp only [execOp,hx']
     rfl
   · cases h
 · -- binOp
   rename_i b t x y yt
   split at h
   · rename_i u0 v0 hu hv
     split at h
     · rename_i u v hu1 hv1
       have h1:=(hev x (by simp [Qat]) _ hu).sval hu1
       have h2:=(hev y (by simp [Qat]) _ hv).sval hv1
       split at h
       · rename_i m n
         cases h
         have h3:=hq _ rfl
         refine Qam hO (Qas (s:=do eqGuard .add t x y (a.eval x) (a.eval y); binOp .add t (a.eval x) (a.eval y)) ?_) (.f (.v _ rfl))
         rw [h1,h2]
         have h4:¬ (((m.size+n.size:Nat):Int) > IntKind.i64.max):=by omega
         simp only [eqGuard,binOp,Op.stringOp,if_neg h4]
         rfl
       · refine QdX hO h ?_
         show (do pure (Next.value (← (do eqGuard b t x y (a.eval x) (a.eval y); binOp b t (a.eval x) (a.eval y)))):Sem Next)=_
         rw [h1,h2]
     · cases h
   · rename_i t' y' hu hv
     have h2:=(hev y (by simp [Qat]) _ hv).val
     have hx:=hev x (by simp [Qat]) _ hu
     generalize hxe:a.eval x=ux at hx
     cases hx with
     | @ifc _ v _ hx =>
      split at h
      · rename_i ms hd
        cases h
        refine Qam hO (Qas (s:=do eqGuard .neq t x y (a.eval x) (a.eval y); binOp .neq t (a.eval x) (a.eval y)) (u:=.bool true) ?_) (.f (.v _ rfl))
        rw [hxe,h2]
        simp [eqGuard,binOp,Qc0 hd]
      · rename_i ms hd
        cases h
        refine Qam hO (Qas (s:=do eqGuard .eql t x y (a.eval x) (a.eval y); binOp .eql t (a.eval x) (a.eval y)) (u:=.bool false) ?_) (.f (.v _ rfl))
        rw [hxe,h2]
        simp [eqGuard,binOp,Qc0 hd]
      · cases h
   · rename_i l m hu hv
     split at h
     · rename_i r hr
       cases h
       exact Qam hO (Qas (s:=do eqGuard b t x y (a.eval x) (a.eval y); binOp b t (a.eval x) (a.eval y)) (QmQ hr (hev x (by simp [Qat]) _ hu) (hev y (by simp [Qat]) _ hv) w)) (.f (.v _ rfl))
     · cases h
   · cases h
 · -- typeAssert
   rename_i x t0 t
   split at h
   · cases h
   · rename_i t' y d hni hx hd
     split at h
     · rename_i ht
       cases h
       have ht:=Nat.eq_of_beq_eq_true ht
       have hx:=hev x (by simp [Qat]) _ hx
       generalize hxe:a.eval x=ux at hx
       cases hx with
       | @ifc _ v _ hx =>
        refine Qam hO (Qas (s:=Instr.typeAssert (a.eval x) t0 t true) (u:=.tuple #[v,.bool true]) ?_) (.tup rfl fun i u z hu hz=>?_)
        · rw [hxe]
          subst ht
          exact Qon hd (fun ms hm=>by first | exact hni ms (by rw [hd,hm]) | exact hni ms hm | exact hni _ _ _ (by assumption) (by rw [hd,hm]) | exact (hni _ _ ms hx' (by rw [hd,hm]))) v
        · cases i with
          | zero=>simp at hu hz; subst hu hz; exact hx
          | succ i=>cases i with
           | zero=>simp at hu hz; subst hu hz; exact .f (.v _ rfl)
           | succ i=>simp at hu
     · cases h
   · cases h
 · -- unOp
   rename_i b t x
   split at h
   · rename_i u0 hu
     split at h
     · rename_i u hu1
       have h1:=(hev x (by simp [Qat]) _ hu).sval hu1
       refine QdX hO h ?_
       show (do pure (Next.value (← Op.unary b (a.eval x))):Sem Next)=_
       rw [h1]
     · cases h
   · cases h
 · -- convert
   rename_i t t' x
   split at h
   · rename_i l hl
     split at h
     · rename_i e he hd
       split at h
       · rename_i hu8
         cases h
         have hx:=(hev x (by simp [Qat]) _ hl).rd
         refine Qam hO (Qas (s:=convert t t' (a.eval x)) ?_) (.f (.v _ rfl))
         generalize a.eval x=v at hx
         cases hx with
         | @sl _ k2 n2 get2 ao cap hv2 hg hc hm h0 b o val hb hcell hlen hrec =>
          cases hv2
          cases ao with
          | none =>
           have:=h0 rfl
           subst this
           have hc:l.length≤0:=hc
           have:l=[]:=List.length_eq_zero_iff.1 (by omega)
           subst this
           rw [run_convert_bytes_nil (P:=P) (w:=w) t e (Qbq he) hu8 _ _ t' hd]
           rfl
          | some ad =>
           by_cases hn:0<l.length
           · have:=hb hn
             cases this
             refine run_convert_bytes_arg (P:=P) w t e (Qbq he) hu8 b o l.length cap l rfl (fun i hi=>?_) t' hd
             have h1:=hO.fro _ _ _ (hcell i hi 0 (by omega))
             rw [Nat.mul_one,Nat.add_zero] at h1
             rw [h1]
             have h2:=(hrec i hi 0 _ rfl).val rfl
             rw [h2]
           · have:l=[]:=List.length_eq_zero_iff.1 (by omega)
             subst this
             obtain ⟨b',o',sp⟩:=ad
             rw [run_convert_bytes_string w t t' e _ _ _ (Qbq he) hu8 hd]
             simp [Conv.bytesToString,loadCells,strOfNums]
             rfl
       · cases h
     · cases h
   · rename_i u hu
     split at h
     · rename_i e d he hd
       split at h
       · rename_i hu8
         cases h
         obtain ⟨h1',h2'⟩:=hnew _ rfl
         have hsz:=hq _ rfl
         have hx:=(hev x (by simp [Qat]) _ hu).val
         have hno:∀ j,g.H w.heap.size j=none:=by
          intro j
          cases hh:g.H w.heap.size j with
          | none=>rfl
          | some v=>have:=hO.fro.lt hh; omega
         have hr:=Lib.run_convert_string_bytes (P:=P) w t t' e u hd (Qbq he) hu8
         rw [← hx] at hr
         obtain ⟨h9,h10,h11⟩:=hO.newRowW (i:=s.ob.length) (x:=.own e (.is .u8 (strI u))) hlo h2' h1' (Lib.bytesWorld_below w e u) (Lib.bytesWorld_size w e u) fun B=>QlB w e u hsz hno
         intro K hK
         refine QbM (Qas (s:=convert t t' (a.eval x)) hr) (hK _ _ ⟨_,_⟩ h9 h10 h11 (fun i hi=>?_) (fun _ _=>⟨_,if_pos rfl⟩) (.wr (if_pos rfl) rfl))
         rcases hi with hi | hi
         · cases hi
         · exact if_neg hi
       · cases h
     · have h1:=(hev x (by simp [Qat]) _ hu).val
       refine QdX hO h ?_
       show (do pure (Next.value (← convert t t' (a.eval x))):Sem Next)=_
       rw [h1]
   · rename_i u0 hnis hnis2 hu
     split at h
     · rename_i u hu1
       have h1:=(hev x (by simp [Qat]) _ hu).sval hu1
       refine QdX hO h ?_
       show (do pure (Next.value (← convert t t' (a.eval x))):Sem Next)=_
       rw [h1]
     · cases h
   · cases h
 · -- index
   rename_i t x i
   split at h
   · rename_i u ik iv hu hx hi
     cases h
     have h1:=(hev x (by simp [Qat]) _ hx).val
     have h2:=(hev i (by simp [Qat]) _ hi).val
     obtain ⟨h3,h4⟩:=hq _ rfl
     refine Qam hO (Qas (s:=Instr.index t (a.eval x) (a.eval i)) ?_) (.f (.v _ rfl))
     rw [h1,h2]
     have h6:iv.toNat<u.size:=by omega
     have h5:u[iv.toNat]?=some (u.data.toList.getD iv.toNat 0):=by
      rw [getElem?_pos u iv.toNat h6]
      have h7:iv.toNat<u.data.toList.length:=by rw [Array.length_toList]; exact h6
      rw [List.getD_eq_getElem?_getD,List.getElem?_eq_getElem h7,Option.getD_some]
      rfl
     simp only [Instr.index,asIntOf,Sem.run_bind,Sem.run_pure,Result.andThen_ok,run_underlying hu,if_pos h3,h5]
   · cases h
 · -- slice
   rename_i t x lo hi
   split at h
   · rename_i y l hh hx hl hhi
     have hoi1:=QsK (a:=a) hl fun z hz=>hev z (by simp only [Qat]; exact List.mem_cons_of_mem _ (List.mem_append_left _ hz))
     have hoi2:=QsK (a:=a) hhi fun z hz=>hev z (by simp only [Qat]; exact List.mem_cons_of_mem _ (List.mem_append_right _ hz))
     split at h
     · rename_i r hr
       cases h
       obtain ⟨rfl,u,h1,h2⟩:=Qo4 (w:=w) (hev0 x (by simp [Qat]) _ hx) hoi1 hoi2 hr hq
       exact Qam hO (Qas h1) h2
     have hx2:=(hev0 x (by simp [Qat]) _ hx).flat
     obtain ⟨rfl,u,h1,h2⟩:=Qo5 (w:=w) hx2 hoi1 hoi2 h hq
     exact Qam hO (Qas h1) h2
   · cases h
 · -- len
   rename_i xs ts
   split at h
   · rename_i o' t hx ht
     split at h
     · rename_i z hz
       cases h
       have h1:=QfA (a:=a) (g:=g) (fun x hx=>hev x (by simpa [Qat] using hx)) hx
       have hvs:(xs.map a.eval)[0]?=some ((xs.map a.eval).getD 0 undef):=by
        have:=h1.1
        simp only [List.length_map,Array.length_toList,List.length_cons,List.length_nil] at this
        simp [Array.getD,this]
       have h2:PR g.H g.B ((xs.map a.eval).getD 0 undef) (.wr o'):=by
        refine h1.2 0 _ _ ?_ rfl
        rw [← Array.toList_map,Array.getElem?_toList]; exact hvs
       obtain ⟨u,h3,h4⟩:=Qn1 (P:=P) (w:=w) (ty:=ty) hs hO ht hvs h2 hz
       refine Qam hO ?_ h4
       show (do let d ← resolve a.eval ⟨.builtin .len,xs,ts⟩ ty; invoke d.target d.args:Sem Next).run P w=_
       simp [resolve,invoke,builtin,h3]
     · cases h
   · rename_i x t hnw hx ht
     split at h
     · rename_i z hz
       cases h
       have h1:=QfA (a:=a) (g:=g) (fun x hx=>hev x (by simpa [Qat] using hx)) hx
       have hvs:(xs.map a.eval)[0]?=some ((xs.map a.eval).getD 0 undef):=by
        have:=h1.1
        simp only [List.length_map,Array.length_toList,List.length_cons,List.length_nil] at this
        simp [Array.getD,this]
       have h2:PR g.H g.B ((xs.map a.eval).getD 0 undef) x:=by
        refine h1.2 0 _ x ?_ rfl
        rw [← Array.toList_map,Array.getElem?_toList]; exact hvs
       obtain ⟨u,h3,h4⟩:=QpY (P:=P) (w:=w) (ty:=ty) ht hvs h2 hz
       refine Qam hO ?_ h4
       show (do let d ← resolve a.eval ⟨.builtin .len,xs,ts⟩ ty; invoke d.target d.args:Sem Next).run P w=_
       simp [resolve,invoke,builtin,h3]
     · cases h
   · cases h
 · -- min
   rename_i xs ts
   split at h
   · rename_i k m k' n hx
     split at h
     · cases h
       have h1:=QfA (a:=a) (g:=g) (fun x hx=>hev x (by simpa [Qat] using hx)) hx
       have h2:=QtI h1
       refine Qam (u:=.int k (min m n)) hO ?_ (.f (.v _ rfl))
       show (do let d ← resolve a.eval ⟨.builtin .min,xs,ts⟩ ty; invoke d.target d.args:Sem Next).run P w=_
       have h3:(if n<m then n else m)=min m n:=by split <;> omega
       simp [resolve,invoke,builtin,Builtin.min_,h2,Builtin.min2,h3]
     · cases h
   · cases h
 · -- call
   rename_i x xs ts
   split at h
   · rename_i f a1 b1 l hx hl
     split at h
     · rename_i sp ha hb hp hsp
       split at h
       · rename_i hpf
         split at h
         · rename_i p r hr
           split at h
           · rename_i hpr
             cases h
             obtain rfl:a1=#[]:=Array.eq_empty_of_size_eq_zero ha
             obtain rfl:b1=#[]:=Array.eq_empty_of_size_eq_zero hb
             have h1:=(hev x (by simp [Qat]) _ hx).val
             have h2:=(QfA (a:=a) (g:=g) (fun x hx=>hev x (by simp only [Qat]; exact List.mem_cons_of_mem _ hx)) hl).pure hp
             have h3:=hΓ f sp hsp l q y hr hq w g.H _ hO.fro (hU.more _ _ _ _ hlo hE) h2
             rw [show (xs.toList.map a.eval).toArray=xs.map a.eval from by apply Array.ext'; simp] at h3
             intro K hK
             refine Qro h1 hpf h3 ?_
             rintro e w' ⟨H',v,rfl,h4,h5⟩
             exact ⟨v,rfl,hK w' v ⟨H',g.B⟩ (hO.ext h4) h4 (fun _ _ h=>h) (fun _ _=>rfl) (fun z hz=>by cases hz) (h5.mono (Hp.le_refl _) (B0.le _))⟩
           · cases h
         · cases h
       · cases h
     · cases h
   · cases h
 · cases h
end
end Go.Proofs.YtmbmbcamecfnkaaGreatDoor
