/- Sums of atoms: the keys of a map, sorted: by the library's own contracts. -/
import Derived.Test.YtmbmbcamecfnkaaGreatDoorLe
import Derived.Test.YtmbmbcamecfnkaaGreatDoorShelfI
import Derived.Sort.KeysCollected
namespace Go.Proofs.YtmbmbcamecfnkaaGreatDoor
open Go.RowKit Go.Sort Go.Maps Go.Shelf Go.WideElems Go.WideShapes
set_option linter.unusedVariables false
set_option linter.unusedSimpArgs false
set_option maxRecDepth 100000
theorem cKeysM {E:Env} (hU:Up E):Contract2 Tryz.prog E 148 Ql8:=by
 refine contract2 [] [] Tryz.ntmps148 Tryz.func148 (by kernel_rfl) (by kernel_rfl) hU trivial trivial ?_
 intro xs ob o hs hok
 unfold Ql8 at hs
 split at hs
 · rename_i has get
   cases hs
   refine ⟨[.wr 0],[],.cons (.refl _) .nil,rfl,fun _ hsh=>?_⟩
   have h0:=hU
   refine Qag (p:=EndU 1 (Out.ret (PV.fn 228 [] [PV.bp 1 0]) [PO.map Kt.str has get [] [],PO.cells [PV.wr 0]]).fin true (PV.fn 228 [] [PV.bp 1 0]) [PO.map Kt.str has get [] [],PO.cells [PV.wr 0]]) ?kr ?_
   case kr=>kernel_rfl
   refine ?m0
   case m0=>exact endU rfl (.refl _) rfl rfl (r:=[]) rfl
 · cases hs
theorem row_rd {w w':World} {H:Hp} {v:Value} {e:TypeId} {F:List ByteArray} (h:w'.ownsRow w.heap.size e 1 v F.length (F.map Value.string)):Rd (Hall H w w') v (.dt .str F):=by
 have h0:=h
 rcases h.2 with ⟨rfl,hl⟩ | ⟨g,cap,cur,rfl,hg,hh,hnc,hcm,hcs,htake⟩
 · obtain rfl:=List.length_eq_zero_iff.1 hl
   exact QgQ rfl trivial
 · refine .slf (fun _=>rfl) (f:=.dt .str F) (k:=1) (n:=F.length) rfl trivial hnc hcm (fun hc=>by cases hc) g 0 (fun i j=>.string (F.getD i Sh.str.nil)) (fun _=>rfl) (fun i hi j hj=>?_) (fun i hi=>rfl) (fun i hi j x hx=>?_)
   · obtain rfl:j=0:=by omega
     have h1:=h0.cells (g:=g) rfl i (.string (F.getD i Sh.str.nil)) (by rw [List.getElem?_map,List.getElem?_eq_getElem hi,List.getD_eq_getElem?_getD,List.getElem?_eq_getElem hi]; rfl)
     unfold Hall
     rw [if_neg (by omega)]
     rw [QbX] at h1
     simp only [Nat.mul_one,Nat.add_zero,Nat.zero_add] at h1 ⊢
     exact h1
   · cases j with
     | zero=>cases hx; exact .v _ rfl
     | succ j=>cases hx
theorem Qqn (s:ByteArray):encStr (bs s)=Value.string s:=by
 obtain ⟨⟨l⟩⟩:=s; rfl
theorem QrV {A:Lz} {H:Hp} {B:Hd} {l:List (ByteArray × Value)} (hc:canL A) (hn:(l.map (·.1)).Nodup) (hor:∀ key:ByteArray,OR H B ((asc .str l key 0).map (·.2)) (Qbc .str (hasL A) (getL 5000 A) [] [] key)):(l.map (·.1)).Perm (A.map (·.1)):=by
 have hA:(A.map (·.1)).Nodup:=by
  clear hor
  induction A with
  | nil=>exact List.nodup_nil
  | cons x A ih =>
   obtain ⟨k,v⟩:=x
   refine List.nodup_cons.2 ⟨fun hm=>?_,ih hc.2.2⟩
   obtain ⟨y,hy,e⟩:=List.mem_map.1 hm
   exact Qkf hc.2.1 y hy e
 refine (List.perm_ext_iff_of_nodup hn hA).2 fun s=>?_
 have h:=hor s
 have e:Qbc .str (hasL A) (getL 5000 A) [] [] s=match hasL A s with | true=>some (Qbm (getL 5000 A s)) | false=>none:=rfl
 rw [e] at h
 constructor
 · intro hm
   cases hh:hasL A s with
   | true =>
    obtain ⟨x,hx,e⟩:=Qf1.1 hh
    exact List.mem_map.2 ⟨x,hx,e⟩
   | false =>
    rw [hh] at h
    cases ha:asc .str l s 0 with
    | none=>exact absurd hm (Qgb ha)
    | some p=>rw [ha] at h; exact h.elim
 · intro hm
   obtain ⟨x,hx,e⟩:=List.mem_map.1 hm
   rw [Qf1.2 ⟨x,hx,e⟩] at h
   refine Classical.byContradiction fun hn2=>?_
   rw [QlH hn2] at h
   exact h.elim
theorem QhY:∀ {A:Lz},canL A→(A.map fun x=>bs x.1).Pairwise (·≤·)
 | [],_=>List.Pairwise.nil
 | (k,v)::A,h=>by
  rw [List.map_cons,List.pairwise_cons]
  refine ⟨fun b hb=>?_,QhY h.2.2⟩
  obtain ⟨y,hy,rfl⟩:=List.mem_map.1 hb
  exact List.le_of_lt (h.2.1 y hy)
theorem sortsM (m:Nat):AnyZ.SortsIn Tryz.prog Tryz.sorted147_ren Fence.wide m :=
 ⟨fun blk off cap ss W hH hblk hsz=>callsIn_wide.2 (AnyM.slices_Sort_string Tryz.sort227 blk off cap ss W hH hblk hsz),
  fun p cap W=>callsIn_wide.2 (AnyM.slices_Sort_string_none Tryz.sort227 p cap W)⟩
set_option maxHeartbeats 1000000 in
theorem Qnz {H:Type} (c b nn:Nat) (D0:DataW H) (R:Value→Option (DataW H × List MemPlace)) (W:World) (hcl:c<W.heap.size) (hcell:W.cell? ⟨c,0,none⟩=some (.map (some b))) (hown:W.ownsMap Tryz.prog 9 R b nn D0) (hmax:Maps.size D0≤maxLen) (hbytes:Maps.size D0 * 16≤140737488355328) :
  CallsIn Fence.wide 5 Tryz.prog 147 #[.func (.func 228) #[] #[.pointer (some ⟨c,0,none⟩)]] W fun e w'=>∃ (v:Value) (ss:List (List UInt8)),e=.returned v∧ss.Perm (strKeys D0) ∧
   w'.ownsRow W.heap.size 9 1 v ss.length ((ss.mergeSort (fun x y=>decide (x≤y))).map encStr)∧(v=.slice none 0 0↔ss=[])∧Below W.heap.size W w':=by
 have hseq:SeqGives Fence.wide 2 Tryz.prog 228 #[.pointer (some ⟨c,0,none⟩)] encStr (fun ss=>ss.Perm (strKeys D0)) (Maps.size D0) W :=
  AnyZ.keys_gives (ρ:=Tryz.keys148_ren) { Tryz.keys148 with } Fence.wide _ trivial rfl (by omega) c b nn D0 W hcl hcell hown
 exact AnyZ.sorted_in Tryz.sorted147 Fence.wide 5 trivial trivial trivial trivial rfl (by omega) (sortsM _) (enters_of Tryz.func227 (by kernel_rfl) rfl) 228 #[.pointer (some ⟨c,0,none⟩)] trivial (enters_of Tryz.func228 (by kernel_rfl) rfl) _ _ hmax hbytes _ hseq
theorem QrX {es:Array MapEntry} {clock:Nat} {l:List (ByteArray × Value)} (he:Qop .str es clock l) (hl:l.length≤1000000) (hs:∀ s∈l.map (·.1),s.size≤maxLen) :
  WideElems.Fit (H:=Unit) Tryz.prog 9 (fun _=>some (.nil,[])) es clock∧(strKeys (.map ((es.toList.map (WideElems.rg (H:=Unit) Tryz.prog 9 (fun _=>some (.nil,[])))).foldr DataW.insert [])) |>.Perm (l.map fun p=>bs p.1))∧Maps.size (DataW.map ((es.toList.map (WideElems.rg (H:=Unit) Tryz.prog 9 (fun _=>some (.nil,[])))).foldr DataW.insert []))=l.length:=by
 obtain ⟨⟨h0,hn⟩,hst⟩:=he
 have hlen:es.toList.length=l.length:=by have:=congrArg List.length h0; simpa using this
 have key:∀ x∈es.toList,∃ s,s∈l.map (·.1)∧x.key=.string s:=by
  intro x hx
  have h1:(x.key,x.val)∈es.toList.map fun e=>(e.key,e.val):=List.mem_map.2 ⟨x,hx,rfl⟩
  unfold Ents0 at h0
  rw [h0] at h1
  obtain ⟨p,hp,hpe⟩:=List.mem_map.1 h1
  simp only [Prod.mk.injEq] at hpe
  exact ⟨p.1,List.mem_map.2 ⟨p,hp,rfl⟩,hpe.1.symm⟩
 have rdx:∀ x∈es.toList,∀ s,x.key=.string s→s∈l.map (·.1)→WideElems.rd (H:=Unit) Tryz.prog 9 (fun _=>some (.nil,[])) x=some (.string (bs s),.nil):=by
  intro x hx s hk hm
  unfold WideElems.rd
  rw [hk,Go.WideMaps.keyOf_string_mk Tryz.underlying9 (hs s hm)]
  rfl
 refine ⟨⟨by unfold maxLen; rw [← Array.length_toList,hlen]; omega,hst,fun x hx=>?_⟩,?_,?_⟩
 · obtain ⟨s,hm,hk⟩:=key x hx
   exact ⟨_,rdx x hx s hk hm⟩
 · have hp:=(sorted_perm (es.toList.map (WideElems.rg (H:=Unit) Tryz.prog 9 (fun _=>some (.nil,[]))))).map fun p=>strOf p.1
   refine List.Perm.trans hp ?_
   rw [List.map_map]
   have e:es.toList.map ((fun p:Lit × DataW Unit=>strOf p.1) ∘ WideElems.rg (H:=Unit) Tryz.prog 9 (fun _=>some (.nil,[])))=l.map fun p=>bs p.1:=by
    have e1:es.toList.map ((fun p:Lit × DataW Unit=>strOf p.1) ∘ WideElems.rg (H:=Unit) Tryz.prog 9 (fun _=>some (.nil,[])))=(es.toList.map fun e=>(e.key,e.val)).map fun q=>(match q.1 with | .string s=>bs s | _=>[]):=by
     rw [List.map_map]
     refine List.map_congr_left fun x hx=>?_
     obtain ⟨s,hm,hk⟩:=key x hx
     show strOf (WideElems.rg (H:=Unit) Tryz.prog 9 (fun _=>some (.nil,[])) x).1=(match x.key with | .string s=>bs s | _=>[])
     rw [WideElems.rg_of (rdx x hx s hk hm),hk]
     rfl
    unfold Ents0 at h0
    rw [e1,h0,List.map_map]
    rfl
   rw [e]
 · show (List.foldr DataW.insert [] _).length=_
   rw [(sorted_perm _).length_eq,List.length_map,hlen]
set_option maxHeartbeats 1000000 in
theorem Qr7 {E:Env}:Contract2 Tryz.prog E 147 sSortedM:=by
 intro xs ob o hs hok K w g vs hlo hO hbd hE hv
 unfold sSortedM at hs
 split at hs
 · rename_i f has get
   split at hs
   · rename_i hf
     cases hs
     have hf:=Nat.eq_of_beq_eq_true hf
     subst hf
     obtain ⟨⟨A,hc,hf5,⟨hlen,hsz⟩,rfl,rfl⟩,-⟩:=hok
     obtain ⟨v0,rfl⟩:∃ v0,vs=[v0]:=by
      match vs,hv.1 with
      | [v0],_=>exact ⟨v0,rfl⟩
     have q0:=hv.2 0 _ _ rfl rfl
     cases q0 with
     | @fn _ us ws _ _ hm h1 hn h2 =>
      obtain rfl:us=#[]:=Array.eq_empty_of_size_eq_zero hm
      obtain ⟨p,rfl⟩:∃ p,ws=#[p]:=by
       obtain ⟨L⟩:=ws
       match L,hn with
       | [p],_=>exact ⟨p,rfl⟩
      have hp:=h2 0 p (.bp 0 0) rfl rfl
      cases hp with
      | @bp _ _ c hB0 =>
       obtain ⟨c',ws',hcu,hbox,hwl,hw1,-,-⟩:=hO.hold 0 _ _ rfl hB0
       cases hcu
       obtain ⟨m,rfl⟩:∃ m,ws'=[m]:=by
        match ws',hwl with
        | [m],_=>exact ⟨m,rfl⟩
       have hm1:=hw1 0 m (.wr 1) rfl rfl
       cases hm1 with
       | wr hB1 _ =>
        obtain ⟨b,es,clock,l,rfl,e1,e2,e3,e4,e5⟩:=hO.hold 1 _ _ rfl hB1
        have hperm:=QrV hc e2.1.2 e5
        have hll:l.length=A.length:=by have:=hperm.length_eq; simpa using this
        obtain ⟨F,hk,hsize⟩:=QrX e2 (by omega) (fun s hm=>by
         obtain ⟨x,hx,rfl⟩:=List.mem_map.1 (hperm.mem_iff.1 hm)
         exact hsz x hx)
        have hcell:w.cell? ⟨c,0,none⟩=some (.map (some b)):=hbox.cells 0 (Nat.lt_succ_self 0)
        have hrun:=(callsIn_wide (n:=5)).1 (Qnz c b es.size _ _ w hbox.lt hcell ⟨es,clock,e1,F,Nat.le_refl _,rfl⟩ (by rw [hsize]; unfold maxLen; omega) (by rw [hsize]; omega))
        refine hrun.mono ?_
        rintro e w' ⟨v,ss,rfl,hS,hrow,hnil,hbel⟩
        have hsort:ss.mergeSort (fun x y=>decide (x≤y))=A.map fun x=>bs x.1:=by
         have hP:ss.Perm (A.map fun x=>bs x.1):=by
          refine hS.trans (hk.trans ?_)
          have:=hperm.map bs
          rw [List.map_map,List.map_map] at this
          exact this
         rw [show ss.mergeSort (fun x y=>decide (x≤y))=(A.map fun x=>bs x.1).mergeSort (fun x y=>decide (x≤y)) from mergeSort_of_perm hP]
         exact List.mergeSort_of_pairwise ((QhY hc).imp fun h=>decide_eq_true h)
        have hsl:ss.length=(A.map (·.1)).length:=by
         have:=congrArg List.length hsort
         rw [List.length_mergeSort] at this
         rw [this,List.length_map,List.length_map]
        have henc:(ss.mergeSort (fun x y=>decide (x≤y))).map encStr=(A.map (·.1)).map Value.string:=by
         rw [hsort,List.map_map,List.map_map]
         exact List.map_congr_left fun x _=>Qqn x.1
        rw [henc,hsl] at hrow
        have hX:=QbS hO.fro hbel
        refine ⟨⟨Hall g.H w w',g.B⟩,v,(ExtK.refl hO.fro hlo).trans hX,hO.ext hX,hbd,fun i p h=>h.1,?_,rfl⟩
        show PR _ _ v (.f (.dt .str ((lzOf 5000 (hasL A) (getL 5000 A)).map (·.1))))
        rw [Qbe hc]
        exact .f (row_rd hrow)
   · cases hs
 · cases hs
theorem QqI {E:Env} (hU:Up E):Contract2 Tryz.prog E 71 sParts:=cParts hU (cKeysM hU) Qr7
end Go.Proofs.YtmbmbcamecfnkaaGreatDoor
