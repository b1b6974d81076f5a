/- What is proved here: the reference's Add, Sub and Move of amounts in a store. Their conditions: sizes. the reference's Move of amounts in a store. Its conditions: sizes. entries put: their order, what stays, amounts in bytes and back. Conditions: keys in order, words below 2^64. package exit's small functions of the program: wad.Scale, u256.Min, factor.Scaled, Pays, Left. Their conditions: words below 2^64, ints below -/
import Derived.Test.YtnkilceibkkjlaaGreatHRCell
import Derived.Test.YtnkilceibkkjlaaGreatHRFacA
import Derived.Test.YtnkilceibkkjlaaGreatHHoldD
set_option maxRecDepth 100000
set_option maxHeartbeats 16000000
namespace Go.Proofs.YtnkilceibkkjlaaGreat
open Go.RowKit
abbrev FV (b:Nat) (w:World) (L:List Nat) (s:St) (rs:List (Nat × Obj)) (W:World):Prop:=QV (FRep b) w L s rs W
theorem FV.start {b:Nat} {w:World} {L:List Nat} {s:St} (h:RRep w b s L):FV b w L s [] w:=QV.start (fRep_ok b) h
def ROn (w:World) (b:Nat) (L:List Nat) (s:St) (W:World):Prop:=∃ L',RRep W b s L'∧Step w L W L'
theorem FV.done {b:Nat} {w W:World} {L:List Nat} {s:St} {rs:List (Nat × Obj)} (h:FV b w L s rs W):ROn w b L s W:=QV.done h
theorem FV.camt {b:Nat} {w W:World} {L:List Nat} {s:St} {rs:List (Nat × Obj)} {f:Nat} (hq:FV b w L s rs W) (hf:s.Fit f) (hm:f < 100000000000) (k:ByteArray):Calls Tryz.prog 91 #[.pointer (some ⟨b,0,none⟩),.string k] W fun e W'=>e = .returned (uV (s.amt k))∧Below W.heap.size W W':=by
 obtain ⟨L',h1,_⟩:=hq.on
 exact ramt_any W b s L' k h1 (by have:=hf.size; unfold St.size at this; omega)
theorem FV.cset {b:Nat} {w W:World} {L:List Nat} {s:St} {rs:List (Nat × Obj)} (hq:FV b w L s rs W) (hz:s.size < 1000000000000) (k:ByteArray) (x:W4):Calls Tryz.prog 134 #[.pointer (some ⟨b,0,none⟩),.string k,uV x] W fun e W'=>e = .returned (.tuple #[])∧FV b w L (s.setAmt k x) rs W' :=
 QV.call hq fun L' h1=>(rsetAmt_any W b s L' k x h1 hz).mono fun _ _ ⟨he,h2⟩=>⟨he,h2.2⟩
abbrev H1:Hand:=⟨none,true,[]⟩
end Go.Proofs.YtnkilceibkkjlaaGreat
namespace Go.Proofs.YtnkilceibkkjlaaGreat
open Go.RowKit
theorem getE_put {s:St} (hs:Sorted s.ents) (k v j:ByteArray):getE (s.put k v).ents j=if k=j then (if v=emptyB then none else if k=emptyB then getE s.ents j else some v) else getE s.ents j:=by
 unfold St.put
 by_cases hv:v=emptyB
 ·rw [if_pos hv,if_pos hv]
  unfold St.del
  split
  ·exact getE_delE _ hs _ _
  ·rename_i h
   by_cases hj:k=j
   ·subst hj
    rw [if_pos rfl]
    cases hg:getE s.ents k with
    | none=>rfl
    | some u=>rw [hg] at h; exact absurd rfl h
   ·rw [if_neg hj]
 ·rw [if_neg hv,if_neg hv]
  by_cases hk:k=emptyB
  ·rw [if_pos hk,if_pos hk]; split <;> rfl
  ·rw [if_neg hk,if_neg hk]
   unfold St.set
   split
   ·rename_i h
    by_cases hj:k=j
    ·subst hj; rw [if_pos rfl]; exact h
    ·rw [if_neg hj]
   ·exact getE_putE _ hs _ _ _
theorem keyL_first {t:Nat} {l:List Int} (h:∀ n∈l,¬ n < 0):(keyL t l).data[0]? = some (UInt8.ofNat t):=by
 rw [keyL_pos h]
 show (keyBytes t l).toArray[0]? = _
 unfold keyBytes
 simp
theorem uByte_nat (x:W4) (i:Nat):(uByte x i).toNat=x.at ((31 - i) / 8) / 2 ^ (8*((31 - i) % 8)) % 256:=rfl
theorem top_step (v p:Nat) (hp:p < 8):v / 2 ^ (8*(p+1))*2 ^ (8*(p+1))+v / 2 ^ (8*p) % 256*2 ^ (8*p)=v / 2 ^ (8*p)*2 ^ (8*p):=by
 match p,hp with
 | 0,_ | 1,_ | 2,_ | 3,_ | 4,_ | 5,_ | 6,_ | 7,_=>simp only [Nat.reduceMul,Nat.reduceAdd,Nat.reducePow]; omega
theorem uFrom_at (f:Nat→Nat) (x:W4) (hx:x.Ok) (hf:∀ i,i < 32→f i=x.at ((31 - i) / 8) / 2 ^ (8*((31 - i) % 8)) % 256):∀ i,i≤32→∀ j,j < 4→(uFrom f i).at j=x.at j / 2 ^ (8*min 8 (32 - i - 8*j))*2 ^ (8*min 8 (32 - i - 8*j))
 | 0,_,j,hj=>by
  have h8:min 8 (32 - 0 - 8*j)=8:=by omega
  rw [h8]
  have h0:x.at j / 2 ^ (8*8)=0:=Nat.div_eq_of_lt (hx.at j)
  rw [h0,Nat.zero_mul]
  match j,hj with
  | 0,_ | 1,_ | 2,_ | 3,_=>rfl
 | i+1,hi,j,hj=>by
  have ih:=uFrom_at f x hx hf i (by omega)
  have hk:(31 - i) / 8 < 4:=by omega
  show ((uFrom f i).set ((31 - i) / 8) ((uFrom f i).at ((31 - i) / 8)+f i*2 ^ (8*((31 - i) % 8)))).at j=_
  rw [set_at _ _ _ _ hk hj]
  by_cases e:(31 - i) / 8=j
  ·rw [if_pos e,ih _ hk,hf i (by omega),e]
   have e1:min 8 (32 - i - 8*j)=(31 - i) % 8+1:=by omega
   have e2:min 8 (32 - (i+1) - 8*j)=(31 - i) % 8:=by omega
   rw [e1,e2]
   exact top_step _ _ (Nat.mod_lt _ (by decide))
  ·rw [if_neg e,ih j hj]
   have e1:min 8 (32 - i - 8*j)=min 8 (32 - (i+1) - 8*j):=by omega
   rw [e1]
theorem amtB_size (x:W4):(amtB x).size=32:=by
 show (amtL x).toArray.size=32
 simp [amtL]
theorem amtB_at (x:W4) (i:Nat) (hi:i < 32):(amtB x).data.getD i 0=uByte x i:=by
 show (amtL x).toArray.getD i 0=_
 have:(amtL x).toArray[i]? = some (uByte x i):=by
  unfold amtL
  rw [List.getElem?_toArray,List.getElem?_map,List.getElem?_range hi]; rfl
 rw [Array.getD_eq_getD_getElem?,this]; rfl
theorem toAmt_amtB {x:W4} (hx:x.Ok):toAmt (amtB x)=x:=by
 unfold toAmt
 rw [if_pos (amtB_size x)]
 refine uCmp_eq fun j hj => ?_
 rw [uFrom_at _ x hx (fun i hi=>by rw [amtB_at x i hi,uByte_nat]) 32 (Nat.le_refl _) j hj]
 have:min 8 (32 - 32 - 8*j)=0:=by omega
 rw [this,Nat.mul_zero,Nat.pow_zero,Nat.div_one,Nat.mul_one]
theorem amt_own {s:St} (hs:Sorted s.ents) {k:ByteArray} (hk:k≠emptyB) {x:W4} (hx:x.Ok):(s.setAmt k x).amt k=x:=by
 unfold St.amt St.val St.setAmt
 rw [getE_put hs,if_pos rfl]
 by_cases h0:x=(0,0,0,0)
 ·rw [if_pos h0,if_pos rfl]
  subst h0
  show toAmt emptyB=_
  unfold toAmt
  rw [if_neg (by decide)]
 ·rw [if_neg h0,if_neg (fun e=>by have:=congrArg ByteArray.size e; rw [amtB_size] at this; exact absurd this (by decide)),if_neg hk]
  exact toAmt_amtB hx
def scW (a t f:W4):W4:=if uN f=0 then (0,0,0,0) else dnW a t f
def scB (a t f:W4):Bool:=if uN f=0 then decide (uN a=0) else dnB a t f
theorem scale1_any (a t f:W4) (ha:a.Ok) (ht:t.Ok) (hf:f.Ok) (p q r:Nat) (w:World) (hp:w.heap[p]? = some (.cells (uL a) 24 (0,0))) (hq:w.heap[q]? = some (.cells (uL t) 24 (0,0))) (hr:w.heap[r]? = some (.cells (uL f) 24 (0,0))) :
  Calls Tryz.prog 129 #[.pointer (some ⟨p,0,none⟩),.pointer (some ⟨q,0,none⟩),.pointer (some ⟨r,0,none⟩)] w fun e w'=>e = .returned (.tuple #[uV (dnW a t f),.bool (dnB a t f)])∧Below w.heap.size w w':=by
 have HU:Hid (∀ W,Below w.heap.size w W∧W.heap[w.heap.size]? = some (.cells (uL (0,0,0,0)) 24 (0,0))→Calls Tryz.prog 111 #[uV a,uV t,uV f] W fun e w'=>e = .returned (.tuple #[uV (dnW a t f),.bool (dnB a t f)])∧Below w.heap.size w w'∧w'.heap[w.heap.size]? = some (.cells (uL (0,0,0,0)) 24 (0,0))):=fun W hW =>
  (mdn_any a t f ha ht hf W).mono fun e w' ⟨he,hb⟩=>⟨he,bl_then hW.1 hb,(hb.block _ (lt_of_at hW.2)).trans hW.2⟩
 have H0:Hid (Below w.heap.size w (w.alloc (.cells #[.int .u64 0,.int .u64 0,.int .u64 0,.int .u64 0] 24))∧(w.alloc (.cells #[.int .u64 0,.int .u64 0,.int .u64 0,.int .u64 0] 24)).heap[w.heap.size]? = some (.cells (uL (0,0,0,0)) 24 (0,0))):=⟨bl_alloc (Below.refl _ _) _,heap_alloc_new _ _⟩
 obtain ⟨a0,a1,a2,a3,_⟩:=row4 ((H0.out.1.block _ (lt_of_at hp)).trans hp)
 obtain ⟨b0,b1,b2,b3,_⟩:=row4 ((H0.out.1.block _ (lt_of_at hq)).trans hq)
 obtain ⟨c0,c1,c2,c3,_⟩:=row4 ((H0.out.1.block _ (lt_of_at hr)).trans hr)
 clear hp hq hr
 obtain ⟨u,hu⟩:∃ u,u=dnW a t f:=⟨_,rfl⟩
 obtain ⟨v,hv⟩:∃ v,v=dnB a t f:=⟨_,rfl⟩
 rw [← hu,← hv] at HU ⊢
 clear hu hv
 go_enter Tryz.func129,Tryz.ntmps129
 go_wp2_with fail
 refine Calls.mono (HU.out _ H0.out) ?_
 rintro e w3 ⟨rfl,hb3,hz⟩
 obtain ⟨z0,z1,z2,z3,z4,z5,z6,z7⟩:=row4 hz
 have HZ:=Lib.hid (put4 hz u)
 have HB:=Lib.hid (put4_below (n:=w.heap.size) hb3 (Nat.le_refl _) (.int .u64 u.1) (.int .u64 u.2.1) (.int .u64 u.2.2.1) (.int .u64 u.2.2.2))
 clear hz hb3 HU H0
 go_wp2_with fail
 refine bodyPost_ret (results_cell_row2 rfl _ _ (w.heap.size) 24 (uL u) (0,0) _ rfl HZ.out Tryz.underlying24 rfl (by kernel_rfl)) rfl ?_
 exact ⟨rfl,HB.out⟩
theorem scale_any (a t f:W4) (ha:a.Ok) (ht:t.Ok) (hf:f.Ok) (w:World):Calls Tryz.prog 59 #[uV a,uV t,uV f] w fun e w'=>e = .returned (.tuple #[uV (scW a t f),.bool (scB a t f)])∧Below w.heap.size w w':=by
 have HV:=VAt.start w [a,t,f,(0,0,0,0)]
 have HV0:=VAt.vr (l:=[a,t,f]) HV
 have he:scW a t f=(if f=(0,0,0,0) then (0,0,0,0) else dnW a t f)∧scB a t f=(if f=(0,0,0,0) then decide (a=(0,0,0,0)) else dnB a t f):=by
  unfold scW scB
  simp only [u0_iff,and_self]
 have HS:Hid (∀ W,VR w [a,t,f] 3 W→Calls Tryz.prog 128 #[uV a,uV f,.func (.func 129) #[] #[.pointer (some ⟨w.heap.size,0,none⟩),.pointer (some ⟨w.heap.size+1,0,none⟩),.pointer (some ⟨w.heap.size+1+1,0,none⟩)]] W fun e w'=>e = .returned (.tuple #[uV (scW a t f),.bool (scB a t f)])∧VR w [a,t,f] 3 w'):=fun W hW=>by
  rw [he.1,he.2]
  refine (scaled_any a f _ _ (dnW a t f) (dnB a t f) W (by kernel_rfl) fun _ W' hb => ?_).mono fun e w' ⟨he,hb⟩=>⟨he,hW.below hb⟩
  have hW':=hW.below hb
  exact scale1_any a t f ha ht hf _ _ _ W' (hW'.r 0 a rfl) (hW'.r 1 t rfl) (hW'.r 2 f rfl)
 have HV1:=Lib.hid HV0
 obtain ⟨u,hu⟩:∃ u,u=scW a t f:=⟨_,rfl⟩
 obtain ⟨v,hv⟩:∃ v,v=scB a t f:=⟨_,rfl⟩
 rw [← hu,← hv] at HS ⊢
 clear hu hv he HV0 HV
 go_enter Tryz.func59,Tryz.ntmps59
 go_wp2_with fail
 refine Calls.mono (HS.out _ HV1.out) ?_
 rintro e w3 ⟨rfl,hV3⟩
 obtain ⟨z,z0,z1,z2,z3,z4,z5,z6,z7⟩:=hV3.zc
 have HR:=Lib.hid (hV3.res u)
 clear hV3 HV1 HS
 go_wp2_with fail
 refine bodyPost_ret (results_cell_row2 rfl _ _ (w.heap.size+3) 24 (uL u) (0,0) _ rfl HR.out.2 Tryz.underlying24 rfl (by kernel_rfl)) rfl ?_
 exact ⟨rfl,HR.out.1⟩
theorem scW_ok (a t f:W4):(scW a t f).Ok:=by
 unfold scW; split
 ·exact u0_ok
 ·unfold dnW; split
  ·exact u0_ok
  ·exact toW_ok _
def minW (a b:W4):W4:=if uN a≤uN b then a else b
theorem umin_any (a b:W4) (ha:a.Ok) (hb:b.Ok) (w:World):Calls Tryz.prog 113 #[uV a,uV b] w fun e w'=>e = .returned (uV (minW a b))∧Below w.heap.size w w':=by
 have hB:=(((BV.start w).alloc (uO a)).alloc (uO b)).alloc zO
 simp only [World.size_alloc] at hB
 have HC:Hid (∀ rs W,BV w rs W→Calls Tryz.prog 58 #[uV a,uV b] W fun e w'=>e = .returned (.int .i64 (uCmp a b))∧BV w rs w'):=fun rs W h=>h.reads (ucmp_any a b ha hb W)
 obtain ⟨a0,a1,a2,a3,_⟩:=row4 (hB.u4 (g:=w.heap.size) (x:=a) (by simp))
 obtain ⟨b0,b1,b2,b3,_⟩:=row4 (hB.u4 (g:=w.heap.size+1) (x:=b) (by simp))
 have hlaw:(uCmp a b≤0→minW a b=a)∧(0 < uCmp a b→minW a b=b):=by
  unfold minW
  rw [uCmp_le0]
  exact ⟨fun h=>if_pos h,fun h=>if_neg (by rw [← uCmp_le0]; omega)⟩
 have HL:=Lib.hid hlaw
 have HB:=Lib.hid hB
 clear hB hlaw
 generalize minW a b=mw at *
 generalize uCmp a b=cv at *
 go_enter Tryz.func113,Tryz.ntmps113
 go_wp2_with fail
 refine Calls.mono (HC.out _ _ HB.out) ?_
 rintro e w3 ⟨rfl,hB3⟩
 clear a0 a1 a2 a3 b0 b1 b2 b3 HB HC
 obtain ⟨a0,a1,a2,a3,_⟩:=row4 (hB3.u4 (g:=w.heap.size) (x:=a) (by simp))
 obtain ⟨b0,b1,b2,b3,_⟩:=row4 (hB3.u4 (g:=w.heap.size+1) (x:=b) (by simp))
 have hz:=hB3.u4 (g:=w.heap.size+1+1) (x:=(0,0,0,0)) (by simp)
 obtain ⟨z0,z1,z2,z3,z4,z5,z6,z7⟩:=row4 hz
 by_cases hc:cv≤0
 ·have h1:=HL.out.1 hc
  subst h1
  have HZ:=Lib.hid (put4 hz mw)
  have HBB:=Lib.hid (put4_below (BV.bl hB3) (show w.heap.size≤w.heap.size+1+1 by omega) (.int .u64 mw.1) (.int .u64 mw.2.1) (.int .u64 mw.2.2.1) (.int .u64 mw.2.2.2))
  clear hz hB3 HL
  go_wp2_with fail
  refine bodyPost_ret (results_cell_row rfl _ _ (w.heap.size+1+1) 24 (uL mw) (0,0) _ rfl HZ.out Tryz.underlying24 rfl (by kernel_rfl)) rfl ?_
  exact ⟨rfl,HBB.out⟩
 ·have h1:=HL.out.2 (Int.not_le.1 hc)
  subst h1
  have HZ:=Lib.hid (put4 hz mw)
  have HBB:=Lib.hid (put4_below (BV.bl hB3) (show w.heap.size≤w.heap.size+1+1 by omega) (.int .u64 mw.1) (.int .u64 mw.2.1) (.int .u64 mw.2.2.1) (.int .u64 mw.2.2.2))
  clear hz hB3 HL
  go_wp2_with fail
  refine bodyPost_ret (results_cell_row rfl _ _ (w.heap.size+1+1) 24 (uL mw) (0,0) _ rfl HZ.out Tryz.underlying24 rfl (by kernel_rfl)) rfl ?_
  exact ⟨rfl,HBB.out⟩
structure Ex where
 st:Int
 op:Int
 sg:Int
 bl:Int
 wo:W4
 mx:W4
def Ex.L (x:Ex):Array Value:=#[.int .i64 x.st,.int .i64 x.op,.int .i64 x.sg,.int .i64 x.bl,.int .u64 x.wo.1,.int .u64 x.wo.2.1,.int .u64 x.wo.2.2.1,.int .u64 x.wo.2.2.2,.int .u64 x.mx.1,.int .u64 x.mx.2.1,.int .u64 x.mx.2.2.1,.int .u64 x.mx.2.2.2]
abbrev exO (x:Ex):Obj:=.cells x.L 26
structure Ex.Ok (x:Ex):Prop where
 st:I63 x.st
 op:I63 x.op
 sg:I63 x.sg
 bl:I63 x.bl
 wo:x.wo.Ok
 mx:x.mx.Ok
theorem rowE {w:World} {g:Nat} {x:Ex} (h:w.heap[g]? = some (exO x)):(w.cell? ⟨g,0,none⟩=some (.int .i64 x.st)∧w.cell? ⟨g,1,none⟩=some (.int .i64 x.op)∧w.cell? ⟨g,2,none⟩=some (.int .i64 x.sg)∧w.cell? ⟨g,3,none⟩=some (.int .i64 x.bl)) ∧
  (w.cell? ⟨g,4,none⟩=some (.int .u64 x.wo.1)∧w.cell? ⟨g,5,none⟩=some (.int .u64 x.wo.2.1)∧w.cell? ⟨g,6,none⟩=some (.int .u64 x.wo.2.2.1)∧w.cell? ⟨g,7,none⟩=some (.int .u64 x.wo.2.2.2)) ∧
  (w.cell? ⟨g,8,none⟩=some (.int .u64 x.mx.1)∧w.cell? ⟨g,9,none⟩=some (.int .u64 x.mx.2.1)∧w.cell? ⟨g,10,none⟩=some (.int .u64 x.mx.2.2.1)∧w.cell? ⟨g,11,none⟩=some (.int .u64 x.mx.2.2.2)):=by
 have hc:∀ o v,x.L[o]? = some v→w.cell? ⟨g,o,none⟩=some v:=fun o v hv=>by rw [cell_of_row _ _ _ _ _ _ h]; exact hv
 exact ⟨⟨hc 0 _ rfl,hc 1 _ rfl,hc 2 _ rfl,hc 3 _ rfl⟩,⟨hc 4 _ rfl,hc 5 _ rfl,hc 6 _ rfl,hc 7 _ rfl⟩,⟨hc 8 _ rfl,hc 9 _ rfl,hc 10 _ rfl,hc 11 _ rfl⟩⟩
def paysW (x:Ex) (m:W4):W4:=if x.op=0 then x.wo else if uN x.mx < uN m then (0,0,0,0) else scW x.wo m x.mx
theorem paysW_ok {x:Ex} (h:x.wo.Ok) (m:W4):(paysW x m).Ok:=by
 unfold paysW; split
 ·exact h
 ·split
  ·exact u0_ok
  ·exact scW_ok _ _ _
theorem pays_any (x:Ex) (m:W4) (hwo:x.wo.Ok) (hmx:x.mx.Ok) (hm:m.Ok) (w:World):Calls Tryz.prog 13 #[.agg x.L,uV m] w fun e w'=>e = .returned (uV (paysW x m))∧Below w.heap.size w w':=by
 have hB:=(((BV.start w).alloc (exO x)).alloc (uO m)).alloc zO
 simp only [World.size_alloc] at hB
 have HC:Hid (∀ rs W,BV w rs W→Calls Tryz.prog 58 #[uV m,uV x.mx] W fun e w'=>e = .returned (.int .i64 (uCmp m x.mx))∧BV w rs w'):=fun rs W h=>h.reads (ucmp_any m x.mx hm hmx W)
 have HS:Hid (∀ rs W,BV w rs W→Calls Tryz.prog 59 #[uV x.wo,uV m,uV x.mx] W fun e w'=>e = .returned (.tuple #[uV (scW x.wo m x.mx),.bool (scB x.wo m x.mx)])∧BV w rs w'):=fun rs W h=>h.reads (scale_any x.wo m x.mx hwo hm hmx W)
 have hlaw:(x.op=0→paysW x m=x.wo)∧(x.op≠0→0 < uCmp m x.mx→paysW x m=(0,0,0,0))∧(x.op≠0→uCmp m x.mx≤0→paysW x m=scW x.wo m x.mx):=by
  unfold paysW
  rw [uCmp_gt0,uCmp_le0]
  refine ⟨fun h=>if_pos h,fun h h2=>by rw [if_neg h,if_pos h2],fun h h2=>by rw [if_neg h,if_neg (by omega)]⟩
 have HL:=Lib.hid hlaw
 have HB:=Lib.hid hB
 clear hlaw hwo hmx hm
 generalize paysW x m=pw at *
 generalize uCmp m x.mx=cv at *
 generalize scW x.wo m x.mx=sw at *
 generalize scB x.wo m x.mx=sb at *
 obtain ⟨xs,xo,xt,xb,W,M⟩:=x
 dsimp only [exO,Ex.L] at HL HB HC HS ⊢
 clear hB
 go_enter Tryz.func13,Tryz.ntmps13
 go_upto_region 1 with fail
 generalize ((w.alloc (.cells #[.int .i64 xs,.int .i64 xo,.int .i64 xt,.int .i64 xb,.int .u64 W.1,.int .u64 W.2.1,.int .u64 W.2.2.1,.int .u64 W.2.2.2,.int .u64 M.1,.int .u64 M.2.1,.int .u64 M.2.2.1,.int .u64 M.2.2.2] 26)).alloc (.cells (uL m) 24)).alloc zO=w4 at *
 have hB:=HB.out
 obtain ⟨⟨k0,k1,k2,k3⟩,⟨p0,p1,p2,p3⟩,⟨q0,q1,q2,q3⟩⟩:=rowE (x:=⟨xs,xo,xt,xb,W,M⟩) (hB.row (g:=w.heap.size) (o:=(.cells #[.int .i64 xs,.int .i64 xo,.int .i64 xt,.int .i64 xb,.int .u64 W.1,.int .u64 W.2.1,.int .u64 W.2.2.1,.int .u64 W.2.2.2,.int .u64 M.1,.int .u64 M.2.1,.int .u64 M.2.2.1,.int .u64 M.2.2.2] 26)) (by simp))
 obtain ⟨m0,m1,m2,m3,_⟩:=row4 (hB.u4 (g:=w.heap.size+1) (x:=m) (by simp))
 have hz:=hB.u4 (g:=w.heap.size+1+1) (x:=(0,0,0,0)) (by simp)
 obtain ⟨z0,z1,z2,z3,z4,z5,z6,z7⟩:=row4 hz
 by_cases h0:xo=0
 ·have h1:=HL.out.1 h0
  subst h1
  clear HL HB HC HS
  have HZ:=Lib.hid (put4 hz pw)
  have HBB:=Lib.hid (put4_below (BV.bl hB) (show w.heap.size≤w.heap.size+1+1 by omega) (.int .u64 pw.1) (.int .u64 pw.2.1) (.int .u64 pw.2.2.1) (.int .u64 pw.2.2.2))
  clear hz hB
  go_wp2_with fail
  refine bodyPost_ret (results_cell_row rfl _ _ (w.heap.size+1+1) 24 (uL pw) (0,0) _ rfl HZ.out Tryz.underlying24 rfl (by kernel_rfl)) rfl ?_
  exact ⟨rfl,HBB.out⟩
 ·have HX0:=Lib.hid h0
  clear hz hB
  go_wp2_with fail
  refine Calls.mono (HC.out _ _ HB.out) ?_
  rintro e w5 ⟨rfl,hB⟩
  clear k0 k1 k2 k3 p0 p1 p2 p3 q0 q1 q2 q3 m0 m1 m2 m3 z0 z1 z2 z3 z4 z5 z6 z7 HB HC
  obtain ⟨⟨k0,k1,k2,k3⟩,⟨p0,p1,p2,p3⟩,⟨q0,q1,q2,q3⟩⟩:=rowE (x:=⟨xs,xo,xt,xb,W,M⟩) (hB.row (g:=w.heap.size) (o:=(.cells #[.int .i64 xs,.int .i64 xo,.int .i64 xt,.int .i64 xb,.int .u64 W.1,.int .u64 W.2.1,.int .u64 W.2.2.1,.int .u64 W.2.2.2,.int .u64 M.1,.int .u64 M.2.1,.int .u64 M.2.2.1,.int .u64 M.2.2.2] 26)) (by simp))
  obtain ⟨m0,m1,m2,m3,_⟩:=row4 (hB.u4 (g:=w.heap.size+1) (x:=m) (by simp))
  have hz:=hB.u4 (g:=w.heap.size+1+1) (x:=(0,0,0,0)) (by simp)
  obtain ⟨z0,z1,z2,z3,z4,z5,z6,z7⟩:=row4 hz
  by_cases hc:0 < cv
  ·have h1:=HL.out.2.1 HX0.out hc
   subst h1
   clear HL HS
   have HZ:=Lib.hid (put4 hz (0,0,0,0))
   have HBB:=Lib.hid (put4_below (BV.bl hB) (show w.heap.size≤w.heap.size+1+1 by omega) (.int .u64 ((0,0,0,0):W4).1) (.int .u64 ((0,0,0,0):W4).2.1) (.int .u64 ((0,0,0,0):W4).2.2.1) (.int .u64 ((0,0,0,0):W4).2.2.2))
   clear hz hB
   go_wp2_with fail
   refine bodyPost_ret (results_cell_row rfl _ _ (w.heap.size+1+1) 24 (uL (0,0,0,0)) (0,0) _ rfl HZ.out Tryz.underlying24 rfl (by kernel_rfl)) rfl ?_
   exact ⟨rfl,HBB.out⟩
  ·have h1:=HL.out.2.2 HX0.out (Int.not_lt.1 hc)
   subst h1
   have HB:=Lib.hid hB
   clear HL hz hB
   go_wp2_with fail
   refine Calls.mono (HS.out _ _ HB.out) ?_
   rintro e w6 ⟨rfl,hB⟩
   have hB7:=hB.alloc (uO pw)
   clear k0 k1 k2 k3 p0 p1 p2 p3 q0 q1 q2 q3 m0 m1 m2 m3 z0 z1 z2 z3 z4 z5 z6 z7 HB HS hB
   go_upto_region 6 with fail
   generalize w6.alloc (uO pw)=w7 at *
   generalize w6.heap.size=g1 at *
   obtain ⟨a0,a1,a2,a3,_⟩:=row4 (hB7.u4 (g:=g1) (x:=pw) (by simp))
   have hz:=hB7.u4 (g:=w.heap.size+1+1) (x:=(0,0,0,0)) (by simp)
   obtain ⟨z0,z1,z2,z3,z4,z5,z6,z7⟩:=row4 hz
   have HZ:=Lib.hid (put4 hz pw)
   have HBB:=Lib.hid (put4_below (BV.bl hB7) (show w.heap.size≤w.heap.size+1+1 by omega) (.int .u64 pw.1) (.int .u64 pw.2.1) (.int .u64 pw.2.2.1) (.int .u64 pw.2.2.2))
   clear hz hB7
   go_wp2_with fail
   refine bodyPost_ret (results_cell_row rfl _ _ (w.heap.size+1+1) 24 (uL pw) (0,0) _ rfl HZ.out Tryz.underlying24 rfl (by kernel_rfl)) rfl ?_
   exact ⟨rfl,HBB.out⟩
end Go.Proofs.YtnkilceibkkjlaaGreat
