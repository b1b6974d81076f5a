/- What is proved here: package exit's small functions of the program: wad.Scale, u256.Min, factor.Scaled, Pays, Left. Their conditions: words below 2^64, ints below 2^63. a withdrawal and an amount, opened. No condition. -/
import Derived.Test.YtnkilceibkkjlaaGreatFHoldD
import Derived.Test.YtnkilceibkkjlaaGreatFOpenInts
import Derived.OpenShut
set_option maxRecDepth 100000
set_option maxHeartbeats 16000000
namespace Go.Proofs.YtnkilceibkkjlaaGreat
open Go.RowKit
def scW (a t f:W4):W4:=if uN f=0 then (0,0,0,0) else dnW a t f
def scB (a t f:W4):Bool:=if uN f=0 then decide (uN a=0) else dnB a t f
theorem scale1_any (a t f:W4) (ha:a.Ok) (ht:t.Ok) (hf:f.Ok) (p q r:Nat) (w:World) (hp:w.heap[p]? = some (.cells (uL a) 24 (0,0))) (hq:w.heap[q]? = some (.cells (uL t) 24 (0,0))) (hr:w.heap[r]? = some (.cells (uL f) 24 (0,0))) :
  Calls Tryz.prog 129 #[.pointer (some ⟨p,0,none⟩),.pointer (some ⟨q,0,none⟩),.pointer (some ⟨r,0,none⟩)] w fun e w'=>e = .returned (.tuple #[uV (dnW a t f),.bool (dnB a t f)])∧Below w.heap.size w w':=by
 have HU:Hid (∀ W,Below w.heap.size w W∧W.heap[w.heap.size]? = some (.cells (uL (0,0,0,0)) 24 (0,0))→Calls Tryz.prog 111 #[uV a,uV t,uV f] W fun e w'=>e = .returned (.tuple #[uV (dnW a t f),.bool (dnB a t f)])∧Below w.heap.size w w'∧w'.heap[w.heap.size]? = some (.cells (uL (0,0,0,0)) 24 (0,0))):=fun W hW =>
  (mdn_any a t f ha ht hf W).mono fun e w' ⟨he,hb⟩=>⟨he,bl_then hW.1 hb,(hb.block _ (lt_of_at hW.2)).trans hW.2⟩
 have H0:Hid (Below w.heap.size w (w.alloc (.cells #[.int .u64 0,.int .u64 0,.int .u64 0,.int .u64 0] 24))∧(w.alloc (.cells #[.int .u64 0,.int .u64 0,.int .u64 0,.int .u64 0] 24)).heap[w.heap.size]? = some (.cells (uL (0,0,0,0)) 24 (0,0))):=⟨bl_alloc (Below.refl _ _) _,heap_alloc_new _ _⟩
 obtain ⟨a0,a1,a2,a3,_⟩:=row4 ((H0.out.1.block _ (lt_of_at hp)).trans hp)
 obtain ⟨b0,b1,b2,b3,_⟩:=row4 ((H0.out.1.block _ (lt_of_at hq)).trans hq)
 obtain ⟨c0,c1,c2,c3,_⟩:=row4 ((H0.out.1.block _ (lt_of_at hr)).trans hr)
 clear hp hq hr
 obtain ⟨u,hu⟩:∃ u,u=dnW a t f:=⟨_,rfl⟩
 obtain ⟨v,hv⟩:∃ v,v=dnB a t f:=⟨_,rfl⟩
 rw [← hu,← hv] at HU ⊢
 clear hu hv
 go_enter Tryz.func129,Tryz.ntmps129
 go_wp2_with fail
 refine Calls.mono (HU.out _ H0.out) ?_
 rintro e w3 ⟨rfl,hb3,hz⟩
 obtain ⟨z0,z1,z2,z3,z4,z5,z6,z7⟩:=row4 hz
 have HZ:=Lib.hid (put4 hz u)
 have HB:=Lib.hid (put4_below (n:=w.heap.size) hb3 (Nat.le_refl _) (.int .u64 u.1) (.int .u64 u.2.1) (.int .u64 u.2.2.1) (.int .u64 u.2.2.2))
 clear hz hb3 HU H0
 go_wp2_with fail
 refine bodyPost_ret (results_cell_row2 rfl _ _ (w.heap.size) 24 (uL u) (0,0) _ rfl HZ.out Tryz.underlying24 rfl (by kernel_rfl)) rfl ?_
 exact ⟨rfl,HB.out⟩
theorem scale_any (a t f:W4) (ha:a.Ok) (ht:t.Ok) (hf:f.Ok) (w:World):Calls Tryz.prog 59 #[uV a,uV t,uV f] w fun e w'=>e = .returned (.tuple #[uV (scW a t f),.bool (scB a t f)])∧Below w.heap.size w w':=by
 have HV:=VAt.start w [a,t,f,(0,0,0,0)]
 have HV0:=VAt.vr (l:=[a,t,f]) HV
 have he:scW a t f=(if f=(0,0,0,0) then (0,0,0,0) else dnW a t f)∧scB a t f=(if f=(0,0,0,0) then decide (a=(0,0,0,0)) else dnB a t f):=by
  unfold scW scB
  simp only [u0_iff,and_self]
 have HS:Hid (∀ W,VR w [a,t,f] 3 W→Calls Tryz.prog 128 #[uV a,uV f,.func (.func 129) #[] #[.pointer (some ⟨w.heap.size,0,none⟩),.pointer (some ⟨w.heap.size+1,0,none⟩),.pointer (some ⟨w.heap.size+1+1,0,none⟩)]] W fun e w'=>e = .returned (.tuple #[uV (scW a t f),.bool (scB a t f)])∧VR w [a,t,f] 3 w'):=fun W hW=>by
  rw [he.1,he.2]
  refine (scaled_any a f _ _ (dnW a t f) (dnB a t f) W (by kernel_rfl) fun _ W' hb => ?_).mono fun e w' ⟨he,hb⟩=>⟨he,hW.below hb⟩
  have hW':=hW.below hb
  exact scale1_any a t f ha ht hf _ _ _ W' (hW'.r 0 a rfl) (hW'.r 1 t rfl) (hW'.r 2 f rfl)
 have HV1:=Lib.hid HV0
 obtain ⟨u,hu⟩:∃ u,u=scW a t f:=⟨_,rfl⟩
 obtain ⟨v,hv⟩:∃ v,v=scB a t f:=⟨_,rfl⟩
 rw [← hu,← hv] at HS ⊢
 clear hu hv he HV0 HV
 go_enter Tryz.func59,Tryz.ntmps59
 go_wp2_with fail
 refine Calls.mono (HS.out _ HV1.out) ?_
 rintro e w3 ⟨rfl,hV3⟩
 obtain ⟨z,z0,z1,z2,z3,z4,z5,z6,z7⟩:=hV3.zc
 have HR:=Lib.hid (hV3.res u)
 clear hV3 HV1 HS
 go_wp2_with fail
 refine bodyPost_ret (results_cell_row2 rfl _ _ (w.heap.size+3) 24 (uL u) (0,0) _ rfl HR.out.2 Tryz.underlying24 rfl (by kernel_rfl)) rfl ?_
 exact ⟨rfl,HR.out.1⟩
theorem scW_ok (a t f:W4):(scW a t f).Ok:=by
 unfold scW; split
 ·exact u0_ok
 ·unfold dnW; split
  ·exact u0_ok
  ·exact toW_ok _
def minW (a b:W4):W4:=if uN a≤uN b then a else b
theorem umin_any (a b:W4) (ha:a.Ok) (hb:b.Ok) (w:World):Calls Tryz.prog 113 #[uV a,uV b] w fun e w'=>e = .returned (uV (minW a b))∧Below w.heap.size w w':=by
 have hB:=(((BV.start w).alloc (uO a)).alloc (uO b)).alloc zO
 simp only [World.size_alloc] at hB
 have HC:Hid (∀ rs W,BV w rs W→Calls Tryz.prog 58 #[uV a,uV b] W fun e w'=>e = .returned (.int .i64 (uCmp a b))∧BV w rs w'):=fun rs W h=>h.reads (ucmp_any a b ha hb W)
 obtain ⟨a0,a1,a2,a3,_⟩:=row4 (hB.u4 (g:=w.heap.size) (x:=a) (by simp))
 obtain ⟨b0,b1,b2,b3,_⟩:=row4 (hB.u4 (g:=w.heap.size+1) (x:=b) (by simp))
 have hlaw:(uCmp a b≤0→minW a b=a)∧(0 < uCmp a b→minW a b=b):=by
  unfold minW
  rw [uCmp_le0]
  exact ⟨fun h=>if_pos h,fun h=>if_neg (by rw [← uCmp_le0]; omega)⟩
 have HL:=Lib.hid hlaw
 have HB:=Lib.hid hB
 clear hB hlaw
 generalize minW a b=mw at *
 generalize uCmp a b=cv at *
 go_enter Tryz.func113,Tryz.ntmps113
 go_wp2_with fail
 refine Calls.mono (HC.out _ _ HB.out) ?_
 rintro e w3 ⟨rfl,hB3⟩
 clear a0 a1 a2 a3 b0 b1 b2 b3 HB HC
 obtain ⟨a0,a1,a2,a3,_⟩:=row4 (hB3.u4 (g:=w.heap.size) (x:=a) (by simp))
 obtain ⟨b0,b1,b2,b3,_⟩:=row4 (hB3.u4 (g:=w.heap.size+1) (x:=b) (by simp))
 have hz:=hB3.u4 (g:=w.heap.size+1+1) (x:=(0,0,0,0)) (by simp)
 obtain ⟨z0,z1,z2,z3,z4,z5,z6,z7⟩:=row4 hz
 by_cases hc:cv≤0
 ·have h1:=HL.out.1 hc
  subst h1
  have HZ:=Lib.hid (put4 hz mw)
  have HBB:=Lib.hid (put4_below (BV.bl hB3) (show w.heap.size≤w.heap.size+1+1 by omega) (.int .u64 mw.1) (.int .u64 mw.2.1) (.int .u64 mw.2.2.1) (.int .u64 mw.2.2.2))
  clear hz hB3 HL
  go_wp2_with fail
  refine bodyPost_ret (results_cell_row rfl _ _ (w.heap.size+1+1) 24 (uL mw) (0,0) _ rfl HZ.out Tryz.underlying24 rfl (by kernel_rfl)) rfl ?_
  exact ⟨rfl,HBB.out⟩
 ·have h1:=HL.out.2 (Int.not_le.1 hc)
  subst h1
  have HZ:=Lib.hid (put4 hz mw)
  have HBB:=Lib.hid (put4_below (BV.bl hB3) (show w.heap.size≤w.heap.size+1+1 by omega) (.int .u64 mw.1) (.int .u64 mw.2.1) (.int .u64 mw.2.2.1) (.int .u64 mw.2.2.2))
  clear hz hB3 HL
  go_wp2_with fail
  refine bodyPost_ret (results_cell_row rfl _ _ (w.heap.size+1+1) 24 (uL mw) (0,0) _ rfl HZ.out Tryz.underlying24 rfl (by kernel_rfl)) rfl ?_
  exact ⟨rfl,HBB.out⟩
structure Ex where
 st:Int
 op:Int
 sg:Int
 bl:Int
 wo:W4
 mx:W4
def Ex.L (x:Ex):Array Value:=#[.int .i64 x.st,.int .i64 x.op,.int .i64 x.sg,.int .i64 x.bl,.int .u64 x.wo.1,.int .u64 x.wo.2.1,.int .u64 x.wo.2.2.1,.int .u64 x.wo.2.2.2,.int .u64 x.mx.1,.int .u64 x.mx.2.1,.int .u64 x.mx.2.2.1,.int .u64 x.mx.2.2.2]
abbrev exO (x:Ex):Obj:=.cells x.L 26
structure Ex.Ok (x:Ex):Prop where
 st:I63 x.st
 op:I63 x.op
 sg:I63 x.sg
 bl:I63 x.bl
 wo:x.wo.Ok
 mx:x.mx.Ok
theorem rowE {w:World} {g:Nat} {x:Ex} (h:w.heap[g]? = some (exO x)):(w.cell? ⟨g,0,none⟩=some (.int .i64 x.st)∧w.cell? ⟨g,1,none⟩=some (.int .i64 x.op)∧w.cell? ⟨g,2,none⟩=some (.int .i64 x.sg)∧w.cell? ⟨g,3,none⟩=some (.int .i64 x.bl)) ∧
  (w.cell? ⟨g,4,none⟩=some (.int .u64 x.wo.1)∧w.cell? ⟨g,5,none⟩=some (.int .u64 x.wo.2.1)∧w.cell? ⟨g,6,none⟩=some (.int .u64 x.wo.2.2.1)∧w.cell? ⟨g,7,none⟩=some (.int .u64 x.wo.2.2.2)) ∧
  (w.cell? ⟨g,8,none⟩=some (.int .u64 x.mx.1)∧w.cell? ⟨g,9,none⟩=some (.int .u64 x.mx.2.1)∧w.cell? ⟨g,10,none⟩=some (.int .u64 x.mx.2.2.1)∧w.cell? ⟨g,11,none⟩=some (.int .u64 x.mx.2.2.2)):=by
 have hc:∀ o v,x.L[o]? = some v→w.cell? ⟨g,o,none⟩=some v:=fun o v hv=>by rw [cell_of_row _ _ _ _ _ _ h]; exact hv
 exact ⟨⟨hc 0 _ rfl,hc 1 _ rfl,hc 2 _ rfl,hc 3 _ rfl⟩,⟨hc 4 _ rfl,hc 5 _ rfl,hc 6 _ rfl,hc 7 _ rfl⟩,⟨hc 8 _ rfl,hc 9 _ rfl,hc 10 _ rfl,hc 11 _ rfl⟩⟩
def paysW (x:Ex) (m:W4):W4:=if x.op=0 then x.wo else if uN x.mx < uN m then (0,0,0,0) else scW x.wo m x.mx
theorem paysW_ok {x:Ex} (h:x.wo.Ok) (m:W4):(paysW x m).Ok:=by
 unfold paysW; split
 ·exact h
 ·split
  ·exact u0_ok
  ·exact scW_ok _ _ _
theorem pays_any (x:Ex) (m:W4) (hwo:x.wo.Ok) (hmx:x.mx.Ok) (hm:m.Ok) (w:World):Calls Tryz.prog 13 #[.agg x.L,uV m] w fun e w'=>e = .returned (uV (paysW x m))∧Below w.heap.size w w':=by
 have hB:=(((BV.start w).alloc (exO x)).alloc (uO m)).alloc zO
 simp only [World.size_alloc] at hB
 have HC:Hid (∀ rs W,BV w rs W→Calls Tryz.prog 58 #[uV m,uV x.mx] W fun e w'=>e = .returned (.int .i64 (uCmp m x.mx))∧BV w rs w'):=fun rs W h=>h.reads (ucmp_any m x.mx hm hmx W)
 have HS:Hid (∀ rs W,BV w rs W→Calls Tryz.prog 59 #[uV x.wo,uV m,uV x.mx] W fun e w'=>e = .returned (.tuple #[uV (scW x.wo m x.mx),.bool (scB x.wo m x.mx)])∧BV w rs w'):=fun rs W h=>h.reads (scale_any x.wo m x.mx hwo hm hmx W)
 have hlaw:(x.op=0→paysW x m=x.wo)∧(x.op≠0→0 < uCmp m x.mx→paysW x m=(0,0,0,0))∧(x.op≠0→uCmp m x.mx≤0→paysW x m=scW x.wo m x.mx):=by
  unfold paysW
  rw [uCmp_gt0,uCmp_le0]
  refine ⟨fun h=>if_pos h,fun h h2=>by rw [if_neg h,if_pos h2],fun h h2=>by rw [if_neg h,if_neg (by omega)]⟩
 have HL:=Lib.hid hlaw
 have HB:=Lib.hid hB
 clear hlaw hwo hmx hm
 generalize paysW x m=pw at *
 generalize uCmp m x.mx=cv at *
 generalize scW x.wo m x.mx=sw at *
 generalize scB x.wo m x.mx=sb at *
 obtain ⟨xs,xo,xt,xb,W,M⟩:=x
 dsimp only [exO,Ex.L] at HL HB HC HS ⊢
 clear hB
 go_enter Tryz.func13,Tryz.ntmps13
 go_upto_region 1 with fail
 generalize ((w.alloc (.cells #[.int .i64 xs,.int .i64 xo,.int .i64 xt,.int .i64 xb,.int .u64 W.1,.int .u64 W.2.1,.int .u64 W.2.2.1,.int .u64 W.2.2.2,.int .u64 M.1,.int .u64 M.2.1,.int .u64 M.2.2.1,.int .u64 M.2.2.2] 26)).alloc (.cells (uL m) 24)).alloc zO=w4 at *
 have hB:=HB.out
 obtain ⟨⟨k0,k1,k2,k3⟩,⟨p0,p1,p2,p3⟩,⟨q0,q1,q2,q3⟩⟩:=rowE (x:=⟨xs,xo,xt,xb,W,M⟩) (hB.row (g:=w.heap.size) (o:=(.cells #[.int .i64 xs,.int .i64 xo,.int .i64 xt,.int .i64 xb,.int .u64 W.1,.int .u64 W.2.1,.int .u64 W.2.2.1,.int .u64 W.2.2.2,.int .u64 M.1,.int .u64 M.2.1,.int .u64 M.2.2.1,.int .u64 M.2.2.2] 26)) (by simp))
 obtain ⟨m0,m1,m2,m3,_⟩:=row4 (hB.u4 (g:=w.heap.size+1) (x:=m) (by simp))
 have hz:=hB.u4 (g:=w.heap.size+1+1) (x:=(0,0,0,0)) (by simp)
 obtain ⟨z0,z1,z2,z3,z4,z5,z6,z7⟩:=row4 hz
 by_cases h0:xo=0
 ·have h1:=HL.out.1 h0
  subst h1
  clear HL HB HC HS
  have HZ:=Lib.hid (put4 hz pw)
  have HBB:=Lib.hid (put4_below (BV.bl hB) (show w.heap.size≤w.heap.size+1+1 by omega) (.int .u64 pw.1) (.int .u64 pw.2.1) (.int .u64 pw.2.2.1) (.int .u64 pw.2.2.2))
  clear hz hB
  go_wp2_with fail
  refine bodyPost_ret (results_cell_row rfl _ _ (w.heap.size+1+1) 24 (uL pw) (0,0) _ rfl HZ.out Tryz.underlying24 rfl (by kernel_rfl)) rfl ?_
  exact ⟨rfl,HBB.out⟩
 ·have HX0:=Lib.hid h0
  clear hz hB
  go_wp2_with fail
  refine Calls.mono (HC.out _ _ HB.out) ?_
  rintro e w5 ⟨rfl,hB⟩
  clear k0 k1 k2 k3 p0 p1 p2 p3 q0 q1 q2 q3 m0 m1 m2 m3 z0 z1 z2 z3 z4 z5 z6 z7 HB HC
  obtain ⟨⟨k0,k1,k2,k3⟩,⟨p0,p1,p2,p3⟩,⟨q0,q1,q2,q3⟩⟩:=rowE (x:=⟨xs,xo,xt,xb,W,M⟩) (hB.row (g:=w.heap.size) (o:=(.cells #[.int .i64 xs,.int .i64 xo,.int .i64 xt,.int .i64 xb,.int .u64 W.1,.int .u64 W.2.1,.int .u64 W.2.2.1,.int .u64 W.2.2.2,.int .u64 M.1,.int .u64 M.2.1,.int .u64 M.2.2.1,.int .u64 M.2.2.2] 26)) (by simp))
  obtain ⟨m0,m1,m2,m3,_⟩:=row4 (hB.u4 (g:=w.heap.size+1) (x:=m) (by simp))
  have hz:=hB.u4 (g:=w.heap.size+1+1) (x:=(0,0,0,0)) (by simp)
  obtain ⟨z0,z1,z2,z3,z4,z5,z6,z7⟩:=row4 hz
  by_cases hc:0 < cv
  ·have h1:=HL.out.2.1 HX0.out hc
   subst h1
   clear HL HS
   have HZ:=Lib.hid (put4 hz (0,0,0,0))
   have HBB:=Lib.hid (put4_below (BV.bl hB) (show w.heap.size≤w.heap.size+1+1 by omega) (.int .u64 ((0,0,0,0):W4).1) (.int .u64 ((0,0,0,0):W4).2.1) (.int .u64 ((0,0,0,0):W4).2.2.1) (.int .u64 ((0,0,0,0):W4).2.2.2))
   clear hz hB
   go_wp2_with fail
   refine bodyPost_ret (results_cell_row rfl _ _ (w.heap.size+1+1) 24 (uL (0,0,0,0)) (0,0) _ rfl HZ.out Tryz.underlying24 rfl (by kernel_rfl)) rfl ?_
   exact ⟨rfl,HBB.out⟩
  ·have h1:=HL.out.2.2 HX0.out (Int.not_lt.1 hc)
   subst h1
   have HB:=Lib.hid hB
   clear HL hz hB
   go_wp2_with fail
   refine Calls.mono (HS.out _ _ HB.out) ?_
   rintro e w6 ⟨rfl,hB⟩
   have hB7:=hB.alloc (uO pw)
   clear k0 k1 k2 k3 p0 p1 p2 p3 q0 q1 q2 q3 m0 m1 m2 m3 z0 z1 z2 z3 z4 z5 z6 z7 HB HS hB
   go_upto_region 6 with fail
   generalize w6.alloc (uO pw)=w7 at *
   generalize w6.heap.size=g1 at *
   obtain ⟨a0,a1,a2,a3,_⟩:=row4 (hB7.u4 (g:=g1) (x:=pw) (by simp))
   have hz:=hB7.u4 (g:=w.heap.size+1+1) (x:=(0,0,0,0)) (by simp)
   obtain ⟨z0,z1,z2,z3,z4,z5,z6,z7⟩:=row4 hz
   have HZ:=Lib.hid (put4 hz pw)
   have HBB:=Lib.hid (put4_below (BV.bl hB7) (show w.heap.size≤w.heap.size+1+1 by omega) (.int .u64 pw.1) (.int .u64 pw.2.1) (.int .u64 pw.2.2.1) (.int .u64 pw.2.2.2))
   clear hz hB7
   go_wp2_with fail
   refine bodyPost_ret (results_cell_row rfl _ _ (w.heap.size+1+1) 24 (uL pw) (0,0) _ rfl HZ.out Tryz.underlying24 rfl (by kernel_rfl)) rfl ?_
   exact ⟨rfl,HBB.out⟩
end Go.Proofs.YtnkilceibkkjlaaGreat
namespace Go.Proofs.YtnkilceibkkjlaaGreat
open Go.RowKit Go.ChangeShapes Go.WideShapes Go.ChangeAt
theorem okWide_array {P:Program} {w:World} {r:Reach} {base:Nat} {t e:TypeId} {v:Value} {n:Nat} (ht:P.underlying t=some (.array n e)) (h:Value.okWide P w r base t v):∃ cs,v = .agg cs∧cs.size=P.cellsOf t:=by
 simp only [Value.okWide,ht] at h
 obtain ⟨cs,h1,h2,_⟩:=h
 exact ⟨cs,h1,h2⟩
section
variable {H:Type} {enc:TypeId × Value→H} {w:World} {base:Nat} {spare:Nat→Bool} {held:Bool}
theorem wf_u64p {n:Int} (h:(Lit.int .u64 n).wf=true):∃ m:Nat,n=m∧m < 18446744073709551616:=by
 have e1:IntKind.u64.min=0:=rfl
 have e2:IntKind.u64.max=18446744073709551615:=rfl
 simp only [Lit.wf,Bool.and_eq_true,decide_eq_true_eq,e1,e2] at h
 exact ⟨n.toNat,by omega,by omega⟩
theorem open_u4c {fuel:Nat} {cs:List Value} {x:DataW H × List MemPlace} (h:DataW.trod enc Tryz.prog w base spare held fuel 24 cs=some x):∃ y:W4,cs=(uL y).toList∧y.Ok:=by
 have hc1:Tryz.prog.cellsOf 22=1:=by kernel_rfl
 have hc4:Tryz.prog.cellsOf 24=4:=by kernel_rfl
 obtain ⟨xs,m,_,_,hlen,hxl,hf⟩:=DataW.trod_array Tryz.underlying24 h
 rw [hc4] at hlen
 match cs,hlen,xs,hxl with
 | [c0,c1,c2,c3],_,[y0,y1,y2,y3],_ =>
  have h0:=hf 0 (by omega)
  have h1:=hf 1 (by omega)
  have h2:=hf 2 (by omega)
  have h3:=hf 3 (by omega)
  simp [hc1] at h0 h1 h2 h3
  obtain ⟨n0,e0,_,s0⟩:=DataW.trod_int Tryz.underlying22 h0
  obtain ⟨n1,e1,_,s1⟩:=DataW.trod_int Tryz.underlying22 h1
  obtain ⟨n2,e2,_,s2⟩:=DataW.trod_int Tryz.underlying22 h2
  obtain ⟨n3,e3,_,s3⟩:=DataW.trod_int Tryz.underlying22 h3
  obtain ⟨m0,rfl,b0⟩:=wf_u64p s0
  obtain ⟨m1,rfl,b1⟩:=wf_u64p s1
  obtain ⟨m2,rfl,b2⟩:=wf_u64p s2
  obtain ⟨m3,rfl,b3⟩:=wf_u64p s3
  simp only [List.cons.injEq,and_true] at e0 e1 e2 e3
  subst e0 e1 e2 e3
  exact ⟨(m0,m1,m2,m3),rfl,b0,b1,b2,b3⟩
theorem open_u4 {r:Reach} {b0:Nat} {v:Value} {d:DataW H} {p:List MemPlace} (hv:Value.okWide Tryz.prog w r b0 24 v) (h:DataW.Trod enc Tryz.prog w base spare held 24 v d p) :
  ∃ y:W4,v=uV y∧y.Ok:=by
 obtain ⟨cs,rfl,hsz⟩:=okWide_array Tryz.underlying24 hv
 obtain ⟨fuel,hf0⟩:=h
 obtain ⟨y,he,hy⟩:=open_u4c hf0
 obtain ⟨l⟩:=cs
 have hcs:(Value.agg ⟨l⟩).cells.toList=l:=rfl
 rw [hcs] at he
 subst he
 exact ⟨y,rfl,hy⟩
theorem open_exc {fuel:Nat} {cs:List Value} {x:DataW H × List MemPlace} (h:DataW.trod enc Tryz.prog w base spare held fuel 26 cs=some x):∃ A:Ex,cs=A.L.toList∧A.Ok:=by
 have hc1:Tryz.prog.cellsOf 3=1:=by kernel_rfl
 have hc4:Tryz.prog.cellsOf 24=4:=by kernel_rfl
 have hc12:Tryz.prog.cellsOf 26=12:=by kernel_rfl
 obtain ⟨xs,m,_,_,hlen,hxl,hf⟩:=DataW.trod_struct Tryz.underlying26 h
 rw [hc12] at hlen
 match cs,hlen,xs,hxl with
 | [c0,c1,c2,c3,c4,c5,c6,c7,c8,c9,c10,c11],_,[y0,y1,y2,y3,y4,y5],_ =>
  have h0:=hf 0 _ rfl
  have h1:=hf 1 _ rfl
  have h2:=hf 2 _ rfl
  have h3:=hf 3 _ rfl
  have h4:=hf 4 _ rfl
  have h5:=hf 5 _ rfl
  simp [hc1,hc4] at h0 h1 h2 h3 h4 h5
  obtain ⟨n0,e0,_,s0⟩:=DataW.trod_int Tryz.underlying3 h0
  obtain ⟨n1,e1,_,s1⟩:=DataW.trod_int Tryz.underlying3 h1
  obtain ⟨n2,e2,_,s2⟩:=DataW.trod_int Tryz.underlying3 h2
  obtain ⟨n3,e3,_,s3⟩:=DataW.trod_int Tryz.underlying3 h3
  obtain ⟨am,e4,k4⟩:=open_u4c h4
  obtain ⟨ax,e5,k5⟩:=open_u4c h5
  simp only [List.cons.injEq,and_true] at e0 e1 e2 e3 e4 e5
  obtain ⟨rfl,rfl,rfl,rfl⟩:=e4
  obtain ⟨rfl,rfl,rfl,rfl⟩:=e5
  subst e0 e1 e2 e3
  exact ⟨⟨n0,n1,n2,n3,am,ax⟩,rfl,⟨(wf_lt s0).2,(wf_lt s1).2,(wf_lt s2).2,(wf_lt s3).2,k4,k5⟩⟩
theorem open_ex {r:Reach} {b0:Nat} {v:Value} {d:DataW H} {p:List MemPlace} (hv:Value.okWide Tryz.prog w r b0 26 v) (h:DataW.Trod enc Tryz.prog w base spare held 26 v d p) :
  ∃ A:Ex,v = .agg A.L∧A.Ok:=by
 obtain ⟨cs,rfl,hsz⟩:=okWide_struct Tryz.underlying26 hv
 obtain ⟨fuel,hf0⟩:=h
 obtain ⟨A,he,hA⟩:=open_exc hf0
 obtain ⟨l⟩:=cs
 have hcs:(Value.agg ⟨l⟩).cells.toList=l:=rfl
 rw [hcs] at he
 subst he
 exact ⟨A,rfl,hA⟩
end
end Go.Proofs.YtnkilceibkkjlaaGreat
