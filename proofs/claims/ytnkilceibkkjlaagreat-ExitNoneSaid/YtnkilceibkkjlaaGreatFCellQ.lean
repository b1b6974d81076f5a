/- What is proved here: factor.Grow and factor.Move of the program. Their condition: words below 2^64. cell.less of the program. Their conditions: words below 2^64, sizes. cell.Add, cell.Sub and cell.Move of the program, on a store behind a handle. Their conditions: sizes. -/
import Derived.Test.YtnkilceibkkjlaaGreatFFacT
import Derived.Test.YtnkilceibkkjlaaGreatFRQuo
import Derived.Test.YtnkilceibkkjlaaGreatFAmtG
import Derived.Test.YtnkilceibkkjlaaGreatFHandG
set_option maxRecDepth 100000
set_option maxHeartbeats 16000000
namespace Go.Proofs.YtnkilceibkkjlaaGreat
open Go.RowKit
theorem sum_amt {d x:W4}:sumB d x=true∧uN (sumW d x) < M128↔uN d+uN x < M128:=by
 unfold sumB sumW toB toW W256 M128
 rw [decide_eq_true_eq]
 constructor
 ·rintro ⟨h1,h2⟩
  rwa [if_pos h1,uN_of h1] at h2
 ·intro h
  have h1:uN d+uN x < 115792089237316195423570985008687907853269984665640564039457584007913129639936:=by omega
  rw [if_pos h1,uN_of h1]; exact ⟨h1,h⟩
theorem sum_of {d x:W4} (h:uN d+uN x < 115792089237316195423570985008687907853269984665640564039457584007913129639936):sumW d x=uOf (uN d+uN x):=by
 unfold sumW toW W256; rw [if_pos h]
theorem VP.keep {w wr:World} {l:List W4} {n g:Nat} {q:W4} (h:VP w l n [] wr) (hg:w.heap.size+n+1≤g):VP w l n [] (wr.setRow g (uL q)):=⟨h.vr.keep hg,fun _ _ hx=>by cases hx⟩
def lessV (x y:W4):W4:=if uSubC x y=0 then uSubS x y else (0,0,0,0)
def lessE (x y:W4):Int:=if uSubC x y=0 then 0 else 13
theorem three_rows (w:World) (x y z:W4):Below w.heap.size w (((w.alloc (.cells (uL x) 24)).alloc (.cells (uL y) 24)).alloc (.cells (uL z) 24))∧Cel4 w.heap.size x (((w.alloc (.cells (uL x) 24)).alloc (.cells (uL y) 24)).alloc (.cells (uL z) 24))∧Cel4 (w.heap.size+1) y (((w.alloc (.cells (uL x) 24)).alloc (.cells (uL y) 24)).alloc (.cells (uL z) 24))∧(((w.alloc (.cells (uL x) 24)).alloc (.cells (uL y) 24)).alloc (.cells (uL z) 24)).heap[w.heap.size+2]? = some (.cells (uL z) 24 (0,0)):=by
 refine ⟨bl_alloc (bl_alloc (bl_alloc (Below.refl _ w) _) _) _,cel4_row ?_,cel4_row ?_,?_⟩
 ·rw [heap_alloc_old _ _ (by first | (simp; done) | (simp; omega)),heap_alloc_old _ _ (by simp)]; exact heap_alloc_new w (.cells (uL x) 24)
 ·rw [heap_alloc_old _ _ (by simp)]
  have:=heap_alloc_new (w.alloc (.cells (uL x) 24)) (.cells (uL y) 24)
  rw [World.size_alloc] at this; exact this
 ·have:=heap_alloc_new ((w.alloc (.cells (uL x) 24)).alloc (.cells (uL y) 24)) (.cells (uL z) 24)
  rw [World.size_alloc,World.size_alloc] at this; exact this
theorem less_any (x y:W4) (hx:x.Ok) (hy:y.Ok) (w:World):Calls Tryz.prog 157 #[uV x,uV y] w fun e w'=>e = .returned (.tuple #[uV (lessV x y),.int .i64 (lessE x y)])∧Below w.heap.size w w':=by
 obtain ⟨hb,⟨a0,a1,a2,a3⟩,⟨b0,b1,b2,b3⟩,hr⟩:=three_rows w x y (0,0,0,0)
 have HS:Hid (Calls Tryz.prog 71 #[uV x,uV y] (((w.alloc (.cells (uL x) 24)).alloc (.cells (uL y) 24)).alloc (.cells (uL (0,0,0,0)) 24)) fun e w'=>e = .returned (.tuple #[uV (lessV x y),.bool (uSubC x y == 0)])∧Below w.heap.size w w'∧w'.heap[w.heap.size+2]? = some (.cells (uL (0,0,0,0)) 24 (0,0))):=(usub_any x y hx hy _).mono fun e w' ⟨he,h1⟩=>⟨he,bl_then hb h1,(h1.block _ (Array.getElem?_eq_some_iff.1 hr).1).trans hr⟩
 clear hb hr
 by_cases h0:uSubC x y=0
 ·have h1:lessE x y=0:=by unfold lessE; rw [if_pos h0]
  rw [h1]
  have hc:(uSubC x y == 0)=true:=beq_iff_eq.2 h0
  rw [hc] at HS
  clear hc h0 h1
  generalize lessV x y=v at *
  go_enter Tryz.func157,Tryz.ntmps157
  go_wp2_with fail
  refine HS.out.mono ?_
  rintro e w3 ⟨rfl,hb3,hrow⟩
  have HR:=Lib.hid hrow
  obtain ⟨_,_,_,_,r0,r1,r2,r3⟩:=row4 hrow
  have hn3:w.heap.size+2 < w3.heap.size:=(Array.getElem?_eq_some_iff.1 hrow).1
  have hne:w3.heap.size≠w.heap.size+2:=by omega
  have hne2:=Ne.symm hne
  clear hrow HS
  go_wp2_with fail
  refine bodyPost_ret (results_cell_row2 rfl _ _ (w.heap.size+2) 24 (uL v) (0,0) _ rfl ?_ Tryz.underlying24 rfl (by kernel_rfl)) rfl ?_
  ·rw [heap_alloc_old _ _ (by simpa using hn3)]; exact put4 HR.out v
  ·exact ⟨rfl,bl_alloc (put4_below hb3 (by omega) _ _ _ _) _⟩
 ·have h1:lessE x y=13:=by unfold lessE; rw [if_neg h0]
  have h2:lessV x y=(0,0,0,0):=by unfold lessV; rw [if_neg h0]
  rw [h1,h2]
  have hc:(uSubC x y == 0)=false:=beq_eq_false_iff_ne.2 h0
  rw [hc,h2] at HS
  clear hc h0 h1 h2
  go_enter Tryz.func157,Tryz.ntmps157
  go_wp2_with fail
  refine HS.out.mono ?_
  rintro e w3 ⟨rfl,hb3,hrow⟩
  have HR:=Lib.hid hrow
  obtain ⟨_,_,_,_,r0,r1,r2,r3⟩:=row4 hrow
  have hn3:w.heap.size+2 < w3.heap.size:=(Array.getElem?_eq_some_iff.1 hrow).1
  have hne:w3.heap.size≠w.heap.size+2:=by omega
  have hne2:=Ne.symm hne
  clear hrow HS
  go_wp2_with fail
  refine bodyPost_ret (results_cell_row2 rfl _ _ (w.heap.size+2) 24 (uL (0,0,0,0)) (0,0) _ rfl ?_ Tryz.underlying24 rfl (by kernel_rfl)) rfl ?_
  ·rw [heap_alloc_old _ _ (by simpa using hn3)]; exact put4 HR.out (0,0,0,0)
  ·exact ⟨rfl,bl_alloc (put4_below hb3 (by omega) _ _ _ _) _⟩
def moreW (x y:W4):W4:=if uN x+uN y < M128 then uOf (uN x+uN y) else (0,0,0,0)
def moreE (x y:W4):Int:=if uN x+uN y < M128 then 0 else 6
theorem more_law (x y:W4):(sumB x y=false→moreW x y=(0,0,0,0)∧moreE x y=6)∧(decide (uN (sumW x y) < M128)=false→moreW x y=(0,0,0,0)∧moreE x y=6)∧(sumB x y=true→decide (uN (sumW x y) < M128)=true→moreW x y=sumW x y∧moreE x y=0):=by
 have h:=sum_amt (d:=x) (x:=y)
 unfold moreW moreE
 refine ⟨fun h1 => ?_,fun h1 => ?_,fun h1 h2 => ?_⟩
 ·have:¬ uN x+uN y < M128:=fun e=>by have:=(h.2 e).1; rw [h1] at this; cases this
  rw [if_neg this,if_neg this]; exact ⟨rfl,rfl⟩
 ·have:¬ uN x+uN y < M128:=fun e=>by have:=(h.2 e).2; exact absurd this (of_decide_eq_false h1)
  rw [if_neg this,if_neg this]; exact ⟨rfl,rfl⟩
 ·have:=h.1 ⟨h1,of_decide_eq_true h2⟩
  rw [if_pos this,if_pos this,sum_of (by unfold M128 at this; omega)]; exact ⟨rfl,rfl⟩
theorem cmore_any (x y:W4) (hx:x.Ok) (hy:y.Ok) (w:World):Calls Tryz.prog 174 #[uV x,uV y] w fun e w'=>e = .returned (.tuple #[uV (moreW x y),.int .i64 (moreE x y)])∧Below w.heap.size w w':=by
 have HV:=Lib.hid (VAt.vr (l:=[x,y]) (VAt.start w [x,y,(0,0,0,0)])).vp
 have HS:Hid (∀ W,VP w [x,y] 2 [] W→Calls Tryz.prog 79 #[uV x,uV y] W fun e w'=>e = .returned (.tuple #[uV (sumW x y),.bool (sumB x y)])∧VP w [x,y] 2 [] w'):=fun W hW =>
  (uadd_is x y hx hy W).mono fun e w' ⟨he,hb⟩=>⟨he,hW.below hb⟩
 have HA:Hid (∀ ps W,VP w [x,y] 2 ps W→Calls Tryz.prog 11 #[uV (sumW x y)] W fun e w'=>e = .returned (.bool (decide (uN (sumW x y) < M128)))∧VP w [x,y] 2 ps w'):=fun ps W hW =>
  (wamount_any _ (toW_ok _) W).mono fun e w' ⟨he,hb⟩=>⟨he,hW.below hb⟩
 have HL:=Lib.hid (more_law x y)
 generalize moreW x y=u at *
 generalize moreE x y=er at *
 generalize decide (uN (sumW x y) < M128)=am at *
 generalize sumW x y=s at *
 generalize sumB x y=sb at *
 go_enter Tryz.func174,Tryz.ntmps174
 go_wp2_with fail
 refine Calls.mono (HS.out _ HV.out) ?_
 rintro e w3 ⟨rfl,hV3⟩
 have hV4:=hV3.alloc s
 clear hV3 HV HS
 go_upto_region 2 with fail
 generalize w3.alloc (.cells (uL s) 24)=w4 at *
 generalize w3.heap.size=g1 at *
 obtain ⟨z,z0,z1,z2,z3,z4,z5,z6,z7⟩:=hV4.vr.zc
 obtain ⟨s0,s1,s2,s3,_⟩:=row4 hV4.p0
 have HV4:=Lib.hid hV4
 have HR0:=Lib.hid (hV4.vr.res (0,0,0,0))
 clear hV4
 cases sb with
 | false =>
  obtain ⟨hu,he⟩:=HL.out.1 rfl
  subst hu he
  clear HL HA
  go_wp2_with fail
  refine bodyPost_ret (results_cell_row2 rfl _ _ (w.heap.size+2) 24 (uL (0,0,0,0)) (0,0) _ rfl HR0.out.2 Tryz.underlying24 rfl (by kernel_rfl)) rfl ?_
  exact ⟨rfl,HR0.out.1⟩
 | true =>
  clear HR0
  go_wp2_with fail
  refine Calls.mono (HA.out _ _ HV4.out) ?_
  rintro e w5 ⟨rfl,hV5⟩
  clear z z0 z1 z2 z3 z4 z5 z6 z7 s0 s1 s2 s3 HV4 HA
  obtain ⟨z,z0,z1,z2,z3,z4,z5,z6,z7⟩:=hV5.vr.zc
  obtain ⟨s0,s1,s2,s3,_⟩:=row4 hV5.p0
  cases am with
  | false =>
   obtain ⟨hu,he⟩:=HL.out.2.1 rfl
   subst hu he
   have HR0:=Lib.hid (hV5.vr.res (0,0,0,0))
   clear HL hV5
   go_wp2_with fail
   refine bodyPost_ret (results_cell_row2 rfl _ _ (w.heap.size+2) 24 (uL (0,0,0,0)) (0,0) _ rfl HR0.out.2 Tryz.underlying24 rfl (by kernel_rfl)) rfl ?_
   exact ⟨rfl,HR0.out.1⟩
  | true =>
   obtain ⟨hu,he⟩:=HL.out.2.2 (by trivial) (by trivial)
   subst hu he
   have HR0:=Lib.hid (hV5.vr.res u)
   clear HL hV5
   go_wp2_with fail
   refine bodyPost_ret (results_cell_row2 rfl _ _ (w.heap.size+2) 24 (uL u) (0,0) _ rfl HR0.out.2 Tryz.underlying24 rfl (by kernel_rfl)) rfl ?_
   exact ⟨rfl,HR0.out.1⟩
def lessE' (x y:W4):Int:=if uN y≤uN x then 0 else 13
theorem cless_any (x y:W4) (hx:x.Ok) (hy:y.Ok) (w:World):Calls Tryz.prog 157 #[uV x,uV y] w fun e w'=>e = .returned (.tuple #[uV (subW x y),.int .i64 (lessE' x y)])∧Below w.heap.size w w':=by
 have h1:lessV x y=subW x y:=(subW_of hx hy).1
 have h2:lessE x y=lessE' x y:=by
  unfold lessE lessE'
  by_cases h:uN y≤uN x
  ·rw [if_pos h,if_pos ((uSubC_iff hx hy).2 h)]
  ·rw [if_neg h,if_neg (fun e=>h ((uSubC_iff hx hy).1 e))]
 rw [← h1,← h2]
 exact less_any x y hx hy w
theorem cmore1_any (x y:W4) (hx:x.Ok) (hy:y.Ok) (p:Nat) (w:World) (hp:w.heap[p]? = some (.cells (uL y) 24 (0,0))):Calls Tryz.prog 173 #[uV x,.pointer (some ⟨p,0,none⟩)] w fun e w'=>e = .returned (.tuple #[uV (moreW x y),.int .i64 (moreE x y)])∧Below w.heap.size w w':=by
 have hV:=(VAt.vr (l:=[x]) (VAt.start w [x,(0,0,0,0)])).vp
 have HM:Hid (∀ W,VP w [x] 1 [] W→Calls Tryz.prog 174 #[uV x,uV y] W fun e w'=>e = .returned (.tuple #[uV (moreW x y),.int .i64 (moreE x y)])∧VP w [x] 1 [] w'):=fun W hW =>
  (cmore_any x y hx hy W).mono fun e w' ⟨he,hb⟩=>⟨he,hW.below hb⟩
 have hlt:=lt_of_at hp
 obtain ⟨y0,y1,y2,y3,_⟩:=row4 ((hV.b.block _ hlt).trans hp)
 obtain ⟨p0,p1,p2,p3,_⟩:=row4 hp
 have hn1:p≠w.heap.size:=by omega
 have hn2:p≠w.heap.size+1:=by omega
 have HV:=Lib.hid hV
 clear hV hp
 generalize moreW x y=u at *
 generalize moreE x y=er at *
 go_enter Tryz.func173,Tryz.ntmps173
 go_wp2_with fail
 refine Calls.mono (HM.out _ HV.out) ?_
 rintro e w3 ⟨rfl,hV3⟩
 obtain ⟨z,z0,z1,z2,z3,z4,z5,z6,z7⟩:=hV3.vr.zc
 have HR0:=Lib.hid (hV3.vr.res u)
 clear hV3 HM HV
 go_wp2_with fail
 refine bodyPost_ret (results_cell_row2 rfl _ _ (w.heap.size+1) 24 (uL u) (0,0) _ rfl HR0.out.2 Tryz.underlying24 rfl (by kernel_rfl)) rfl ?_
 exact ⟨rfl,HR0.out.1⟩
theorem cless1_any (x y:W4) (hx:x.Ok) (hy:y.Ok) (p:Nat) (w:World) (hp:w.heap[p]? = some (.cells (uL y) 24 (0,0))):Calls Tryz.prog 156 #[uV x,.pointer (some ⟨p,0,none⟩)] w fun e w'=>e = .returned (.tuple #[uV (subW x y),.int .i64 (lessE' x y)])∧Below w.heap.size w w':=by
 have hV:=(VAt.vr (l:=[x]) (VAt.start w [x,(0,0,0,0)])).vp
 have HM:Hid (∀ W,VP w [x] 1 [] W→Calls Tryz.prog 157 #[uV x,uV y] W fun e w'=>e = .returned (.tuple #[uV (subW x y),.int .i64 (lessE' x y)])∧VP w [x] 1 [] w'):=fun W hW =>
  (cless_any x y hx hy W).mono fun e w' ⟨he,hb⟩=>⟨he,hW.below hb⟩
 have hlt:=lt_of_at hp
 obtain ⟨y0,y1,y2,y3,_⟩:=row4 ((hV.b.block _ hlt).trans hp)
 obtain ⟨p0,p1,p2,p3,_⟩:=row4 hp
 have hn1:p≠w.heap.size:=by omega
 have hn2:p≠w.heap.size+1:=by omega
 have HV:=Lib.hid hV
 clear hV hp
 generalize subW x y=u at *
 generalize lessE' x y=er at *
 go_enter Tryz.func156,Tryz.ntmps156
 go_wp2_with fail
 refine Calls.mono (HM.out _ HV.out) ?_
 rintro e w3 ⟨rfl,hV3⟩
 obtain ⟨z,z0,z1,z2,z3,z4,z5,z6,z7⟩:=hV3.vr.zc
 have HR0:=Lib.hid (hV3.vr.res u)
 clear hV3 HM HV
 go_wp2_with fail
 refine bodyPost_ret (results_cell_row2 rfl _ _ (w.heap.size+1) 24 (uL u) (0,0) _ rfl HR0.out.2 Tryz.underlying24 rfl (by kernel_rfl)) rfl ?_
 exact ⟨rfl,HR0.out.1⟩
theorem turn_q (w:World) (h:Hand) (s:St) (f:Nat) (k:ByteArray) (g:FuncId) (p:Nat) (u:W4) (er:Int) (hq:QSt w h s) (hf:s.Fit f) (hm:f < 10000000000) (hfn:rgFn Tryz.prog g=true)
  (hG:∀ W,Below w.heap.size w W→Calls Tryz.prog g #[uV (s.amt k),.pointer (some ⟨p,0,none⟩)] W fun e w'=>e = .returned (.tuple #[uV u,.int .i64 er])∧Below W.heap.size W w') :
  Calls Tryz.prog 155 #[.pointer h.ptr,.string k,.func (.func g) #[] #[.pointer (some ⟨p,0,none⟩)]] w fun e w'=>e = .returned (.int .i64 er)∧QOn w h (if er=0 then h.st s (s.setAmt k u) else s) w':=by
 have HA:=Lib.hid (camount_q w h s f k hq hf (by omega))
 have HG:Hid (∀ W,Below w.heap.size w W→Calls Tryz.prog g #[uV (s.amt k),.pointer (some ⟨p,0,none⟩)] W fun e w'=>e = .returned (.tuple #[uV u,.int .i64 er])∧Below w.heap.size w w'):=fun W hW=>(hG W hW).mono fun e w' ⟨he,hb⟩=>⟨he,bl_then hW hb⟩
 have HS:Hid (∀ W,Below w.heap.size w W→Calls Tryz.prog 81 #[.pointer h.ptr,.string k,uV u] W fun e w'=>e = .returned (.tuple #[])∧QOn w h (h.st s (s.setAmt k u)) w'):=fun W hW =>
  (cset_q W h s k u (hq.below hW) (Nat.lt_of_le_of_lt hf.size (by omega))).mono fun e w' ⟨he,hO⟩=>⟨he,hO.back hW⟩
 have HQ:Hid (∀ W,Below w.heap.size w W→QOn w h s W):=fun W hW=>(QOn.start hq).below hW
 generalize s.amt k=x at *
 have hcf:∀ w,(callFunc g #[uV x,.pointer (some ⟨p,0,none⟩)]).run Tryz.prog w = .ok (.enter g #[uV x,.pointer (some ⟨p,0,none⟩)]) w:=run_fn hfn _
 generalize h.st s (s.setAmt k u)=s2 at *
 generalize h.ptr=q at *
 clear hG hq hf hfn
 by_cases h0:er=0
 ·subst h0
  simp only [if_true]
  go_enter Tryz.func155,Tryz.ntmps155
  go_wp2_with fail
  refine Calls.mono HA.out ?_
  rintro e w2 ⟨rfl,hb2⟩
  have HG2:=Lib.hid (HG.out _ hb2)
  clear hb2 HA HG
  go_wp2_with fail
  refine Calls.mono HG2.out ?_
  rintro e w3 ⟨rfl,hb3⟩
  have HS3:=Lib.hid (HS.out _ (bl_alloc hb3 (.cells (uL u) 24)))
  clear hb3 HG2 HS HQ
  go_wp2_with fail
  refine Calls.mono HS3.out ?_
  rintro e w4 ⟨rfl,hO⟩
  have HO:=Lib.hid hO
  clear hO HS3
  go_wp2_with fail
  go_ret
  exact ⟨rfl,HO.out⟩
 ·rw [if_neg h0]
  have hd:decide (er=0)=false:=decide_eq_false h0
  go_enter Tryz.func155,Tryz.ntmps155
  go_wp2_with fail
  refine Calls.mono HA.out ?_
  rintro e w2 ⟨rfl,hb2⟩
  have HG2:=Lib.hid (HG.out _ hb2)
  clear hb2 HA HG
  go_wp2_with fail
  refine Calls.mono HG2.out ?_
  rintro e w3 ⟨rfl,hb3⟩
  have HO:=Lib.hid (HQ.out _ (bl_alloc hb3 (.cells (uL u) 24)))
  clear hb3 HG2 HS HQ
  go_wp2_with fail
  go_ret
  exact ⟨rfl,HO.out⟩
end Go.Proofs.YtnkilceibkkjlaaGreat
