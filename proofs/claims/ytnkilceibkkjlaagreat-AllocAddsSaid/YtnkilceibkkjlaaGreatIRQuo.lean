/- What is proved here: plain facts for a division of digits bit by bit. No condition. tallageref01.QuoRem of the reference. Its condition: digits below 2^32, fewer than 10^4. the reference's told, Add, Sub, Mul, Cmp of numbers of 256 bits. Their condition: words below 2^64. the reference's Cmp, and its rounded parts Down and Up. Their condition: words below 2^64. -/
import Derived.Test.YtnkilceibkkjlaaGreatIRSum
set_option maxRecDepth 100000
set_option maxHeartbeats 16000000
namespace Go.Proofs.YtnkilceibkkjlaaGreat
open Go.RowKit
structure QAt (w:World) (aa ab:Option Addr) (da db:List Nat) (ca cb:Nat) (Q R:List Nat) (wr:World):Prop where
 b:Below w.heap.size w wr
 a:DgIn wr aa da ca
 c:DgIn wr ab db cb
 q:wr.heap[w.heap.size]? = some (.cells (aD Q) 181 (0,0))
 r:wr.heap[w.heap.size+1]? = some (.cells (aD R) 181 (0,0))
 na:∀ g,aa=some ⟨g,0,none⟩→g < w.heap.size∨da = []
 nb:∀ g,ab=some ⟨g,0,none⟩→g < w.heap.size∨db = []
theorem QAt.start {w:World} {aa ab:Option Addr} {da db:List Nat} {ca cb:Nat} (hA:DgIn w aa da ca) (hB:DgIn w ab db cb) (hbo:∀ g,ab=some ⟨g,0,none⟩→g < w.heap.size∨db = []) (n m:Nat):QAt w aa ab da db ca cb (List.replicate n 0) (List.replicate m 0) ((w.alloc (.cells (aD (List.replicate n 0)) 181)).alloc (.cells (aD (List.replicate m 0)) 181)):=by
 have hb:=bl_alloc (bl_alloc (Below.refl _ w) (.cells (aD (List.replicate n 0)) 181)) (.cells (aD (List.replicate m 0)) 181)
 refine ⟨hb,hA.below hb,hB.below hb,?_,?_,hA.old,hbo⟩
 ·rw [heap_alloc_old _ _ (by simp)]; exact heap_alloc_new w _
 ·have:=heap_alloc_new (w.alloc (.cells (aD (List.replicate n 0)) 181)) (.cells (aD (List.replicate m 0)) 181)
  rwa [World.size_alloc] at this
theorem QAt.below {w wr w':World} {aa ab:Option Addr} {da db:List Nat} {ca cb:Nat} {Q R:List Nat} (h:QAt w aa ab da db ca cb Q R wr) (hb:Below wr.heap.size wr w'):QAt w aa ab da db ca cb Q R w' :=
 ⟨bl_then h.b hb,h.a.below hb,h.c.below hb,(hb.block _ (lt_of_at h.q)).trans h.q,(hb.block _ (lt_of_at h.r)).trans h.r,h.na,h.nb⟩
theorem QAt.putR {w wr:World} {aa ab:Option Addr} {da db:List Nat} {ca cb:Nat} {Q R:List Nat} (h:QAt w aa ab da db ca cb Q R wr) (k v:Nat):QAt w aa ab da db ca cb Q (R.set k v) (wr.setCell ⟨w.heap.size+1,k,none⟩ (.int .u32 v)):=by
 have hk:∀ g,g < w.heap.size→(wr.setCell ⟨w.heap.size+1,k,none⟩ (.int .u32 v)).heap[g]? = wr.heap[g]?:=fun g hg=>Below.heap_setCell _ _ _ _ (by simp; omega)
 refine ⟨h.b.setCell (p:=⟨w.heap.size+1,k,none⟩) (by simp) _,h.a.keep h.na hk,h.c.keep h.nb hk,by rw [Below.heap_setCell _ _ _ _ (by simp)]; exact h.q,?_,h.na,h.nb⟩
 rw [← aD_set R k v]
 exact heap_setCell_same _ _ _ _ _ _ h.r
theorem QAt.putQ {w wr:World} {aa ab:Option Addr} {da db:List Nat} {ca cb:Nat} {Q R:List Nat} (h:QAt w aa ab da db ca cb Q R wr) (k v:Nat):QAt w aa ab da db ca cb (Q.set k v) R (wr.setCell ⟨w.heap.size,k,none⟩ (.int .u32 v)):=by
 have hk:∀ g,g < w.heap.size→(wr.setCell ⟨w.heap.size,k,none⟩ (.int .u32 v)).heap[g]? = wr.heap[g]?:=fun g hg=>Below.heap_setCell _ _ _ _ (by simp; omega)
 refine ⟨h.b.setCell (p:=⟨w.heap.size,k,none⟩) (by simp) _,h.a.keep h.na hk,h.c.keep h.nb hk,?_,by rw [Below.heap_setCell _ _ _ _ (by simp)]; exact h.r,h.na,h.nb⟩
 rw [← aD_set Q k v]
 exact heap_setCell_same _ _ _ _ _ _ h.q
structure QRs (N d k la lb:Nat) (Q R:List Nat):Prop where
 ql:Q.length=la
 qo:DOk Q
 qn:natOf Q=(N / 2 ^ k / d)*2 ^ k
 rl:R.length=lb+1
 ro:DOk R
 rn:natOf R=N / 2 ^ k % d
def subW (x y:W4):W4:=if uN y≤uN x then uOf (uN x - uN y) else (0,0,0,0)
def subB (x y:W4):Bool:=decide (uN y≤uN x)
theorem subW_of {x y:W4} (hx:x.Ok) (hy:y.Ok):(if uSubC x y=0 then uSubS x y else (0,0,0,0))=subW x y∧(uSubC x y == 0)=subB x y:=by
 unfold subW subB
 by_cases h:uN y≤uN x
 ·rw [if_pos h,decide_eq_true h,if_pos ((uSubC_iff hx hy).2 h),uSubS_of hx hy h,(uSubC_iff hx hy).2 h]
  exact ⟨rfl,rfl⟩
 ·have hn:¬ uSubC x y=0:=fun e=>h ((uSubC_iff hx hy).1 e)
  rw [if_neg h,decide_eq_false h,if_neg hn,beq_eq_false_iff_ne.2 hn]
  exact ⟨rfl,rfl⟩
theorem subW_ok (x y:W4):(subW x y).Ok:=by
 unfold subW; split
 ·exact uOf_ok _
 ·exact u0_ok
theorem usub_is (x y:W4) (hx:x.Ok) (hy:y.Ok) (w:World):Calls Tryz.prog 71 #[uV x,uV y] w fun e w'=>e = .returned (.tuple #[uV (subW x y),.bool (subB x y)])∧Below w.heap.size w w':=by
 have:=usub_any x y hx hy w
 rw [(subW_of hx hy).1,(subW_of hx hy).2] at this
 exact this
def sumW (x y:W4):W4:=toW (uN x+uN y)
def sumB (x y:W4):Bool:=toB (uN x+uN y)
theorem toW_ok (n:Nat):(toW n).Ok:=by
 unfold toW; split
 ·exact uOf_ok _
 ·exact u0_ok
theorem uadd_is (x y:W4) (hx:x.Ok) (hy:y.Ok) (w:World):Calls Tryz.prog 79 #[uV x,uV y] w fun e w'=>e = .returned (.tuple #[uV (sumW x y),.bool (sumB x y)])∧Below w.heap.size w w':=by
 have:=uadd_any x y hx hy w
 have e:(if uAddC x y=0 then uAddS x y else (0,0,0,0))=sumW x y∧(uAddC x y == 0)=sumB x y:=by
  unfold sumW sumB toW toB W256
  by_cases h:uAddC x y=0
  ·have h2:=uAddC_iff.1 h
   rw [if_pos h,if_pos h2,decide_eq_true h2,uAddS_of,h]
   exact ⟨rfl,rfl⟩
  ·have h2:=fun e=>h (uAddC_iff.2 e)
   rw [if_neg h,if_neg h2,decide_eq_false h2,beq_eq_false_iff_ne.2 h]
   exact ⟨rfl,rfl⟩
 rw [e.1,e.2] at this
 exact this
theorem u_len (x:W4) (hx:x.Ok):(digs (uN x)).length≤8:=digs_len (by
 have:=uN_lt hx
 have e:BP 8=115792089237316195423570985008687907853269984665640564039457584007913129639936:=by decide
 omega)
theorem told_any (w:World) (v:Value) (n:Nat) (hs:(digs n).length < 1000000) (h:DgAt w v (digs n)):Calls Tryz.prog 76 #[v] w fun e w'=>e = .returned (.tuple #[uV (toW n),.bool (toB n)])∧Below w.heap.size w w':=by
 have HT:Hid (Calls Tryz.prog 110 #[v] (w.alloc (.cells (uL (0,0,0,0)) 24)) fun e w'=>e = .returned (.tuple #[uV (toW n),.bool (toB n)])∧Below w.heap.size w w'∧w'.heap[w.heap.size]? = some (.cells (uL (0,0,0,0)) 24 (0,0))):=by
  have:=tou_any (w.alloc (.cells (uL (0,0,0,0)) 24)) v (digs n) (digs_ok n) hs (h.below (bl_alloc (Below.refl _ _) _))
  rw [natOf_digs] at this
  exact this.mono fun e w' ⟨he,hb⟩=>⟨he,newRow _ hb⟩
 clear h hs
 generalize toW n=r at *
 generalize toB n=b at *
 go_enter Tryz.func76,Tryz.ntmps76
 go_wp2_with fail
 refine Calls.mono HT.out ?_
 rintro e w1 ⟨rfl,hb,hrow⟩
 obtain ⟨_,_,_,_,r0,r1,r2,r3⟩:=row4 hrow
 have HR:=Lib.hid hrow
 have HB:=Lib.hid hb
 clear hb hrow HT
 go_wp2_with fail
 refine bodyPost_ret (results_cell_row2 rfl _ _ w.heap.size 24 (uL r) (0,0) _ rfl (put4 HR.out r) Tryz.underlying24 rfl (by kernel_rfl)) rfl ?_
 exact ⟨rfl,put4_below HB.out (by omega) _ _ _ _⟩
abbrev m3 (w:World) (x y:W4):World:=((w.alloc (.cells (uL x) 24)).alloc (.cells (uL y) 24)).alloc (.cells #[.int .u64 0,.int .u64 0,.int .u64 0,.int .u64 0] 24)
theorem MAt.cel {w wr:World} {x y:W4} (h:MAt w x y wr):Cel4 w.heap.size x wr∧Cel4 (w.heap.size+1) y wr:=⟨cel4_row h.x,cel4_row h.y⟩
theorem of_keep {w W:World} {x y:W4} (z:W4) (hz:z.Ok) (h:MAt w x y W):Calls Tryz.prog 57 #[uV z] W fun e w'=>(∃ u,e = .returned u∧DgAt w' u (digs (uN z)))∧Below W.heap.size W w'∧MAt w x y w'∧Cel4 w.heap.size x w'∧Cel4 (w.heap.size+1) y w' :=
 (rof_any z hz W).mono fun _ _ ⟨⟨u,he,hD⟩,hb⟩=>⟨⟨u,he,hD.dg⟩,hb,h.below hb,(h.below hb).cel⟩
theorem rsub_u (x y:W4) (hx:x.Ok) (hy:y.Ok) (w:World):Calls Tryz.prog 22 #[uV x,uV y] w fun e w'=>e = .returned (.tuple #[uV (subW x y),.bool (subB x y)])∧Below w.heap.size w w':=by
 have H0:Hid (MAt w x y (m3 w x y).drew):=(MAt.start w x y).below (bl_drew (Below.refl _ _))
 have hm:=MAt.start w x y
 obtain ⟨p0,p1,p2,p3,_⟩:=row4 hm.x
 obtain ⟨q0,q1,q2,q3,_⟩:=row4 hm.y
 have HX:Hid (∀ W,MAt w x y W→_):=fun W h=>of_keep x hx h
 have HY:Hid (∀ W,MAt w x y W→_):=fun W h=>of_keep y hy h
 have hlx:=u_len x hx
 have hly:=u_len y hy
 clear hm
 by_cases hlt:uN x < uN y
 ·have HM:Hid (∀ W u v,MAt w x y W→DgAt W u (digs (uN x))→DgAt W v (digs (uN y))→Calls Tryz.prog 78 #[u,v] W fun e w'=>(∃ u,e = .returned (.tuple #[u,.bool false]))∧MAt w x y w'∧Cel4 w.heap.size x w'∧Cel4 (w.heap.size+1) y w'):=fun W u v h hu hv=>(minus_not W u v _ _ (digs_ok _) (digs_ok _) (by omega) (by omega) hu hv (by rw [natOf_digs,natOf_digs]; exact hlt)).mono fun e w' ⟨⟨u,he,_⟩,hb⟩=>⟨⟨u,he⟩,h.below hb,(h.below hb).cel⟩
  have e1:subW x y=(0,0,0,0):=if_neg (by omega)
  have e2:subB x y=false:=decide_eq_false (by omega)
  rw [e1,e2]
  clear hlt hlx hly e1 e2
  go_enter Tryz.func22,Tryz.ntmps22
  go_wp2_with fail
  go_region_held3 (fun w'=>w'.cell? ⟨w.heap.size,0,none⟩=some (.int .u64 x.1)∧w'.cell? ⟨w.heap.size,1,none⟩=some (.int .u64 x.2.1)∧w'.cell? ⟨w.heap.size,2,none⟩=some (.int .u64 x.2.2.1)∧w'.cell? ⟨w.heap.size,3,none⟩=some (.int .u64 x.2.2.2)∧w'.cell? ⟨w.heap.size+1,0,none⟩=some (.int .u64 y.1)∧w'.cell? ⟨w.heap.size+1,1,none⟩=some (.int .u64 y.2.1)∧w'.cell? ⟨w.heap.size+1,2,none⟩=some (.int .u64 y.2.2.1)∧w'.cell? ⟨w.heap.size+1,3,none⟩=some (.int .u64 y.2.2.2)) (first | assumption | go_keep)
   (first
    | (go_at_call 57; (with_reducible refine Calls.mono (HX.out _ H0.out) ?_); rintro e w2 ⟨⟨u2,rfl,hd2⟩,hb2,hM2,⟨a0,a1,a2,a3⟩,b0,b1,b2,b3⟩)
    | (go_at_call 57; (with_reducible refine Calls.mono (HY.out _ hM2) ?_); rintro e w3 ⟨⟨u3,rfl,hd3⟩,hb3,hM3,⟨c0,c1,c2,c3⟩,d0,d1,d2,d3⟩)
    | (go_at_call 78; (with_reducible refine Calls.mono (HM.out _ _ _ hM3 (hd2.below hb3) hd3) ?_); rintro e w4 ⟨⟨u4,rfl⟩,hM4,⟨e0,e1,e2,e3⟩,f0,f1,f2,f3⟩))
  all_goals
   have HM4:=Lib.hid hM4
   clear hM2 hM3 hb2 hb3 hd2 hd3 a0 a1 a2 a3 b0 b1 b2 b3 c0 c1 c2 c3 d0 d1 d2 d3 p0 p1 p2 p3 q0 q1 q2 q3 hM4 e0 e1 e2 e3 f0 f1 f2 f3
   obtain ⟨_,_,_,_,r0,r1,r2,r3⟩:=row4 HM4.out.r
   go_wp2_with fail
   refine bodyPost_ret (results_cell_row2 rfl _ _ (w.heap.size+2) 24 (uL (0,0,0,0)) (0,0) _ rfl (put4 HM4.out.r (0,0,0,0)) Tryz.underlying24 rfl (by kernel_rfl)) rfl ?_
   exact ⟨rfl,put4_below HM4.out.b (by omega) _ _ _ _⟩
 ·have HM:Hid (∀ W u v,MAt w x y W→DgAt W u (digs (uN x))→DgAt W v (digs (uN y))→Calls Tryz.prog 78 #[u,v] W fun e w'=>(∃ u,e = .returned (.tuple #[u,.bool true])∧DgAt w' u (digs (uN x - uN y)))∧MAt w x y w'∧Cel4 w.heap.size x w'∧Cel4 (w.heap.size+1) y w'):=fun W u v h hu hv=>by
   have:=minus_any W u v _ _ (digs_ok _) (digs_ok _) (by omega) (by omega) hu hv (by rw [natOf_digs,natOf_digs]; omega)
   rw [natOf_digs,natOf_digs] at this
   exact this.mono fun e w' ⟨⟨u,he,hD⟩,hb⟩=>⟨⟨u,he,hD.dg⟩,h.below hb,(h.below hb).cel⟩
  have hld:(digs (uN x - uN y)).length < 1000000:=by
   have:(digs (uN x - uN y)).length≤8:=digs_len (by
    have h1:=uN_lt hx
    have e:BP 8=115792089237316195423570985008687907853269984665640564039457584007913129639936:=by decide
    omega)
   omega
  have HTo:Hid (∀ W u,MAt w x y W→DgAt W u (digs (uN x - uN y))→Calls Tryz.prog 76 #[u] W fun e w'=>e = .returned (.tuple #[uV (toW (uN x - uN y)),.bool (toB (uN x - uN y))])∧MAt w x y w'):=fun W u h hu=>(told_any W u _ hld hu).mono fun e w' ⟨he,hb⟩=>⟨he,h.below hb⟩
  have h256:uN x - uN y < W256:=by have:=uN_lt hx; unfold W256; omega
  have e1:subW x y=toW (uN x - uN y):=by unfold subW toW; rw [if_pos (by omega),if_pos h256]
  have e2:subB x y=toB (uN x - uN y):=by unfold subB toB; rw [decide_eq_true h256]; exact decide_eq_true (by omega)
  rw [e1,e2]
  clear hlt hlx hly e1 e2 h256 hld
  generalize toW (uN x - uN y)=rw4 at *
  generalize toB (uN x - uN y)=rb at *
  go_enter Tryz.func22,Tryz.ntmps22
  go_wp2_with fail
  go_region_held3 (fun w'=>w'.cell? ⟨w.heap.size,0,none⟩=some (.int .u64 x.1)∧w'.cell? ⟨w.heap.size,1,none⟩=some (.int .u64 x.2.1)∧w'.cell? ⟨w.heap.size,2,none⟩=some (.int .u64 x.2.2.1)∧w'.cell? ⟨w.heap.size,3,none⟩=some (.int .u64 x.2.2.2)∧w'.cell? ⟨w.heap.size+1,0,none⟩=some (.int .u64 y.1)∧w'.cell? ⟨w.heap.size+1,1,none⟩=some (.int .u64 y.2.1)∧w'.cell? ⟨w.heap.size+1,2,none⟩=some (.int .u64 y.2.2.1)∧w'.cell? ⟨w.heap.size+1,3,none⟩=some (.int .u64 y.2.2.2)) (first | assumption | go_keep)
   (first
    | (go_at_call 57; (with_reducible refine Calls.mono (HX.out _ H0.out) ?_); rintro e w2 ⟨⟨u2,rfl,hd2⟩,hb2,hM2,⟨a0,a1,a2,a3⟩,b0,b1,b2,b3⟩)
    | (go_at_call 57; (with_reducible refine Calls.mono (HY.out _ hM2) ?_); rintro e w3 ⟨⟨u3,rfl,hd3⟩,hb3,hM3,⟨c0,c1,c2,c3⟩,d0,d1,d2,d3⟩)
    | (go_at_call 78; (with_reducible refine Calls.mono (HM.out _ _ _ hM3 (hd2.below hb3) hd3) ?_); rintro e w4 ⟨⟨u4,rfl,hd4⟩,hM4,⟨e0,e1,e2,e3⟩,f0,f1,f2,f3⟩))
  all_goals
   have HT4:=Lib.hid (HTo.out _ _ hM4 hd4)
   clear hM2 hM3 hb2 hb3 hd2 hd3 a0 a1 a2 a3 b0 b1 b2 b3 c0 c1 c2 c3 d0 d1 d2 d3 p0 p1 p2 p3 q0 q1 q2 q3 hM4 hd4 e0 e1 e2 e3 f0 f1 f2 f3
   go_wp2_with fail
   refine Calls.mono HT4.out ?_
   rintro e w5 ⟨rfl,hM5⟩
   have HM5:=Lib.hid hM5
   obtain ⟨_,_,_,_,r0,r1,r2,r3⟩:=row4 hM5.r
   clear hM5 HT4
   go_wp2_with fail
   refine bodyPost_ret (results_cell_row2 rfl _ _ (w.heap.size+2) 24 (uL rw4) (0,0) _ rfl (put4 HM5.out.r rw4) Tryz.underlying24 rfl (by kernel_rfl)) rfl ?_
   exact ⟨rfl,put4_below HM5.out.b (by omega) _ _ _ _⟩
structure TAt2 (w:World) (x y:W4) (wr:World):Prop where
 b:Below w.heap.size w wr
 hx:wr.heap[w.heap.size]? = some (.cells (uL x) 24 (0,0))
 hy:wr.heap[w.heap.size+1]? = some (.cells (uL y) 24 (0,0))
theorem TAt2.start (w:World) (x y:W4):TAt2 w x y ((w.alloc (.cells (uL x) 24)).alloc (.cells (uL y) 24)):=by
 refine ⟨bl_alloc (bl_alloc (Below.refl _ _) _) _,?_,?_⟩
 ·rw [heap_alloc_old _ _ (by simp)]; exact heap_alloc_new w _
 ·have:=heap_alloc_new (w.alloc (.cells (uL x) 24)) (.cells (uL y) 24)
  rwa [World.size_alloc] at this
theorem TAt2.below {w wr w':World} {x y:W4} (h:TAt2 w x y wr) (hb:Below wr.heap.size wr w'):TAt2 w x y w' :=
 ⟨bl_then h.b hb,(hb.block _ (lt_of_at h.hx)).trans h.hx,(hb.block _ (lt_of_at h.hy)).trans h.hy⟩
theorem of_keep2 {w W:World} {x y:W4} (z:W4) (hz:z.Ok) (h:TAt2 w x y W):Calls Tryz.prog 57 #[uV z] W fun e w'=>(∃ u,e = .returned u∧DgAt w' u (digs (uN z)))∧Below W.heap.size W w'∧TAt2 w x y w'∧Cel4 w.heap.size x w'∧Cel4 (w.heap.size+1) y w' :=
 (rof_any z hz W).mono fun _ _ ⟨⟨u,he,hD⟩,hb⟩=>⟨⟨u,he,hD.dg⟩,hb,h.below hb,cel4_row (h.below hb).hx,cel4_row (h.below hb).hy⟩
theorem rcmp_u (x y:W4) (hx:x.Ok) (hy:y.Ok) (w:World):Calls Tryz.prog 10 #[uV x,uV y] w fun e w'=>e = .returned (.int .i64 (uCmp x y))∧Below w.heap.size w w':=by
 have H0:Hid (TAt2 w x y ((w.alloc (.cells (uL x) 24)).alloc (.cells (uL y) 24)).drew):=(TAt2.start w x y).below (bl_drew (Below.refl _ _))
 have hm:=TAt2.start w x y
 obtain ⟨p0,p1,p2,p3,_⟩:=row4 hm.hx
 obtain ⟨q0,q1,q2,q3,_⟩:=row4 hm.hy
 have HX:Hid (∀ W,TAt2 w x y W→_):=fun W h=>of_keep2 x hx h
 have HY:Hid (∀ W,TAt2 w x y W→_):=fun W h=>of_keep2 y hy h
 have hlx:=u_len x hx
 have hly:=u_len y hy
 have HM:Hid (∀ W u v,TAt2 w x y W→DgAt W u (digs (uN x))→DgAt W v (digs (uN y))→Calls Tryz.prog 56 #[u,v] W fun e w'=>e = .returned (.int .i64 (uCmp x y))∧TAt2 w x y w'∧Cel4 w.heap.size x w'∧Cel4 (w.heap.size+1) y w'):=fun W u v h hu hv=>by
  have:=ncmp_any W u v _ _ (digs_ok _) (digs_ok _) (by omega) (by omega) hu hv
  rw [natOf_digs,natOf_digs] at this
  exact this.mono fun e w' ⟨he,hb⟩=>⟨he,h.below hb,cel4_row (h.below hb).hx,cel4_row (h.below hb).hy⟩
 clear hm hlx hly
 generalize uCmp x y=r at *
 go_enter Tryz.func10,Tryz.ntmps10
 go_wp2_with fail
 go_region_held3 (fun w'=>w'.cell? ⟨w.heap.size,0,none⟩=some (.int .u64 x.1)∧w'.cell? ⟨w.heap.size,1,none⟩=some (.int .u64 x.2.1)∧w'.cell? ⟨w.heap.size,2,none⟩=some (.int .u64 x.2.2.1)∧w'.cell? ⟨w.heap.size,3,none⟩=some (.int .u64 x.2.2.2)∧w'.cell? ⟨w.heap.size+1,0,none⟩=some (.int .u64 y.1)∧w'.cell? ⟨w.heap.size+1,1,none⟩=some (.int .u64 y.2.1)∧w'.cell? ⟨w.heap.size+1,2,none⟩=some (.int .u64 y.2.2.1)∧w'.cell? ⟨w.heap.size+1,3,none⟩=some (.int .u64 y.2.2.2)) (first | assumption | go_keep)
  (first
   | (go_at_call 57; (with_reducible refine Calls.mono (HX.out _ H0.out) ?_); rintro e w2 ⟨⟨u2,rfl,hd2⟩,hb2,hM2,⟨a0,a1,a2,a3⟩,b0,b1,b2,b3⟩)
   | (go_at_call 57; (with_reducible refine Calls.mono (HY.out _ hM2) ?_); rintro e w3 ⟨⟨u3,rfl,hd3⟩,hb3,hM3,⟨c0,c1,c2,c3⟩,d0,d1,d2,d3⟩)
   | (go_at_call 56; (with_reducible refine Calls.mono (HM.out _ _ _ hM3 (hd2.below hb3) hd3) ?_); rintro e w4 ⟨rfl,hM4,⟨e0,e1,e2,e3⟩,f0,f1,f2,f3⟩))
 all_goals
  have HM4:=Lib.hid hM4.b
  clear hM2 hM3 hM4 hb2 hb3 hd2 hd3 a0 a1 a2 a3 b0 b1 b2 b3 c0 c1 c2 c3 d0 d1 d2 d3 e0 e1 e2 e3 f0 f1 f2 f3 p0 p1 p2 p3 q0 q1 q2 q3
  go_wp2_with fail
  go_ret
  exact ⟨rfl,HM4.out⟩
end Go.Proofs.YtnkilceibkkjlaaGreat
