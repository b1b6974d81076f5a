/- What is proved here: the reference's rounded parts Down and Up. Their condition: words below 2^64. the reference's rounded part Up. Its condition: words below 2^64. the reference's Down and Up of any numbers, in one sentence each; the program's quotient in the same words. Their condition: words below 2^64. the reference's Mul of numbers of 256 bits. Its condition: words below 2^64. the reference's Add of numbers of 25 -/
import Derived.Test.YtnkilceibkkjlaaGreatHRQuo
import Derived.Test.YtnkilceibkkjlaaGreatHDivP
import Derived.Test.YtnkilceibkkjlaaGreatHMQuo
set_option maxRecDepth 100000
set_option maxHeartbeats 16000000
namespace Go.Proofs.YtnkilceibkkjlaaGreat
open Go.RowKit
def dnW (x y z:W4):W4:=if uN z=0 then (0,0,0,0) else toW (uN x*uN y / uN z)
def dnB (x y z:W4):Bool:=decide (uN z≠0) && toB (uN x*uN y / uN z)
structure N3 (w:World) (x y z:W4) (wr:World):Prop where
 b:Below w.heap.size w wr
 hx:wr.heap[w.heap.size]? = some (.cells (uL x) 24 (0,0))
 hy:wr.heap[w.heap.size+1]? = some (.cells (uL y) 24 (0,0))
 hz:wr.heap[w.heap.size+2]? = some (.cells (uL z) 24 (0,0))
 hr:wr.heap[w.heap.size+3]? = some (.cells (uL (0,0,0,0)) 24 (0,0))
abbrev w3r (w:World) (x y z:W4):World:=(((w.alloc (.cells (uL x) 24)).alloc (.cells (uL y) 24)).alloc (.cells (uL z) 24)).alloc (.cells #[.int .u64 0,.int .u64 0,.int .u64 0,.int .u64 0] 24)
theorem N3.start (w:World) (x y z:W4):N3 w x y z (w3r w x y z):=by
 refine ⟨bl_alloc (bl_alloc (bl_alloc (bl_alloc (Below.refl _ _) _) _) _) _,?_,?_,?_,?_⟩
 ·rw [heap_alloc_old _ _ (by first | (simp; done) | (simp; omega)),heap_alloc_old _ _ (by first | (simp; done) | (simp; omega)),heap_alloc_old _ _ (by simp)]; exact heap_alloc_new w _
 ·rw [heap_alloc_old _ _ (by first | (simp; done) | (simp; omega)),heap_alloc_old _ _ (by simp)]
  have:=heap_alloc_new (w.alloc (.cells (uL x) 24)) (.cells (uL y) 24)
  rwa [World.size_alloc] at this
 ·rw [heap_alloc_old _ _ (by simp)]
  have:=heap_alloc_new ((w.alloc (.cells (uL x) 24)).alloc (.cells (uL y) 24)) (.cells (uL z) 24)
  rwa [World.size_alloc,World.size_alloc] at this
 ·have:=heap_alloc_new (((w.alloc (.cells (uL x) 24)).alloc (.cells (uL y) 24)).alloc (.cells (uL z) 24)) (.cells #[.int .u64 0,.int .u64 0,.int .u64 0,.int .u64 0] 24)
  rwa [World.size_alloc,World.size_alloc,World.size_alloc] at this
theorem N3.below {w wr w':World} {x y z:W4} (h:N3 w x y z wr) (hb:Below wr.heap.size wr w'):N3 w x y z w' :=
 ⟨bl_then h.b hb,(hb.block _ (lt_of_at h.hx)).trans h.hx,(hb.block _ (lt_of_at h.hy)).trans h.hy,(hb.block _ (lt_of_at h.hz)).trans h.hz,(hb.block _ (lt_of_at h.hr)).trans h.hr⟩
abbrev C3 (w:World) (x y z:W4) (w':World):Prop:=Cel4 w.heap.size x w'∧Cel4 (w.heap.size+1) y w'∧Cel4 (w.heap.size+2) z w'
theorem N3.cel {w wr:World} {x y z:W4} (h:N3 w x y z wr):C3 w x y z wr:=⟨cel4_row h.hx,cel4_row h.hy,cel4_row h.hz⟩
theorem digs_mono {a b:Nat} (h:a≤b):(digs a).length≤(digs b).length:=by
 refine digs_len ?_
 exact Nat.lt_of_le_of_lt h (digs_len_ge (Nat.le_refl _))
end Go.Proofs.YtnkilceibkkjlaaGreat
namespace Go.Proofs.YtnkilceibkkjlaaGreat
open Go.RowKit
theorem md_dn (x y d:W4):mdQ x y d=dnW x y d∧mdB x y d=dnB x y d:=by
 unfold mdQ mdB dnW dnB toW toB W256
 by_cases h0:uN d=0
 ·rw [h0]; simp
 ·have hd:0 < uN d:=Nat.pos_of_ne_zero h0
  have he:(uN x*uN y / 115792089237316195423570985008687907853269984665640564039457584007913129639936 < uN d)=(uN x*uN y / uN d < 115792089237316195423570985008687907853269984665640564039457584007913129639936):=by
   rw [Nat.div_lt_iff_lt_mul (by decide),Nat.div_lt_iff_lt_mul hd,Nat.mul_comm (uN d)]
  rw [if_neg h0,decide_eq_true h0,Bool.true_and]
  simp only [he,and_self]
theorem dnW_ok (x y d:W4):(dnW x y d).Ok:=by
 unfold dnW toW
 split
 ·exact u0_ok
 ·split
  ·exact uOf_ok _
  ·exact u0_ok
theorem rmul_u (x y:W4) (hx:x.Ok) (hy:y.Ok) (w:World):Calls Tryz.prog 38 #[uV x,uV y] w fun e w'=>e = .returned (.tuple #[uV (toW (uN x*uN y)),.bool (toB (uN x*uN y))])∧Below w.heap.size w w':=by
 have H0:Hid (MAt w x y (m3 w x y).drew):=(MAt.start w x y).below (bl_drew (Below.refl _ _))
 have hm:=MAt.start w x y
 obtain ⟨p0,p1,p2,p3,_⟩:=row4 hm.x
 obtain ⟨q0,q1,q2,q3,_⟩:=row4 hm.y
 have HX:Hid (∀ W,MAt w x y W→_):=fun W h=>of_keep x hx h
 have HY:Hid (∀ W,MAt w x y W→_):=fun W h=>of_keep y hy h
 have hlx:=u_len x hx
 have hly:=u_len y hy
 clear hm
 have HM:Hid (∀ W u v,MAt w x y W→DgAt W u (digs (uN x))→DgAt W v (digs (uN y))→Calls Tryz.prog 108 #[u,v] W fun e w'=>(∃ u,e = .returned u∧DgAt w' u (digs (uN x*uN y)))∧MAt w x y w'∧Cel4 w.heap.size x w'∧Cel4 (w.heap.size+1) y w'):=fun W u v h hu hv=>by
  have:=times_any W u v _ _ (digs_ok _) (digs_ok _) (by omega) (by omega) hu hv
  rw [natOf_digs,natOf_digs] at this
  exact this.mono fun e w' ⟨⟨u,he,hD⟩,hb⟩=>⟨⟨u,he,hD.dg⟩,h.below hb,(h.below hb).cel⟩
 have hld:(digs (uN x*uN y)).length < 1000000:=by
  have h1:=uN_lt hx
  have h2:=uN_lt hy
  have:(digs (uN x*uN y)).length≤17:=digs_len (by
   have e:BP 17=13407807929942597099574024998205846127479365820592393377723561443721764030073546976801874298166903427690031858186486050853753882811946569946433649006084096*4294967296:=by decide
   have h3:=Nat.mul_le_mul (Nat.le_of_lt h1) (Nat.le_of_lt h2)
   omega)
  omega
 have HTo:Hid (∀ W u,MAt w x y W→DgAt W u (digs (uN x*uN y))→Calls Tryz.prog 76 #[u] W fun e w'=>e = .returned (.tuple #[uV (toW (uN x*uN y)),.bool (toB (uN x*uN y))])∧MAt w x y w'∧Cel4 w.heap.size x w'∧Cel4 (w.heap.size+1) y w'):=fun W u h hu=>(told_any W u _ hld hu).mono fun e w' ⟨he,hb⟩=>⟨he,h.below hb,(h.below hb).cel⟩
 clear hlx hly hld
 generalize toW (uN x*uN y)=rw4 at *
 generalize toB (uN x*uN y)=rb at *
 go_enter Tryz.func38,Tryz.ntmps38
 go_wp2_with fail
 go_upto_region 1 with fail
 go_cut [5] (fun s5 wc=>s5 = .bool rb∧Below w.heap.size w wc∧wc.heap[w.heap.size+2]? = some (.cells (uL rw4) 24 (0,0)))
 case first =>
  go_region_with
   (first
    | (go_at_call 57; (with_reducible refine Calls.mono (HX.out _ H0.out) ?_); rintro e w2 ⟨⟨u2,rfl,hd2⟩,hb2,hM2,⟨a0,a1,a2,a3⟩,b0,b1,b2,b3⟩)
    | (go_at_call 57; (with_reducible refine Calls.mono (HY.out _ hM2) ?_); rintro e w3 ⟨⟨u3,rfl,hd3⟩,hb3,hM3,⟨c0,c1,c2,c3⟩,d0,d1,d2,d3⟩)
    | (go_at_call 108; (with_reducible refine Calls.mono (HM.out _ _ _ hM3 (hd2.below hb3) hd3) ?_); rintro e w4 ⟨⟨u4,rfl,hd4⟩,hM4,⟨e0,e1,e2,e3⟩,f0,f1,f2,f3⟩)
    | (go_at_call 76; (with_reducible refine Calls.mono (HTo.out _ _ hM4 hd4) ?_); rintro e w5 ⟨rfl,hM5,⟨g0,g1,g2,g3⟩,i0,i1,i2,i3⟩; obtain ⟨k0,k1,k2,k3,r0,r1,r2,r3⟩:=row4 hM5.r))
  all_goals
   have HM5:=Lib.hid hM5
   clear hM2 hM3 hb2 hb3 hd2 hd3 a0 a1 a2 a3 b0 b1 b2 b3 c0 c1 c2 c3 d0 d1 d2 d3 p0 p1 p2 p3 q0 q1 q2 q3 hM4 hd4 e0 e1 e2 e3 f0 f1 f2 f3 hM5 g0 g1 g2 g3 i0 i1 i2 i3
   have HPt:=Lib.hid (put4 HM5.out.r rw4)
   have HPb:=Lib.hid (put4_below (g:=w.heap.size+2) HM5.out.b (by omega) (.int .u64 rw4.1) (.int .u64 rw4.2.1) (.int .u64 rw4.2.2.1) (.int .u64 rw4.2.2.2))
   go_wp2_with fail
   go_meet
   exact ⟨rfl,HPb.out,HPt.out⟩
 case rest =>
  obtain ⟨rfl,hb,hrow⟩:=hcut
  go_wp2_with fail
  refine bodyPost_ret (results_cell_row2 rfl _ _ (w.heap.size+2) 24 (uL rw4) (0,0) _ rfl hrow Tryz.underlying24 rfl (by kernel_rfl)) rfl ?_
  exact ⟨rfl,hb⟩
theorem radd_u (x y:W4) (hx:x.Ok) (hy:y.Ok) (w:World):Calls Tryz.prog 21 #[uV x,uV y] w fun e w'=>e = .returned (.tuple #[uV (toW (uN x+uN y)),.bool (toB (uN x+uN y))])∧Below w.heap.size w w':=by
 have H0:Hid (MAt w x y (m3 w x y).drew):=(MAt.start w x y).below (bl_drew (Below.refl _ _))
 have hm:=MAt.start w x y
 obtain ⟨p0,p1,p2,p3,_⟩:=row4 hm.x
 obtain ⟨q0,q1,q2,q3,_⟩:=row4 hm.y
 have HX:Hid (∀ W,MAt w x y W→_):=fun W h=>of_keep x hx h
 have HY:Hid (∀ W,MAt w x y W→_):=fun W h=>of_keep y hy h
 have hlx:=u_len x hx
 have hly:=u_len y hy
 clear hm
 have HM:Hid (∀ W u v,MAt w x y W→DgAt W u (digs (uN x))→DgAt W v (digs (uN y))→Calls Tryz.prog 77 #[u,v] W fun e w'=>(∃ u,e = .returned u∧DgAt w' u (digs (uN x+uN y)))∧MAt w x y w'∧Cel4 w.heap.size x w'∧Cel4 (w.heap.size+1) y w'):=fun W u v h hu hv=>by
  have:=plus_any W u v _ _ (digs_ok _) (digs_ok _) (by omega) (by omega) hu hv
  rw [natOf_digs,natOf_digs] at this
  exact this.mono fun e w' ⟨⟨u,he,hD⟩,hb⟩=>⟨⟨u,he,hD.dg⟩,h.below hb,(h.below hb).cel⟩
 have hld:(digs (uN x+uN y)).length < 1000000:=by
  have h1:=uN_lt hx
  have h2:=uN_lt hy
  have:(digs (uN x+uN y)).length≤17:=digs_len (by
   have e:BP 17=13407807929942597099574024998205846127479365820592393377723561443721764030073546976801874298166903427690031858186486050853753882811946569946433649006084096*4294967296:=by decide
   omega)
  omega
 have HTo:Hid (∀ W u,MAt w x y W→DgAt W u (digs (uN x+uN y))→Calls Tryz.prog 76 #[u] W fun e w'=>e = .returned (.tuple #[uV (toW (uN x+uN y)),.bool (toB (uN x+uN y))])∧MAt w x y w'∧Cel4 w.heap.size x w'∧Cel4 (w.heap.size+1) y w'):=fun W u h hu=>(told_any W u _ hld hu).mono fun e w' ⟨he,hb⟩=>⟨he,h.below hb,(h.below hb).cel⟩
 clear hlx hly hld
 generalize toW (uN x+uN y)=rw4 at *
 generalize toB (uN x+uN y)=rb at *
 go_enter Tryz.func21,Tryz.ntmps21
 go_wp2_with fail
 go_upto_region 1 with fail
 go_cut [5] (fun s5 wc=>s5 = .bool rb∧Below w.heap.size w wc∧wc.heap[w.heap.size+2]? = some (.cells (uL rw4) 24 (0,0)))
 case first =>
  go_region_with
   (first
    | (go_at_call 57; (with_reducible refine Calls.mono (HX.out _ H0.out) ?_); rintro e w2 ⟨⟨u2,rfl,hd2⟩,hb2,hM2,⟨a0,a1,a2,a3⟩,b0,b1,b2,b3⟩)
    | (go_at_call 57; (with_reducible refine Calls.mono (HY.out _ hM2) ?_); rintro e w3 ⟨⟨u3,rfl,hd3⟩,hb3,hM3,⟨c0,c1,c2,c3⟩,d0,d1,d2,d3⟩)
    | (go_at_call 77; (with_reducible refine Calls.mono (HM.out _ _ _ hM3 (hd2.below hb3) hd3) ?_); rintro e w4 ⟨⟨u4,rfl,hd4⟩,hM4,⟨e0,e1,e2,e3⟩,f0,f1,f2,f3⟩)
    | (go_at_call 76; (with_reducible refine Calls.mono (HTo.out _ _ hM4 hd4) ?_); rintro e w5 ⟨rfl,hM5,⟨g0,g1,g2,g3⟩,i0,i1,i2,i3⟩; obtain ⟨k0,k1,k2,k3,r0,r1,r2,r3⟩:=row4 hM5.r))
  all_goals
   have HM5:=Lib.hid hM5
   clear hM2 hM3 hb2 hb3 hd2 hd3 a0 a1 a2 a3 b0 b1 b2 b3 c0 c1 c2 c3 d0 d1 d2 d3 p0 p1 p2 p3 q0 q1 q2 q3 hM4 hd4 e0 e1 e2 e3 f0 f1 f2 f3 hM5 g0 g1 g2 g3 i0 i1 i2 i3
   have HPt:=Lib.hid (put4 HM5.out.r rw4)
   have HPb:=Lib.hid (put4_below (g:=w.heap.size+2) HM5.out.b (by omega) (.int .u64 rw4.1) (.int .u64 rw4.2.1) (.int .u64 rw4.2.2.1) (.int .u64 rw4.2.2.2))
   go_wp2_with fail
   go_meet
   exact ⟨rfl,HPb.out,HPt.out⟩
 case rest =>
  obtain ⟨rfl,hb,hrow⟩:=hcut
  go_wp2_with fail
  refine bodyPost_ret (results_cell_row2 rfl _ _ (w.heap.size+2) 24 (uL rw4) (0,0) _ rfl hrow Tryz.underlying24 rfl (by kernel_rfl)) rfl ?_
  exact ⟨rfl,hb⟩
end Go.Proofs.YtnkilceibkkjlaaGreat
