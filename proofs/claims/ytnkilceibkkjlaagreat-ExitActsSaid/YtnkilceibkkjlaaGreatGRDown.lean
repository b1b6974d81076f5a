/- What is proved here: the reference's rounded parts Down and Up. Their condition: words below 2^64. th -/
import Derived.Test.YtnkilceibkkjlaaGreatGRQuo
import Derived.Test.YtnkilceibkkjlaaGreatGDivP
import Derived.Test.YtnkilceibkkjlaaGreatGMQuo
set_option maxRecDepth 100000
set_option maxHeartbeats 16000000
namespace Go.Proofs.YtnkilceibkkjlaaGreat
open Go.RowKit
def dnW(x y z:W4):W4:=if uN z=0 then(0,0,0,0)else toW (uN x*uN y/uN z)
def dnB(x y z:W4):Bool:=decide (uN z≠0)&&toB (uN x*uN y/uN z)
structure N3 (w:World) (x y z:W4) (wr:World):Prop where
 b:Below w.heap.size w wr
 hx:wr.heap[w.heap.size]?=some (.cells (uL x) 24 (0,0))
 hy:wr.heap[w.heap.size+1]?=some (.cells (uL y) 24 (0,0))
 hz:wr.heap[w.heap.size+2]?=some (.cells (uL z) 24 (0,0))
 hr:wr.heap[w.heap.size+3]?=some (.cells (uL (0,0,0,0)) 24 (0,0))
abbrev w3r(w:World)(x y z:W4):World:=(((w.alloc (.cells (uL x) 24)).alloc (.cells (uL y) 24)).alloc (.cells (uL z) 24)).alloc (.cells #[.int .u64 0,.int .u64 0,.int .u64 0,.int .u64 0] 24)
theorem N3.start(w:World)(x y z:W4):N3 w x y z (w3r w x y z):=by
 refine⟨z04 (z04 (z04 (z04 zb _) _) _) _,?_,?_,?_,?_⟩
 ·rw[heap_alloc_old _ _ (by first | (simp;done)|(simp;omega)),heap_alloc_old _ _ (by first | (simp;done)|(simp;omega)),heap_alloc_old _ _ (by simp)];exact heap_alloc_new w _
 ·rw[heap_alloc_old _ _ (by first | (simp;done)|(simp;omega)),heap_alloc_old _ _ (by simp)];have:=heap_alloc_new (w.alloc (.cells (uL x) 24)) (.cells (uL y) 24)
  rwa [World.size_alloc]at this
 ·rw[heap_alloc_old _ _ (by simp)];have:=heap_alloc_new ((w.alloc (.cells (uL x) 24)).alloc (.cells (uL y) 24)) (.cells (uL z) 24)
  rwa [World.size_alloc,World.size_alloc]at this
 ·have:=heap_alloc_new (((w.alloc (.cells (uL x) 24)).alloc (.cells (uL y) 24)).alloc (.cells (uL z) 24)) (.cells #[.int .u64 0,.int .u64 0,.int .u64 0,.int .u64 0] 24)
  rwa [World.size_alloc,World.size_alloc,World.size_alloc]at this
theorem N3.below{w wr w':World}{x y z:W4}(h:N3 w x y z wr)(hb:Below wr.heap.size wr w'):N3 w x y z w':=
 ⟨z0a h.b hb,(hb.block _ (z05 h.hx)).trans h.hx,(hb.block _ (z05 h.hy)).trans h.hy,(hb.block _ (z05 h.hz)).trans h.hz,(hb.block _ (z05 h.hr)).trans h.hr⟩
abbrev C3(w:World)(x y z:W4)(w':World):Prop:=Cel4 w.heap.size x w'/\Cel4 (w.heap.size+1) y w'/\Cel4 (w.heap.size+2) z w'
theorem N3.cel{w wr:World}{x y z:W4}(h:N3 w x y z wr):C3 w x y z wr:=⟨z1t h.hx,z1t h.hy,z1t h.hz⟩
theorem zeu{w W:World}{x y z:W4}(u:W4)(hu:u.Ok)(h:N3 w x y z W):Calls Tryz.prog 57 #[uV u] W fun e w'=>(∃ v,e= .returned v/\DgAt w' v (digs (uN u)))/\Below W.heap.size W w'/\N3 w x y z w'/\C3 w x y z w':=
 (zj6 u hu W).mono fun _ _ ⟨⟨v,he,hD⟩,hb⟩=>⟨⟨v,he,hD.dg⟩,hb,h.below hb,(h.below hb).cel⟩
theorem zxr(x y:W4)(hx:x.Ok)(hy:y.Ok):(digs (uN x*uN y)).length<=17:=z2x (by
 have h1:=z2m hx
 have h2:=z2m hy
 have e:BP 17=13407807929942597099574024998205846127479365820592393377723561443721764030073546976801874298166903427690031858186486050853753882811946569946433649006084096*4294967296:=by decide
 have h3:=Nat.mul_le_mul (Nat.le_of_lt h1) (Nat.le_of_lt h2)
 omega)
theorem zre{a b:Nat}(h:a<=b):(digs a).length<=(digs b).length:=by
 refine z2x ?_;exact Nat.lt_of_le_of_lt h (z9a (Nat.le_refl _))
theorem zlx(x y:W4)(w:World):Calls Tryz.prog 190 #[uV x,uV y,uV (0,0,0,0)] w fun e w'=>e= .returned (.tuple #[uV (0,0,0,0),.bool false])/\Below w.heap.size w w':=by
 have H0:=zh (N3.start w x y (0,0,0,0));obtain⟨a0,a1,a2,a3,_⟩:=row4 H0.out.hz;obtain⟨b0,b1,b2,b3,r0,r1,r2,r3⟩:=row4 H0.out.hr;have hE:∀ w,(Op.equalIn 10000 24 (.agg #[.int .u64 0,.int .u64 0,.int .u64 0,.int .u64 0]) (.agg #[.int .u64 0,.int .u64 0,.int .u64 0,.int .u64 0])).run Tryz.prog w= .ok true w:=fun w=>eqU (0,0,0,0) (0,0,0,0) w
 go_enter Tryz.func190,Tryz.ntmps190;go_wp2_with fail;refine bodyPost_ret (z00 rfl _ _ (w.heap.size+3) 24 (uL (0,0,0,0)) (0,0) _ rfl H0.out.hr Tryz.underlying24 rfl (by kernel_rfl)) rfl ?_;exact⟨rfl,H0.out.b⟩
theorem zq9(x y z:W4)(hx:x.Ok)(hy:y.Ok)(hz:z.Ok)(h0:uN z≠0)(w:World):Calls Tryz.prog 190 #[uV x,uV y,uV z] w fun e w'=>e= .returned (.tuple #[uV (toW (uN x*uN y/uN z)),.bool (toB (uN x*uN y/uN z))])/\Below w.heap.size w w':=by
 have hm:=N3.start w x y z;have H0:Hid (N3 w x y z (w3r w x y z).drew):=hm.below (z0g zb);have hne:z≠(0,0,0,0):=fun e=>h0 (zc1.1 e)
 have hE:=z7u hne;obtain⟨p0,p1,p2,p3,_⟩:=row4 hm.hx;obtain⟨q0,q1,q2,q3,_⟩:=row4 hm.hy;obtain⟨s0,s1,s2,s3,_⟩:=row4 hm.hz;have HX:Hid (∀ W,N3 w x y z W->_):=fun W h=>zeu x hx h
 have HY:Hid (∀ W,N3 w x y z W->_):=fun W h=>zeu y hy h
 have HZ:Hid (∀ W,N3 w x y z W->_):=fun W h=>zeu z hz h
 have hlx:=zce x hx;have hly:=zce y hy;have hlz:=zce z hz;have hml:=zxr x y hx hy;have HM:Hid (∀ W u v,N3 w x y z W->DgAt W u (digs (uN x))->DgAt W v (digs (uN y))->Calls Tryz.prog 108 #[u,v] W fun e w'=>(∃ u,e= .returned u/\DgAt w' u (digs (uN x*uN y)))/\N3 w x y z w'/\C3 w x y z w'):=fun W u v h hu hv=>by
  have:=times_any W u v _ _ (z1q _) (z1q _) (by omega) (by omega) hu hv;rw[z0n,z0n]at this;exact this.mono fun e w' ⟨⟨u,he,hD⟩,hb⟩=>⟨⟨u,he,hD.dg⟩,h.below hb,(h.below hb).cel⟩
 have HQ:Hid (∀ W u v,N3 w x y z W->DgAt W u (digs (uN x*uN y))->DgAt W v (digs (uN z))->Calls Tryz.prog 109 #[u,v] W fun e w'=>(∃ u v,e= .returned (.tuple #[u,v])/\DgAt w' u (digs (uN x*uN y/uN z)))/\N3 w x y z w'/\C3 w x y z w'):=fun W u v h hu hv=>by
  have:=zn3 W u v _ _ (z1q _) (z1q _) (by omega) (by omega) hu hv (by rw[z0n];exact h0);rw[z0n,z0n]at this;exact this.mono fun e w' ⟨⟨u,v,he,hD,_⟩,hb⟩=>⟨⟨u,v,he,hD⟩,h.below hb,(h.below hb).cel⟩
 have hql:(digs (uN x*uN y/uN z)).length<1000000:=by have:=zre (Nat.div_le_self (uN x*uN y) (uN z));omega
 have HT:Hid (∀ W u,N3 w x y z W->DgAt W u (digs (uN x*uN y/uN z))->Calls Tryz.prog 110 #[u] W fun e w'=>e= .returned (.tuple #[uV (toW (uN x*uN y/uN z)),.bool (toB (uN x*uN y/uN z))])/\N3 w x y z w'):=fun W u h hu=>by
  have:=zr1 W u _ (z1q _) hql hu;rw[z0n]at this;exact this.mono fun e w' ⟨he,hb⟩=>⟨he,h.below hb⟩
 clear hm hlx hly hlz hml hql hne h0;generalize toW (uN x*uN y/uN z)=rw4 at *
 generalize toB (uN x*uN y/uN z)=rb at *
 generalize uN x*uN y/uN z=qn at *
 go_enter Tryz.func190,Tryz.ntmps190;go_wp2_with fail
 go_region_held3 (fun w'=>w'.cell? ⟨w.heap.size,0,none⟩=some (.int .u64 x.1)/\w'.cell? ⟨w.heap.size,1,none⟩=some (.int .u64 x.2.1)/\w'.cell? ⟨w.heap.size,2,none⟩=some (.int .u64 x.2.2.1)/\w'.cell? ⟨w.heap.size,3,none⟩=some (.int .u64 x.2.2.2)/\w'.cell? ⟨w.heap.size+1,0,none⟩=some (.int .u64 y.1)/\w'.cell? ⟨w.heap.size+1,1,none⟩=some (.int .u64 y.2.1)/\w'.cell? ⟨w.heap.size+1,2,none⟩=some (.int .u64 y.2.2.1)/\w'.cell? ⟨w.heap.size+1,3,none⟩=some (.int .u64 y.2.2.2)/\w'.cell? ⟨w.heap.size+1+1,0,none⟩=some (.int .u64 z.1)/\w'.cell? ⟨w.heap.size+1+1,1,none⟩=some (.int .u64 z.2.1)/\w'.cell? ⟨w.heap.size+1+1,2,none⟩=some (.int .u64 z.2.2.1)/\w'.cell? ⟨w.heap.size+1+1,3,none⟩=some (.int .u64 z.2.2.2)) (first | assumption | go_keep)
  (first
   | (go_at_call 57;(with_reducible refine zm (HX.out _ H0.out) ?_);rintro e w2 ⟨⟨u2,rfl,hd2⟩,hb2,hM2,⟨a0,a1,a2,a3⟩,⟨b0,b1,b2,b3⟩,c0,c1,c2,c3⟩)
   | (go_at_call 57;(with_reducible refine zm (HY.out _ hM2) ?_);rintro e w3 ⟨⟨u3,rfl,hd3⟩,hb3,hM3,⟨d0,d1,d2,d3⟩,⟨e0,e1,e2,e3⟩,f0,f1,f2,f3⟩)
   | (go_at_call 108;(with_reducible refine zm (HM.out _ _ _ hM3 (hd2.below hb3) hd3) ?_);rintro e w4 ⟨⟨u4,rfl,hd4⟩,hM4,⟨g0,g1,g2,g3⟩,⟨i0,i1,i2,i3⟩,j0,j1,j2,j3⟩)
   | (go_at_call 57;(with_reducible refine zm (HZ.out _ hM4) ?_);rintro e w5 ⟨⟨u5,rfl,hd5⟩,hb5,hM5,⟨k0,k1,k2,k3⟩,⟨l0,l1,l2,l3⟩,m0,m1,m2,m3⟩)
   | (go_at_call 109;(with_reducible refine zm (HQ.out _ _ _ hM5 (hd4.below hb5) hd5) ?_);rintro e w6 ⟨⟨u6,u7,rfl,hd6⟩,hM6,⟨n0,n1,n2,n3⟩,⟨o0,o1,o2,o3⟩,t0,t1,t2,t3⟩))
 all_goals
  have HT6:=zh (HT.out _ _ hM6 hd6);clear hM2 hM3 hM4 hM5 hM6 hb2 hb3 hb5 hd2 hd3 hd4 hd5 hd6 a0 a1 a2 a3 b0 b1 b2 b3 c0 c1 c2 c3 d0 d1 d2 d3 e0 e1 e2 e3 f0 f1 f2 f3 g0 g1 g2 g3 i0 i1 i2 i3 j0 j1 j2 j3 k0 k1 k2 k3 l0 l1 l2 l3 m0 m1 m2 m3 n0 n1 n2 n3 o0 o1 o2 o3 t0 t1 t2 t3 p0 p1 p2 p3 q0 q1 q2 q3 s0 s1 s2 s3;go_wp2_with fail;refine zm HT6.out ?_;rintro e w7 ⟨rfl,hM7⟩;obtain⟨_,_,_,_,r0,r1,r2,r3⟩:=row4 hM7.hr;have HM7:=zh hM7;clear hM7 HT6;go_wp2_with fail;refine bodyPost_ret (z00 rfl _ _ (w.heap.size+3) 24 (uL rw4) (0,0) _ rfl (put4 HM7.out.hr rw4) Tryz.underlying24 rfl (by kernel_rfl)) rfl ?_;exact⟨rfl,z09 HM7.out.b (by omega) _ _ _ _⟩
end Go.Proofs.YtnkilceibkkjlaaGreat
namespace Go.Proofs.YtnkilceibkkjlaaGreat
open Go.RowKit
theorem zjo(x y z:W4)(hx:x.Ok)(hy:y.Ok)(hz:z.Ok)(w:World):Calls Tryz.prog 190 #[uV x,uV y,uV z] w fun e w'=>e= .returned (.tuple #[uV (dnW x y z),.bool (dnB x y z)])/\Below w.heap.size w w':=by
 unfold dnW dnB
 by_cases h0:uN z=0
 ·have hz0:z=(0,0,0,0):=zc1.2 h0;rw[if_pos h0,decide_eq_false (by simpa using h0),Bool.false_and,hz0];exact zlx x y w
 ·rw[if_neg h0,decide_eq_true h0,Bool.true_and];exact zq9 x y z hx hy hz h0 w
theorem zym(x y d:W4):mdQ x y d=dnW x y d/\mdB x y d=dnB x y d:=by
 unfold mdQ mdB dnW dnB toW toB W256
 by_cases h0:uN d=0
 ·rw[h0];simp
 ·have hd:0<uN d:=Nat.pos_of_ne_zero h0;have he:(uN x*uN y/115792089237316195423570985008687907853269984665640564039457584007913129639936<uN d)=(uN x*uN y/uN d<115792089237316195423570985008687907853269984665640564039457584007913129639936):=by
   rw[Nat.div_lt_iff_lt_mul (by decide),Nat.div_lt_iff_lt_mul hd,Nat.mul_comm (uN d)]
  rw[if_neg h0,decide_eq_true h0,Bool.true_and];simp only[he,and_self]
theorem zvm(x y d:W4):(dnW x y d).Ok:=by
 unfold dnW toW;split
 ·exact z6u
 ·split
  ·exact z1z _
  ·exact z6u
theorem zyp(x y:W4)(hx:x.Ok)(hy:y.Ok)(w:World):Calls Tryz.prog 38 #[uV x,uV y] w fun e w'=>e= .returned (.tuple #[uV (toW (uN x*uN y)),.bool (toB (uN x*uN y))])/\Below w.heap.size w w':=by
 have H0:Hid (MAt w x y (m3 w x y).drew):=(MAt.start w x y).below (z0g zb);have hm:=MAt.start w x y;obtain⟨p0,p1,p2,p3,_⟩:=row4 hm.x;obtain⟨q0,q1,q2,q3,_⟩:=row4 hm.y;have HX:Hid (∀ W,MAt w x y W->_):=fun W h=>zai x hx h
 have HY:Hid (∀ W,MAt w x y W->_):=fun W h=>zai y hy h
 have hlx:=zce x hx;have hly:=zce y hy;clear hm;have HM:Hid (∀ W u v,MAt w x y W->DgAt W u (digs (uN x))->DgAt W v (digs (uN y))->Calls Tryz.prog 108 #[u,v] W fun e w'=>(∃ u,e= .returned u/\DgAt w' u (digs (uN x*uN y)))/\MAt w x y w'/\Cel4 w.heap.size x w'/\Cel4 (w.heap.size+1) y w'):=fun W u v h hu hv=>by
  have:=times_any W u v _ _ (z1q _) (z1q _) (by omega) (by omega) hu hv;rw[z0n,z0n]at this;exact this.mono fun e w' ⟨⟨u,he,hD⟩,hb⟩=>⟨⟨u,he,hD.dg⟩,h.below hb,(h.below hb).cel⟩
 have hld:(digs (uN x*uN y)).length<1000000:=by
  have h1:=z2m hx;have h2:=z2m hy
  have:(digs (uN x*uN y)).length<=17:=z2x (by
   have e:BP 17=13407807929942597099574024998205846127479365820592393377723561443721764030073546976801874298166903427690031858186486050853753882811946569946433649006084096*4294967296:=by decide
   have h3:=Nat.mul_le_mul (Nat.le_of_lt h1) (Nat.le_of_lt h2)
   omega)
  omega
 have HTo:Hid (∀ W u,MAt w x y W->DgAt W u (digs (uN x*uN y))->Calls Tryz.prog 76 #[u] W fun e w'=>e= .returned (.tuple #[uV (toW (uN x*uN y)),.bool (toB (uN x*uN y))])/\MAt w x y w'/\Cel4 w.heap.size x w'/\Cel4 (w.heap.size+1) y w'):=fun W u h hu=>(zg8 W u _ hld hu).mono fun e w' ⟨he,hb⟩=>⟨he,h.below hb,(h.below hb).cel⟩
 clear hlx hly hld;generalize toW (uN x*uN y)=rw4 at *
 generalize toB (uN x*uN y)=rb at *
 go_enter Tryz.func38,Tryz.ntmps38;go_wp2_with fail;go_upto_region 1 with fail
 go_cut [5] (fun s5 wc=>s5= .bool rb/\Below w.heap.size w wc/\wc.heap[w.heap.size+2]?=some (.cells (uL rw4) 24 (0,0)))
 case first =>
  go_region_with
   (first
    | (go_at_call 57;(with_reducible refine zm (HX.out _ H0.out) ?_);rintro e w2 ⟨⟨u2,rfl,hd2⟩,hb2,hM2,⟨a0,a1,a2,a3⟩,b0,b1,b2,b3⟩)
    | (go_at_call 57;(with_reducible refine zm (HY.out _ hM2) ?_);rintro e w3 ⟨⟨u3,rfl,hd3⟩,hb3,hM3,⟨c0,c1,c2,c3⟩,d0,d1,d2,d3⟩)
    | (go_at_call 108;(with_reducible refine zm (HM.out _ _ _ hM3 (hd2.below hb3) hd3) ?_);rintro e w4 ⟨⟨u4,rfl,hd4⟩,hM4,⟨e0,e1,e2,e3⟩,f0,f1,f2,f3⟩)
    | (go_at_call 76;(with_reducible refine zm (HTo.out _ _ hM4 hd4) ?_);rintro e w5 ⟨rfl,hM5,⟨g0,g1,g2,g3⟩,i0,i1,i2,i3⟩;obtain⟨k0,k1,k2,k3,r0,r1,r2,r3⟩:=row4 hM5.r))
  all_goals
   have HM5:=zh hM5;clear hM2 hM3 hb2 hb3 hd2 hd3 a0 a1 a2 a3 b0 b1 b2 b3 c0 c1 c2 c3 d0 d1 d2 d3 p0 p1 p2 p3 q0 q1 q2 q3 hM4 hd4 e0 e1 e2 e3 f0 f1 f2 f3 hM5 g0 g1 g2 g3 i0 i1 i2 i3;have HPt:=zh (put4 HM5.out.r rw4);have HPb:=zh (z09 (g:=w.heap.size+2) HM5.out.b (by omega) (.int .u64 rw4.1) (.int .u64 rw4.2.1) (.int .u64 rw4.2.2.1) (.int .u64 rw4.2.2.2));go_wp2_with fail
   go_meet
   exact⟨rfl,HPb.out,HPt.out⟩
 case rest =>
  obtain⟨rfl,hb,hrow⟩:=hcut;go_wp2_with fail;refine bodyPost_ret (z00 rfl _ _ (w.heap.size+2) 24 (uL rw4) (0,0) _ rfl hrow Tryz.underlying24 rfl (by kernel_rfl)) rfl ?_;exact⟨rfl,hb⟩
theorem zvo(x y:W4)(hx:x.Ok)(hy:y.Ok)(w:World):Calls Tryz.prog 21 #[uV x,uV y] w fun e w'=>e= .returned (.tuple #[uV (toW (uN x+uN y)),.bool (toB (uN x+uN y))])/\Below w.heap.size w w':=by
 have H0:Hid (MAt w x y (m3 w x y).drew):=(MAt.start w x y).below (z0g zb);have hm:=MAt.start w x y;obtain⟨p0,p1,p2,p3,_⟩:=row4 hm.x;obtain⟨q0,q1,q2,q3,_⟩:=row4 hm.y;have HX:Hid (∀ W,MAt w x y W->_):=fun W h=>zai x hx h
 have HY:Hid (∀ W,MAt w x y W->_):=fun W h=>zai y hy h
 have hlx:=zce x hx;have hly:=zce y hy;clear hm;have HM:Hid (∀ W u v,MAt w x y W->DgAt W u (digs (uN x))->DgAt W v (digs (uN y))->Calls Tryz.prog 77 #[u,v] W fun e w'=>(∃ u,e= .returned u/\DgAt w' u (digs (uN x+uN y)))/\MAt w x y w'/\Cel4 w.heap.size x w'/\Cel4 (w.heap.size+1) y w'):=fun W u v h hu hv=>by
  have:=zt5 W u v _ _ (z1q _) (z1q _) (by omega) (by omega) hu hv;rw[z0n,z0n]at this;exact this.mono fun e w' ⟨⟨u,he,hD⟩,hb⟩=>⟨⟨u,he,hD.dg⟩,h.below hb,(h.below hb).cel⟩
 have hld:(digs (uN x+uN y)).length<1000000:=by
  have h1:=z2m hx;have h2:=z2m hy
  have:(digs (uN x+uN y)).length<=17:=z2x (by
   have e:BP 17=13407807929942597099574024998205846127479365820592393377723561443721764030073546976801874298166903427690031858186486050853753882811946569946433649006084096*4294967296:=by decide
   omega)
  omega
 have HTo:Hid (∀ W u,MAt w x y W->DgAt W u (digs (uN x+uN y))->Calls Tryz.prog 76 #[u] W fun e w'=>e= .returned (.tuple #[uV (toW (uN x+uN y)),.bool (toB (uN x+uN y))])/\MAt w x y w'/\Cel4 w.heap.size x w'/\Cel4 (w.heap.size+1) y w'):=fun W u h hu=>(zg8 W u _ hld hu).mono fun e w' ⟨he,hb⟩=>⟨he,h.below hb,(h.below hb).cel⟩
 clear hlx hly hld;generalize toW (uN x+uN y)=rw4 at *
 generalize toB (uN x+uN y)=rb at *
 go_enter Tryz.func21,Tryz.ntmps21;go_wp2_with fail;go_upto_region 1 with fail
 go_cut [5] (fun s5 wc=>s5= .bool rb/\Below w.heap.size w wc/\wc.heap[w.heap.size+2]?=some (.cells (uL rw4) 24 (0,0)))
 case first =>
  go_region_with
   (first
    | (go_at_call 57;(with_reducible refine zm (HX.out _ H0.out) ?_);rintro e w2 ⟨⟨u2,rfl,hd2⟩,hb2,hM2,⟨a0,a1,a2,a3⟩,b0,b1,b2,b3⟩)
    | (go_at_call 57;(with_reducible refine zm (HY.out _ hM2) ?_);rintro e w3 ⟨⟨u3,rfl,hd3⟩,hb3,hM3,⟨c0,c1,c2,c3⟩,d0,d1,d2,d3⟩)
    | (go_at_call 77;(with_reducible refine zm (HM.out _ _ _ hM3 (hd2.below hb3) hd3) ?_);rintro e w4 ⟨⟨u4,rfl,hd4⟩,hM4,⟨e0,e1,e2,e3⟩,f0,f1,f2,f3⟩)
    | (go_at_call 76;(with_reducible refine zm (HTo.out _ _ hM4 hd4) ?_);rintro e w5 ⟨rfl,hM5,⟨g0,g1,g2,g3⟩,i0,i1,i2,i3⟩;obtain⟨k0,k1,k2,k3,r0,r1,r2,r3⟩:=row4 hM5.r))
  all_goals
   have HM5:=zh hM5;clear hM2 hM3 hb2 hb3 hd2 hd3 a0 a1 a2 a3 b0 b1 b2 b3 c0 c1 c2 c3 d0 d1 d2 d3 p0 p1 p2 p3 q0 q1 q2 q3 hM4 hd4 e0 e1 e2 e3 f0 f1 f2 f3 hM5 g0 g1 g2 g3 i0 i1 i2 i3;have HPt:=zh (put4 HM5.out.r rw4);have HPb:=zh (z09 (g:=w.heap.size+2) HM5.out.b (by omega) (.int .u64 rw4.1) (.int .u64 rw4.2.1) (.int .u64 rw4.2.2.1) (.int .u64 rw4.2.2.2));go_wp2_with fail
   go_meet
   exact⟨rfl,HPb.out,HPt.out⟩
 case rest =>
  obtain⟨rfl,hb,hrow⟩:=hcut;go_wp2_with fail;refine bodyPost_ret (z00 rfl _ _ (w.heap.size+2) 24 (uL rw4) (0,0) _ rfl hrow Tryz.underlying24 rfl (by kernel_rfl)) rfl ?_;exact⟨rfl,hb⟩
end Go.Proofs.YtnkilceibkkjlaaGreat
