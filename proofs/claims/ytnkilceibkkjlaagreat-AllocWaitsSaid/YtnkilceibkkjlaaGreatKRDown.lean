/- What is proved here: the reference's rounded parts Down a -/
import Derived.Test.YtnkilceibkkjlaaGreatKRQuo
import Derived.Test.YtnkilceibkkjlaaGreatKMQuo
set_option maxRecDepth 100000
set_option maxHeartbeats 16000000
namespace Go.Proofs.YtnkilceibkkjlaaGreat
open Go.RowKit
def dnW(x y z:W4):W4:=if uN z=0 then(0,0,0,0)else toW (uN x*uN y/uN z)
def dnB(x y z:W4):Bool:=decide (uN z≠0)&&toB (uN x*uN y/uN z)
def upN(x y z:W4):Nat:=uN x*uN y/uN z+if uN x*uN y%uN z=0 then 0 else 1
def upW(x y z:W4):W4:=if uN z=0 then(0,0,0,0)else toW (upN x y z)
def upB(x y z:W4):Bool:=decide (uN z≠0)&&toB (upN x y z)
structure N3 (w:World) (x y z:W4) (wr:World):Prop where
 b:Below w.heap.size w wr
 hx:wr.heap[w.heap.size]?=some (.cells (uL x) 24 (0,0))
 hy:wr.heap[w.heap.size+1]?=some (.cells (uL y) 24 (0,0))
 hz:wr.heap[w.heap.size+2]?=some (.cells (uL z) 24 (0,0))
 hr:wr.heap[w.heap.size+3]?=some (.cells (uL (0,0,0,0)) 24 (0,0))
abbrev w3r(w:World)(x y z:W4):World:=(((w.alloc (.cells (uL x) 24)).alloc (.cells (uL y) 24)).alloc (.cells (uL z) 24)).alloc (.cells #[.int .u64 0,.int .u64 0,.int .u64 0,.int .u64 0] 24)
theorem N3.start(w:World)(x y z:W4):N3 w x y z (w3r w x y z):=by
 refine⟨z00 (z00 (z00 (z00 zb _) _) _) _,?_,?_,?_,?_⟩
 ·rw[heap_alloc_old _ _ (by first | (simp;done)|(simp;omega)),heap_alloc_old _ _ (by first | (simp;done)|(simp;omega)),heap_alloc_old _ _ (by simp)];exact heap_alloc_new w _
 ·rw[heap_alloc_old _ _ (by first | (simp;done)|(simp;omega)),heap_alloc_old _ _ (by simp)];have:=heap_alloc_new (w.alloc (.cells (uL x) 24)) (.cells (uL y) 24)
  rwa [World.size_alloc]at this
 ·rw[heap_alloc_old _ _ (by simp)];have:=heap_alloc_new ((w.alloc (.cells (uL x) 24)).alloc (.cells (uL y) 24)) (.cells (uL z) 24)
  rwa [World.size_alloc,World.size_alloc]at this
 ·have:=heap_alloc_new (((w.alloc (.cells (uL x) 24)).alloc (.cells (uL y) 24)).alloc (.cells (uL z) 24)) (.cells #[.int .u64 0,.int .u64 0,.int .u64 0,.int .u64 0] 24)
  rwa [World.size_alloc,World.size_alloc,World.size_alloc]at this
theorem N3.below{w wr w':World}{x y z:W4}(h:N3 w x y z wr)(hb:Below wr.heap.size wr w'):N3 w x y z w':=
 ⟨z0b h.b hb,(hb.block _ (z02 h.hx)).trans h.hx,(hb.block _ (z02 h.hy)).trans h.hy,(hb.block _ (z02 h.hz)).trans h.hz,(hb.block _ (z02 h.hr)).trans h.hr⟩
abbrev C3(w:World)(x y z:W4)(w':World):Prop:=Cel4 w.heap.size x w'/\Cel4 (w.heap.size+1) y w'/\Cel4 (w.heap.size+2) z w'
theorem N3.cel{w wr:World}{x y z:W4}(h:N3 w x y z wr):C3 w x y z wr:=⟨z1t h.hx,z1t h.hy,z1t h.hz⟩
theorem z8d{w W:World}{x y z:W4}(u:W4)(hu:u.Ok)(h:N3 w x y z W):Calls Tryz.prog 57 #[uV u] W fun e w'=>(∃ v,e= .returned v/\DgAt w' v (digs (uN u)))/\Below W.heap.size W w'/\N3 w x y z w'/\C3 w x y z w':=
 (zib u hu W).mono fun _ _ ⟨⟨v,he,hD⟩,hb⟩=>⟨⟨v,he,hD.dg⟩,hb,h.below hb,(h.below hb).cel⟩
theorem zph(x y:W4)(hx:x.Ok)(hy:y.Ok):(digs (uN x*uN y)).length<=17:=z3a (by
 have h1:=z2i hx
 have h2:=z2i hy
 have e:BP 17=13407807929942597099574024998205846127479365820592393377723561443721764030073546976801874298166903427690031858186486050853753882811946569946433649006084096*4294967296:=by decide
 have h3:=Nat.mul_le_mul (Nat.le_of_lt h1) (Nat.le_of_lt h2)
 omega)
theorem zh4{a b:Nat}(h:a<=b):(digs a).length<=(digs b).length:=by
 refine z3a ?_;exact Nat.lt_of_le_of_lt h (z6p (Nat.le_refl _))
theorem zt3(x y z:W4)(hx:x.Ok)(hy:y.Ok)(hz:z.Ok)(h0:uN z≠0)(hr0:uN x*uN y%uN z=0)(w:World):Calls Tryz.prog 202 #[uV x,uV y,uV z] w fun e w'=>e= .returned (.tuple #[uV (toW (uN x*uN y/uN z)),.bool (toB (uN x*uN y/uN z))])/\Below w.heap.size w w':=by
 have hm:=N3.start w x y z;have H0:Hid (N3 w x y z (w3r w x y z).drew):=hm.below (z0h zb);have hne:z≠(0,0,0,0):=fun e=>h0 (zek.1 e)
 have hE:=z7b hne;obtain⟨p0,p1,p2,p3,_⟩:=row4 hm.hx;obtain⟨q0,q1,q2,q3,_⟩:=row4 hm.hy;obtain⟨s0,s1,s2,s3,_⟩:=row4 hm.hz;have HX:Hid (∀ W,N3 w x y z W->_):=fun W h=>z8d x hx h
 have HY:Hid (∀ W,N3 w x y z W->_):=fun W h=>z8d y hy h
 have HZ:Hid (∀ W,N3 w x y z W->_):=fun W h=>z8d z hz h
 have hlx:=zb7 x hx;have hly:=zb7 y hy;have hlz:=zb7 z hz;have hml:=zph x y hx hy;have HM:Hid (∀ W u v,N3 w x y z W->DgAt W u (digs (uN x))->DgAt W v (digs (uN y))->Calls Tryz.prog 108 #[u,v] W fun e w'=>(∃ u,e= .returned u/\DgAt w' u (digs (uN x*uN y)))/\N3 w x y z w'/\C3 w x y z w'):=fun W u v h hu hv=>by
  have:=times_any W u v _ _ (z1h _) (z1h _) (by omega) (by omega) hu hv;rw[z0j,z0j]at this;exact this.mono fun e w' ⟨⟨u,he,hD⟩,hb⟩=>⟨⟨u,he,hD.dg⟩,h.below hb,(h.below hb).cel⟩
 have HQ:Hid (∀ W u v,N3 w x y z W->DgAt W u (digs (uN x*uN y))->DgAt W v (digs (uN z))->Calls Tryz.prog 109 #[u,v] W fun e w'=>(∃ u ad c,e= .returned (.tuple #[u,.slice ad (digs (uN x*uN y%uN z)).length c])/\DgAt w' u (digs (uN x*uN y/uN z)))/\N3 w x y z w'/\C3 w x y z w'):=fun W u v h hu hv=>by
  have:=zeo W u v _ _ (z1h _) (z1h _) (by omega) (by omega) hu hv (by rw[z0j];exact h0);rw[z0j,z0j]at this;exact this.mono fun e w' ⟨⟨u,v,he,hD,ad,c,h1,_⟩,hb⟩=>⟨⟨u,ad,c,by rw[he,h1],hD⟩,h.below hb,(h.below hb).cel⟩
 have hql:(digs (uN x*uN y/uN z)).length<1000000:=by have:=zh4 (Nat.div_le_self (uN x*uN y) (uN z));omega
 have HT:Hid (∀ W u,N3 w x y z W->DgAt W u (digs (uN x*uN y/uN z))->Calls Tryz.prog 110 #[u] W fun e w'=>e= .returned (.tuple #[uV (toW (uN x*uN y/uN z)),.bool (toB (uN x*uN y/uN z))])/\N3 w x y z w'):=fun W u h hu=>by
  have:=zja W u _ (z1h _) hql hu;rw[z0j]at this;exact this.mono fun e w' ⟨he,hb⟩=>⟨he,h.below hb⟩
 rw[hr0,z3w]at HQ;clear hm hlx hly hlz hml hql hne h0 hr0;generalize toW (uN x*uN y/uN z)=rw4 at *
 generalize toB (uN x*uN y/uN z)=rb at *
 generalize uN x*uN y/uN z=qn at *
 go_enter Tryz.func202,Tryz.ntmps202;go_wp2_with fail
 go_region_held3 (fun w'=>w'.cell? ⟨w.heap.size,0,none⟩=some (.int .u64 x.1)/\w'.cell? ⟨w.heap.size,1,none⟩=some (.int .u64 x.2.1)/\w'.cell? ⟨w.heap.size,2,none⟩=some (.int .u64 x.2.2.1)/\w'.cell? ⟨w.heap.size,3,none⟩=some (.int .u64 x.2.2.2)/\w'.cell? ⟨w.heap.size+1,0,none⟩=some (.int .u64 y.1)/\w'.cell? ⟨w.heap.size+1,1,none⟩=some (.int .u64 y.2.1)/\w'.cell? ⟨w.heap.size+1,2,none⟩=some (.int .u64 y.2.2.1)/\w'.cell? ⟨w.heap.size+1,3,none⟩=some (.int .u64 y.2.2.2)/\w'.cell? ⟨w.heap.size+1+1,0,none⟩=some (.int .u64 z.1)/\w'.cell? ⟨w.heap.size+1+1,1,none⟩=some (.int .u64 z.2.1)/\w'.cell? ⟨w.heap.size+1+1,2,none⟩=some (.int .u64 z.2.2.1)/\w'.cell? ⟨w.heap.size+1+1,3,none⟩=some (.int .u64 z.2.2.2)) (first | assumption | go_keep)
  (first
   | (go_at_call 57;(with_reducible refine zm (HX.out _ H0.out) ?_);rintro e w2 ⟨⟨u2,rfl,hd2⟩,hb2,hM2,⟨a0,a1,a2,a3⟩,⟨b0,b1,b2,b3⟩,c0,c1,c2,c3⟩)
   | (go_at_call 57;(with_reducible refine zm (HY.out _ hM2) ?_);rintro e w3 ⟨⟨u3,rfl,hd3⟩,hb3,hM3,⟨d0,d1,d2,d3⟩,⟨e0,e1,e2,e3⟩,f0,f1,f2,f3⟩)
   | (go_at_call 108;(with_reducible refine zm (HM.out _ _ _ hM3 (hd2.below hb3) hd3) ?_);rintro e w4 ⟨⟨u4,rfl,hd4⟩,hM4,⟨g0,g1,g2,g3⟩,⟨i0,i1,i2,i3⟩,j0,j1,j2,j3⟩)
   | (go_at_call 57;(with_reducible refine zm (HZ.out _ hM4) ?_);rintro e w5 ⟨⟨u5,rfl,hd5⟩,hb5,hM5,⟨k0,k1,k2,k3⟩,⟨l0,l1,l2,l3⟩,m0,m1,m2,m3⟩)
   | (go_at_call 109;(with_reducible refine zm (HQ.out _ _ _ hM5 (hd4.below hb5) hd5) ?_);rintro e w6 ⟨⟨u6,ad7,c7,rfl,hd6⟩,hM6,⟨n0,n1,n2,n3⟩,⟨o0,o1,o2,o3⟩,t0,t1,t2,t3⟩))
 all_goals
  have HT6:=zh (HT.out _ _ hM6 hd6);clear hM2 hM3 hM4 hM5 hM6 hb2 hb3 hb5 hd2 hd3 hd4 hd5 hd6 a0 a1 a2 a3 b0 b1 b2 b3 c0 c1 c2 c3 d0 d1 d2 d3 e0 e1 e2 e3 f0 f1 f2 f3 g0 g1 g2 g3 i0 i1 i2 i3 j0 j1 j2 j3 k0 k1 k2 k3 l0 l1 l2 l3 m0 m1 m2 m3 n0 n1 n2 n3 o0 o1 o2 o3 t0 t1 t2 t3 p0 p1 p2 p3 q0 q1 q2 q3 s0 s1 s2 s3;go_wp2_with fail;refine zm HT6.out ?_;rintro e w7 ⟨rfl,hM7⟩;obtain⟨_,_,_,_,r0,r1,r2,r3⟩:=row4 hM7.hr;have HM7:=zh hM7;clear hM7 HT6;go_wp2_with fail;refine bodyPost_ret (z03 rfl _ _ (w.heap.size+3) 24 (uL rw4) (0,0) _ rfl (put4 HM7.out.hr rw4) Tryz.underlying24 rfl (by kernel_rfl)) rfl ?_;exact⟨rfl,z0f HM7.out.b (by omega) _ _ _ _⟩
theorem zx9(x y z:W4)(hx:x.Ok)(hy:y.Ok)(hz:z.Ok)(h0:uN z≠0)(hr0:uN x*uN y%uN z≠0)(w:World):Calls Tryz.prog 202 #[uV x,uV y,uV z] w fun e w'=>e= .returned (.tuple #[uV (toW (uN x*uN y/uN z+1)),.bool (toB (uN x*uN y/uN z+1))])/\Below w.heap.size w w':=by
 have hm:=N3.start w x y z;have H0:Hid (N3 w x y z (w3r w x y z).drew):=hm.below (z0h zb);have hne:z≠(0,0,0,0):=fun e=>h0 (zek.1 e)
 have hE:=z7b hne;obtain⟨p0,p1,p2,p3,_⟩:=row4 hm.hx;obtain⟨q0,q1,q2,q3,_⟩:=row4 hm.hy;obtain⟨s0,s1,s2,s3,_⟩:=row4 hm.hz;have HX:Hid (∀ W,N3 w x y z W->_):=fun W h=>z8d x hx h
 have HY:Hid (∀ W,N3 w x y z W->_):=fun W h=>z8d y hy h
 have HZ:Hid (∀ W,N3 w x y z W->_):=fun W h=>z8d z hz h
 have hlx:=zb7 x hx;have hly:=zb7 y hy;have hlz:=zb7 z hz;have hml:=zph x y hx hy;have HM:Hid (∀ W u v,N3 w x y z W->DgAt W u (digs (uN x))->DgAt W v (digs (uN y))->Calls Tryz.prog 108 #[u,v] W fun e w'=>(∃ u,e= .returned u/\DgAt w' u (digs (uN x*uN y)))/\N3 w x y z w'/\C3 w x y z w'):=fun W u v h hu hv=>by
  have:=times_any W u v _ _ (z1h _) (z1h _) (by omega) (by omega) hu hv;rw[z0j,z0j]at this;exact this.mono fun e w' ⟨⟨u,he,hD⟩,hb⟩=>⟨⟨u,he,hD.dg⟩,h.below hb,(h.below hb).cel⟩
 have HQ:Hid (∀ W u v,N3 w x y z W->DgAt W u (digs (uN x*uN y))->DgAt W v (digs (uN z))->Calls Tryz.prog 109 #[u,v] W fun e w'=>(∃ u ad c,e= .returned (.tuple #[u,.slice ad (digs (uN x*uN y%uN z)).length c])/\DgAt w' u (digs (uN x*uN y/uN z)))/\N3 w x y z w'/\C3 w x y z w'):=fun W u v h hu hv=>by
  have:=zeo W u v _ _ (z1h _) (z1h _) (by omega) (by omega) hu hv (by rw[z0j];exact h0);rw[z0j,z0j]at this;exact this.mono fun e w' ⟨⟨u,v,he,hD,ad,c,h1,_⟩,hb⟩=>⟨⟨u,ad,c,by rw[he,h1],hD⟩,h.below hb,(h.below hb).cel⟩
 have hql0:(digs (uN x*uN y/uN z)).length<100000:=by have:=zh4 (Nat.div_le_self (uN x*uN y) (uN z));omega
 have hql:(digs (uN x*uN y/uN z+1)).length<1000000:=by
  have h1:uN x*uN y/uN z+1<BP 18:=by
   have h2:=Nat.lt_of_le_of_lt (Nat.div_le_self (uN x*uN y) (uN z)) (z6p hml);have h3:BP 18=4294967296*BP 17:=z6w 17;have h4:=zxk 17;refine Nat.lt_of_le_of_lt (Nat.succ_le_of_lt h2) ?_;rw[h3];omega
  have:=z3a h1;omega
 have HT:Hid (∀ W u,N3 w x y z W->DgAt W u (digs (uN x*uN y/uN z+1))->Calls Tryz.prog 110 #[u] W fun e w'=>e= .returned (.tuple #[uV (toW (uN x*uN y/uN z+1)),.bool (toB (uN x*uN y/uN z+1))])/\N3 w x y z w'):=fun W u h hu=>by
  have:=zja W u _ (z1h _) hql hu;rw[z0j]at this;exact this.mono fun e w' ⟨he,hb⟩=>⟨he,h.below hb⟩
 have HPl:Hid (∀ W u,N3 w x y z W->DgAt W u (digs (uN x*uN y/uN z))->Calls Tryz.prog 77 #[u,.slice (some ⟨W.heap.size,0,none⟩) 1 1] (W.alloc (.cells #[.int .u32 1] 181)) fun e w'=>(∃ u,e= .returned u/\DgAt w' u (digs (uN x*uN y/uN z+1)))/\N3 w x y z w'):=fun W u h hu=>by
  have hba:=z00 (Below.refl _ W) (.cells #[.int .u32 1] 181);have:=zjw (W.alloc (.cells #[.int .u32 1] 181)) u (.slice (some ⟨W.heap.size,0,none⟩) 1 1) (digs (uN x*uN y/uN z)) [1] (z1h _) (fun d hd=>by rw[List.mem_singleton.1 hd];decide) hql0 (by decide) (hu.below hba) (zgv (l:=[1]) (heap_alloc_new W (.cells #[.int .u32 1] 181)) rfl);rw[z0j,show z04 [1]=1 from rfl]at this
  exact this.mono fun e w' ⟨⟨u,he,hD⟩,hb⟩=>⟨⟨u,he,hD.dg⟩,(h.below hba).below hb⟩
 have hrl:0<(digs (uN x*uN y%uN z)).length:=by
  rw[z9l hr0];simp
 clear hm hlx hly hlz hml hql hql0 hne h0 hr0;generalize toW (uN x*uN y/uN z+1)=rw4 at *
 generalize toB (uN x*uN y/uN z+1)=rb at *
 generalize uN x*uN y/uN z=qn at *
 generalize (digs (uN x*uN y%uN z)).length=rl at *
 have hrl1:decide ((0:Int)<(rl:Int))=true:=decide_eq_true (by omega);have hrl2:decide (0<rl)=true:=decide_eq_true hrl;go_enter Tryz.func202,Tryz.ntmps202;go_wp2_with fail
 go_region_held3 (fun w'=>w'.cell? ⟨w.heap.size,0,none⟩=some (.int .u64 x.1)/\w'.cell? ⟨w.heap.size,1,none⟩=some (.int .u64 x.2.1)/\w'.cell? ⟨w.heap.size,2,none⟩=some (.int .u64 x.2.2.1)/\w'.cell? ⟨w.heap.size,3,none⟩=some (.int .u64 x.2.2.2)/\w'.cell? ⟨w.heap.size+1,0,none⟩=some (.int .u64 y.1)/\w'.cell? ⟨w.heap.size+1,1,none⟩=some (.int .u64 y.2.1)/\w'.cell? ⟨w.heap.size+1,2,none⟩=some (.int .u64 y.2.2.1)/\w'.cell? ⟨w.heap.size+1,3,none⟩=some (.int .u64 y.2.2.2)/\w'.cell? ⟨w.heap.size+1+1,0,none⟩=some (.int .u64 z.1)/\w'.cell? ⟨w.heap.size+1+1,1,none⟩=some (.int .u64 z.2.1)/\w'.cell? ⟨w.heap.size+1+1,2,none⟩=some (.int .u64 z.2.2.1)/\w'.cell? ⟨w.heap.size+1+1,3,none⟩=some (.int .u64 z.2.2.2)) (first | assumption | go_keep)
  (first
   | (go_at_call 57;(with_reducible refine zm (HX.out _ H0.out) ?_);rintro e w2 ⟨⟨u2,rfl,hd2⟩,hb2,hM2,⟨a0,a1,a2,a3⟩,⟨b0,b1,b2,b3⟩,c0,c1,c2,c3⟩)
   | (go_at_call 57;(with_reducible refine zm (HY.out _ hM2) ?_);rintro e w3 ⟨⟨u3,rfl,hd3⟩,hb3,hM3,⟨d0,d1,d2,d3⟩,⟨e0,e1,e2,e3⟩,f0,f1,f2,f3⟩)
   | (go_at_call 108;(with_reducible refine zm (HM.out _ _ _ hM3 (hd2.below hb3) hd3) ?_);rintro e w4 ⟨⟨u4,rfl,hd4⟩,hM4,⟨g0,g1,g2,g3⟩,⟨i0,i1,i2,i3⟩,j0,j1,j2,j3⟩)
   | (go_at_call 57;(with_reducible refine zm (HZ.out _ hM4) ?_);rintro e w5 ⟨⟨u5,rfl,hd5⟩,hb5,hM5,⟨k0,k1,k2,k3⟩,⟨l0,l1,l2,l3⟩,m0,m1,m2,m3⟩)
   | (go_at_call 109;(with_reducible refine zm (HQ.out _ _ _ hM5 (hd4.below hb5) hd5) ?_);rintro e w6 ⟨⟨u6,ad7,c7,rfl,hd6⟩,hM6,⟨n0,n1,n2,n3⟩,⟨o0,o1,o2,o3⟩,t0,t1,t2,t3⟩))
 all_goals
  have HP6:=zh (HPl.out _ _ hM6 hd6);clear hM2 hM3 hM4 hM5 hM6 hb2 hb3 hb5 hd2 hd3 hd4 hd5 hd6 a0 a1 a2 a3 b0 b1 b2 b3 c0 c1 c2 c3 d0 d1 d2 d3 e0 e1 e2 e3 f0 f1 f2 f3 g0 g1 g2 g3 i0 i1 i2 i3 j0 j1 j2 j3 k0 k1 k2 k3 l0 l1 l2 l3 m0 m1 m2 m3 n0 n1 n2 n3 o0 o1 o2 o3 t0 t1 t2 t3 p0 p1 p2 p3 q0 q1 q2 q3 s0 s1 s2 s3;go_wp2_with fail;refine zm HP6.out ?_;rintro e w6b ⟨⟨u8,rfl,hd8⟩,hM8⟩;have HT6:=zh (HT.out _ _ hM8 hd8);clear hd8 hM8 HP6;go_wp2_with fail;refine zm HT6.out ?_;rintro e w7 ⟨rfl,hM7⟩;obtain⟨_,_,_,_,r0,r1,r2,r3⟩:=row4 hM7.hr;have HM7:=zh hM7;clear hM7 HT6;go_wp2_with fail;refine bodyPost_ret (z03 rfl _ _ (w.heap.size+3) 24 (uL rw4) (0,0) _ rfl (put4 HM7.out.hr rw4) Tryz.underlying24 rfl (by kernel_rfl)) rfl ?_;exact⟨rfl,z0f HM7.out.b (by omega) _ _ _ _⟩
theorem q05(x y d:W4):mdQ x y d=dnW x y d/\mdB x y d=dnB x y d:=by
 unfold mdQ mdB dnW dnB toW toB W256
 by_cases h0:uN d=0
 ·rw[h0];simp
 ·have hd:0<uN d:=Nat.pos_of_ne_zero h0;have he:(uN x*uN y/115792089237316195423570985008687907853269984665640564039457584007913129639936<uN d)=(uN x*uN y/uN d<115792089237316195423570985008687907853269984665640564039457584007913129639936):=by
   rw[Nat.div_lt_iff_lt_mul (by decide),Nat.div_lt_iff_lt_mul hd,Nat.mul_comm (uN d)]
  rw[if_neg h0,decide_eq_true h0,Bool.true_and];simp only[he,and_self]
theorem zz3(x y d:W4):(dnW x y d).Ok:=by
 unfold dnW toW;split
 ·exact zjr
 ·split
  ·exact z1y _
  ·exact zjr
theorem ztc(x y d:W4)(hdk:d.Ok):(mdB x y d=false->mdQ x y d=upW x y d/\upB x y d=false)/\(mdB x y d=true->mdR x y d=(0,0,0,0)->mdQ x y d=upW x y d/\upB x y d=true) /\
  (mdB x y d=true->mdR x y d≠(0,0,0,0)->(if z8j (mdQ x y d) (1,0,0,0)=0 then zcf (mdQ x y d) (1,0,0,0)else(0,0,0,0))=upW x y d/\(z8j (mdQ x y d) (1,0,0,0)==0)=upB x y d):=by
 by_cases h0:uN d=0
 ·unfold mdB mdQ mdR upW upB;rw[h0];simp
 ·have hd:0<uN d:=Nat.pos_of_ne_zero h0;have he:(uN x*uN y/115792089237316195423570985008687907853269984665640564039457584007913129639936<uN d)=(uN x*uN y/uN d<115792089237316195423570985008687907853269984665640564039457584007913129639936):=by
   rw[Nat.div_lt_iff_lt_mul (by decide),Nat.div_lt_iff_lt_mul hd,Nat.mul_comm (uN d)]
  unfold mdB mdQ mdR upW upB upN toW toB W256;simp only[he,if_neg h0,decide_eq_true h0,Bool.true_and,decide_eq_false_iff_not,decide_eq_true_eq];have hrl:=Nat.mod_lt (uN x*uN y) hd;have hdl:=z2i hdk;generalize hq:uN x*uN y/uN d=q at *
  generalize hr:uN x*uN y%uN d=r at *
  refine⟨fun h => ?_,fun h hr0 => ?_,fun h hr0 => ?_⟩
  ·rw[if_neg h];have:¬ q+(if r=0 then 0 else 1)<115792089237316195423570985008687907853269984665640564039457584007913129639936:=by omega
   rw[if_neg this];exact⟨rfl,by simpa using this⟩
  ·rw[if_pos h]at hr0;have hr1:=zek.1 hr0;rw[z5f (by omega)]at hr1;rw[if_pos hr1,Nat.add_zero,if_pos h];exact⟨rfl,by simpa using h⟩
  ·rw[if_pos h]at hr0;have hr1:r≠0:=fun e=>hr0 (by rw[e];rfl)
   rw[if_neg hr1,if_pos h];have h1:uN ((1,0,0,0):W4)=1:=rfl;have hc:z8j (uOf q) (1,0,0,0)=0↔q+1<115792089237316195423570985008687907853269984665640564039457584007913129639936:=by
    rw[zbx,z5f h,h1]
   by_cases hq1:q+1<115792089237316195423570985008687907853269984665640564039457584007913129639936
   ·rw[if_pos hq1,if_pos (hc.2 hq1),zl4,z5f h,h1];exact⟨rfl,by simp[hc.2 hq1,hq1]⟩
   ·have hn:¬ z8j (uOf q) (1,0,0,0)=0:=fun e=>hq1 (hc.1 e)
    rw[if_neg hq1,if_neg hn];exact⟨rfl,by simp[hn,hq1]⟩
theorem zl6(x y:W4)(hx:x.Ok)(hy:y.Ok)(w:World):Calls Tryz.prog 21 #[uV x,uV y] w fun e w'=>e= .returned (.tuple #[uV (toW (uN x+uN y)),.bool (toB (uN x+uN y))])/\Below w.heap.size w w':=by
 have H0:Hid (MAt w x y (m3 w x y).drew):=(MAt.start w x y).below (z0h zb);have hm:=MAt.start w x y;obtain⟨p0,p1,p2,p3,_⟩:=row4 hm.x;obtain⟨q0,q1,q2,q3,_⟩:=row4 hm.y;have HX:Hid (∀ W,MAt w x y W->_):=fun W h=>zgm x hx h
 have HY:Hid (∀ W,MAt w x y W->_):=fun W h=>zgm y hy h
 have hlx:=zb7 x hx;have hly:=zb7 y hy;clear hm;have HM:Hid (∀ W u v,MAt w x y W->DgAt W u (digs (uN x))->DgAt W v (digs (uN y))->Calls Tryz.prog 77 #[u,v] W fun e w'=>(∃ u,e= .returned u/\DgAt w' u (digs (uN x+uN y)))/\MAt w x y w'/\Cel4 w.heap.size x w'/\Cel4 (w.heap.size+1) y w'):=fun W u v h hu hv=>by
  have:=zjw W u v _ _ (z1h _) (z1h _) (by omega) (by omega) hu hv;rw[z0j,z0j]at this;exact this.mono fun e w' ⟨⟨u,he,hD⟩,hb⟩=>⟨⟨u,he,hD.dg⟩,h.below hb,(h.below hb).cel⟩
 have hld:(digs (uN x+uN y)).length<1000000:=by
  have h1:=z2i hx;have h2:=z2i hy
  have:(digs (uN x+uN y)).length<=17:=z3a (by
   have e:BP 17=13407807929942597099574024998205846127479365820592393377723561443721764030073546976801874298166903427690031858186486050853753882811946569946433649006084096*4294967296:=by decide
   omega)
  omega
 have HTo:Hid (∀ W u,MAt w x y W->DgAt W u (digs (uN x+uN y))->Calls Tryz.prog 76 #[u] W fun e w'=>e= .returned (.tuple #[uV (toW (uN x+uN y)),.bool (toB (uN x+uN y))])/\MAt w x y w'/\Cel4 w.heap.size x w'/\Cel4 (w.heap.size+1) y w'):=fun W u h hu=>(zl7 W u _ hld hu).mono fun e w' ⟨he,hb⟩=>⟨he,h.below hb,(h.below hb).cel⟩
 clear hlx hly hld;generalize toW (uN x+uN y)=rw4 at *
 generalize toB (uN x+uN y)=rb at *
 go_enter Tryz.func21,Tryz.ntmps21;go_wp2_with fail;go_upto_region 1 with fail
 go_cut [5] (fun s5 wc=>s5= .bool rb/\Below w.heap.size w wc/\wc.heap[w.heap.size+2]?=some (.cells (uL rw4) 24 (0,0)))
 case first =>
  go_region_with
   (first
    | (go_at_call 57;(with_reducible refine zm (HX.out _ H0.out) ?_);rintro e w2 ⟨⟨u2,rfl,hd2⟩,hb2,hM2,⟨a0,a1,a2,a3⟩,b0,b1,b2,b3⟩)
    | (go_at_call 57;(with_reducible refine zm (HY.out _ hM2) ?_);rintro e w3 ⟨⟨u3,rfl,hd3⟩,hb3,hM3,⟨c0,c1,c2,c3⟩,d0,d1,d2,d3⟩)
    | (go_at_call 77;(with_reducible refine zm (HM.out _ _ _ hM3 (hd2.below hb3) hd3) ?_);rintro e w4 ⟨⟨u4,rfl,hd4⟩,hM4,⟨e0,e1,e2,e3⟩,f0,f1,f2,f3⟩)
    | (go_at_call 76;(with_reducible refine zm (HTo.out _ _ hM4 hd4) ?_);rintro e w5 ⟨rfl,hM5,⟨g0,g1,g2,g3⟩,i0,i1,i2,i3⟩;obtain⟨k0,k1,k2,k3,r0,r1,r2,r3⟩:=row4 hM5.r))
  all_goals
   have HM5:=zh hM5;clear hM2 hM3 hb2 hb3 hd2 hd3 a0 a1 a2 a3 b0 b1 b2 b3 c0 c1 c2 c3 d0 d1 d2 d3 p0 p1 p2 p3 q0 q1 q2 q3 hM4 hd4 e0 e1 e2 e3 f0 f1 f2 f3 hM5 g0 g1 g2 g3 i0 i1 i2 i3;have HPt:=zh (put4 HM5.out.r rw4);have HPb:=zh (z0f (g:=w.heap.size+2) HM5.out.b (by omega) (.int .u64 rw4.1) (.int .u64 rw4.2.1) (.int .u64 rw4.2.2.1) (.int .u64 rw4.2.2.2));go_wp2_with fail
   go_meet
   exact⟨rfl,HPb.out,HPt.out⟩
 case rest =>
  obtain⟨rfl,hb,hrow⟩:=hcut;go_wp2_with fail;refine bodyPost_ret (z03 rfl _ _ (w.heap.size+2) 24 (uL rw4) (0,0) _ rfl hrow Tryz.underlying24 rfl (by kernel_rfl)) rfl ?_;exact⟨rfl,hb⟩
end Go.Proofs.YtnkilceibkkjlaaGreat
