/- What is proved here: the reference's withdrawals, read: Scaled, Scale, key, Left, Get, Pays. Conditio -/
import Derived.Test.YtnkilceibkkjlaaGreatGRFacA
import Derived.Test.YtnkilceibkkjlaaGreatGExA
import Derived.Test.YtnkilceibkkjlaaGreatGExAd
set_option maxRecDepth 100000
set_option maxHeartbeats 16000000
namespace Go.Proofs.YtnkilceibkkjlaaGreat
open Go.RowKit
theorem zab(m:W4)(hm:m.Ok)(w:World):Calls Tryz.prog 130 #[uV m] w fun e w'=>e= .returned (.bool (decide (uCmp m oneW<=0)))/\Below w.heap.size w w':=by
 have h:=zn8 m hm w;have h1:uN oneW=1000000000000000000:=by decide
 rwa [show decide (uN m<=1000000000000000000)=decide (uCmp m oneW<=0)from decide_eq_decide.2 (by rw[z6l,h1])]at h
theorem zma(a t f:W4)(ha:a.Ok)(ht:t.Ok)(hf:f.Ok)(w:World):Calls Tryz.prog 126 #[uV a,uV t,uV f] w fun e w'=>e= .returned (.tuple #[uV (scW a t f),.bool (scB a t f)])/\Below w.heap.size w w':=by
 have he:scW a t f=(if f=(0,0,0,0)then(0,0,0,0)else dnW a t f)/\scB a t f=(if f=(0,0,0,0)then decide (a=(0,0,0,0))else dnB a t f):=by
  unfold scW scB;simp only[zc1,and_self]
 rw[he.1,he.2];have HV:=VAt.vr (l:=[a,t,f]) (VAt.start w [a,t,f,(0,0,0,0)])
 by_cases h0:f=(0,0,0,0)
 ·subst h0;simp only[if_true];have HV0:=zh HV.drew;have hE:∀ w,(Op.equalIn 10000 24 (.agg #[.int .u64 0,.int .u64 0,.int .u64 0,.int .u64 0]) (.agg #[.int .u64 0,.int .u64 0,.int .u64 0,.int .u64 0])).run Tryz.prog w= .ok true w:=fun w=>eqU (0,0,0,0) (0,0,0,0) w
  obtain⟨c,hc⟩:∃ c,decide (a=(0,0,0,0))=c:=⟨_,rfl⟩;rw[hc];clear HV he;go_enter Tryz.func126,Tryz.ntmps126;go_wp2_with fail;go_upto_region 2 with fail;refine z16 [[],[],[],[1,2],[0],[0,1,2,3,4]]
   [rgC (VR w [a,t,(0,0,0,0)] 3),rgV 0 (uV (0,0,0,0)),rgV 1 (uV a),rgV 2 (uV (0,0,0,0)),rgV 3 (.bool c),rgV 5 (.bool c),rgR 4 (w.heap.size+3) ((0,0,0,0))] _ (by kernel_rfl) (by kernel_rfl) (by kernel_rfl)
   (fun vs=>by simp only[z14,z1i,List.setIfInBounds_toArray,List.set_cons_zero,List.set_cons_succ];exact rfl)
   ⟨fun _ _ _ hb h=>h.below hb,z02,z02,z02,z02,z02,zkc,trivial⟩ ?_ ?_ ?_
  ·refine z0p rfl HV0.out ?_;iterate 6 refine z0u rfl ?_
   exact trivial
  ·refine⟨?_,?_,?_,?_,?_,?_,trivial⟩
   ·rintro vs w1 ⟨_,_⟩ K hK;refine z9u rfl rfl (hK _ _ (.inl zb) ?_);exact z01 1
   ·rintro vs w1 ⟨hC,_⟩ K hK;refine z1b rfl rfl rfl hC.r0 (hK _ _ (.inl zb) ?_);exact z01 2
   ·rintro vs w1 ⟨_,_⟩ K hK;refine z9u rfl rfl (hK _ _ (.inl zb) ?_);exact z01 3
   ·rintro vs w1 ⟨_,e1,e2,_⟩ K hK;refine znv rfl rfl (rg1 e1) (rg1 e2) hc (hK _ _ (.inl zb) ?_);exact z01 4
   ·rintro vs w1 ⟨hC,e0,_⟩ K hK;refine z2k rfl rfl rfl (rg1 e0) hC.z.choose_spec (hK _ _ (.inr ?_) ?_)
    ·refine z0l rfl (fun hC _=>hC.put _) ?_;iterate 4 refine z0l rfl (fun h _=>h) ?_
     iterate 2 refine z2l rfl ?_
     exact trivial
    ·iterate 6 refine z0k rfl ?_
     refine z0r rfl (fun _=>setRow_heap _ _ _ _ _ _ hC.z.choose_spec) ?_;exact trivial
   ·rintro vs w1 ⟨_,_,_,_,e3,_,_⟩ K hK;refine z08 rfl (.inr rfl) (rg1 e3) (hK _ _ (.inl zb) ?_);exact z01 5
  ·intro vs w1 hA;obtain⟨hC,e0,e1,e2,e3,e5,t4,_⟩:=hA;have e0:=rg1 e0;have e1:=rg1 e1;have e2:=rg1 e2;have e3:=rg1 e3;have e5:=rg1 e5;simp only[e0,e1,e2,e3,e5];have HR:=zh t4;have HB:=zh hC.b;clear e0 e1 e2 e3 e5 t4 hC;go_wp2_with fail;refine bodyPost_ret (z00 rfl _ _ (w.heap.size+3) 24 (uL (0,0,0,0)) (0,0) _ rfl HR.out Tryz.underlying24 rfl (by kernel_rfl)) rfl ?_;exact⟨rfl,HB.out⟩
 ·simp only[if_neg h0];have HU:Hid (∀ W,VR w [a,t,f] 3 W->Calls Tryz.prog 190 #[uV a,uV t,uV f] W fun e w'=>e= .returned (.tuple #[uV (dnW a t f),.bool (dnB a t f)])/\VR w [a,t,f] 3 w'):=fun W hW =>
   (zjo a t f ha ht hf W).mono fun e w' ⟨he,hb⟩=>⟨he,hW.below hb⟩
  have HV1:=zh HV;have hE:∀ w,(Op.equalIn 10000 24 (uV f) (.agg #[.int .u64 0,.int .u64 0,.int .u64 0,.int .u64 0])).run Tryz.prog w= .ok false w:=fun w=>by
   have:=eqU f (0,0,0,0) w
   rwa [decide_eq_false h0]at this
  obtain⟨u,hu⟩:∃ u,u=dnW a t f:=⟨_,rfl⟩;obtain⟨v,hv⟩:∃ v,v=dnB a t f:=⟨_,rfl⟩;rw[<- hu,<- hv]at HU ⊢;clear HV h0 he hu hv;go_enter Tryz.func126,Tryz.ntmps126;go_wp2_with fail;refine zm (HU.out _ HV1.out) ?_;rintro e w3 ⟨rfl,hV3⟩;obtain⟨z,z0,z1,z2,z3,z4,z5,z6,z7⟩:=hV3.zc;have HR:=zh (hV3.res u);clear hV3 HV1 HU;go_wp2_with fail;refine bodyPost_ret (z00 rfl _ _ (w.heap.size+3) 24 (uL u) (0,0) _ rfl HR.out.2 Tryz.underlying24 rfl (by kernel_rfl)) rfl ?_;exact⟨rfl,HR.out.1⟩
theorem zij(a m:W4)(ha:a.Ok)(hm:m.Ok)(w:World):Calls Tryz.prog 183 #[uV a,uV m] w fun e w'=>e= .returned (.tuple #[uV (sdW a m),.bool (sdB a m)])/\Below w.heap.size w w':=by
 have HV:=zh (VAt.vr (l:=[a,m]) (VAt.start w [a,m,(0,0,0,0)])).vp;have HA:Hid (∀ W,VP w [a,m] 2 [] W->Calls Tryz.prog 182 #[uV a] W fun e w'=>e= .returned (.bool (decide (uN a<M128)))/\VP w [a,m] 2 [] w'):=fun W hW=>(z97 a ha W).mono fun e w' ⟨he,hb⟩=>⟨he,hW.below hb⟩
 have HG:Hid (∀ W,VP w [a,m] 2 [] W->Calls Tryz.prog 130 #[uV m] W fun e w'=>e= .returned (.bool (decide (uCmp m oneW<=0)))/\VP w [a,m] 2 [] w'):=fun W hW=>(zab m hm W).mono fun e w' ⟨he,hb⟩=>⟨he,hW.below hb⟩
 have HD:Hid (∀ W,Calls Tryz.prog 190 #[uV a,uV sqW,uV m] W fun e w'=>e= .returned (.tuple #[uV (dnW a sqW m),.bool (dnB a sqW m)])/\Below W.heap.size W w'):=zjo a sqW m ha zs4 hm;have hlaw:((decide (uN a<M128))=false->sdW a m=(0,0,0,0)/\sdB a m=false)/\((decide (uN a<M128))=true->(decide (uCmp m oneW<=0))=false->sdW a m=(0,0,0,0)/\sdB a m=false) /\
   ((decide (uN a<M128))=true->(decide (uCmp m oneW<=0))=true->(m=(0,0,0,0)->sdW a m=(0,0,0,0)/\sdB a m=true)/\(m≠(0,0,0,0)->sdW a m=dnW a sqW m/\sdB a m=dnB a sqW m)):=by
  unfold sdW sdB sdC
  refine⟨fun h=>by rw[h];exact⟨rfl,rfl⟩,fun h h2=>by rw[h,h2];exact⟨rfl,rfl⟩,fun h h2=>by
   rw[h,h2]
   exact⟨fun h3=>by simp[h3],fun h3=>by simp[h3]⟩⟩
 have HL:=zh hlaw;clear hlaw;generalize sdW a m=u at *
 generalize sdB a m=v at *
 generalize hdw:dnW a sqW m=dw at *
 generalize hdb:dnB a sqW m=db at *
 generalize decide (uN a<M128)=b1 at *
 generalize decide (uCmp m oneW<=0)=b2 at *
 clear hdw hdb;obtain⟨c0,c1,c2,c3,_⟩:=row4 HV.out.r0;obtain⟨d0,d1,d2,d3,_⟩:=row4 (HV.out.r 1 m rfl);go_enter Tryz.func183,Tryz.ntmps183;go_wp2_with fail;refine zm (HA.out _ HV.out) ?_;rintro e w3 ⟨rfl,hV3⟩;clear c0 c1 c2 c3 d0 d1 d2 d3 HA HV;obtain⟨d0,d1,d2,d3,_⟩:=row4 (hV3.r 1 m rfl);cases b1 with
 | false =>
  obtain⟨h1,h2⟩:=HL.out.1 (by trivial);subst h1 h2;obtain⟨z,z0,z1,z2,z3,z4,z5,z6,z7⟩:=hV3.vr.zc;have HR:=zh (hV3.vr.res (0,0,0,0));clear hV3 HL HG HD;go_wp2_with fail;refine bodyPost_ret (z00 rfl _ _ (w.heap.size+2) 24 (uL (0,0,0,0)) (0,0) _ rfl HR.out.2 Tryz.underlying24 rfl (by kernel_rfl)) rfl ?_;exact⟨rfl,HR.out.1⟩
 | true =>
  have HV3:=zh hV3;clear hV3;go_wp2_with fail;refine zm (HG.out _ HV3.out) ?_;rintro e w4 ⟨rfl,hV4⟩;clear d0 d1 d2 d3 HG HV3;cases b2 with
  | false =>
   obtain⟨h1,h2⟩:=HL.out.2.1 (by trivial) (by trivial);subst h1 h2;obtain⟨z,z0,z1,z2,z3,z4,z5,z6,z7⟩:=hV4.vr.zc;have HR:=zh (hV4.vr.res (0,0,0,0));clear hV4 HL HD;go_wp2_with fail;refine bodyPost_ret (z00 rfl _ _ (w.heap.size+2) 24 (uL (0,0,0,0)) (0,0) _ rfl HR.out.2 Tryz.underlying24 rfl (by kernel_rfl)) rfl ?_;exact⟨rfl,HR.out.1⟩
  | true =>
   obtain⟨d0,d1,d2,d3,_⟩:=row4 (hV4.r 1 m rfl)
   by_cases hm0:m=(0,0,0,0)
   ·have hE:∀ w,(Op.equalIn 10000 24 (uV m) (.agg #[.int .u64 0,.int .u64 0,.int .u64 0,.int .u64 0])).run Tryz.prog w= .ok true w:=fun w=>by
     have:=eqU m (0,0,0,0) w
     rwa [decide_eq_true hm0]at this
    obtain⟨h1,h2⟩:=(HL.out.2.2 (by trivial) (by trivial)).1 hm0;subst h1 h2;obtain⟨z,z0,z1,z2,z3,z4,z5,z6,z7⟩:=hV4.vr.zc;have HR:=zh (hV4.vr.res (0,0,0,0));clear hV4 HL HD hm0;go_wp2_with fail;refine bodyPost_ret (z00 rfl _ _ (w.heap.size+2) 24 (uL (0,0,0,0)) (0,0) _ rfl HR.out.2 Tryz.underlying24 rfl (by kernel_rfl)) rfl ?_;exact⟨rfl,HR.out.1⟩
   ·have hE:∀ w,(Op.equalIn 10000 24 (uV m) (.agg #[.int .u64 0,.int .u64 0,.int .u64 0,.int .u64 0])).run Tryz.prog w= .ok false w:=fun w=>by
     have:=eqU m (0,0,0,0) w
     rwa [decide_eq_false hm0]at this
    obtain⟨h1,h2⟩:=(HL.out.2.2 (by trivial) (by trivial)).2 hm0;subst h1 h2;have HV4:=zh hV4.drew;clear hV4 HL hm0;go_upto_region 5 with fail;clear d0 d1 d2 d3 hE;refine z16 [[],[],[],[0,1,2],[0,1,2,3],[0,1,2,3],[0,1,2,3,4,5],[0,1,2,3,4,5,6]]
     [rgC (VP w [a,m] 2 []),rgV 0 (uV a),rgV 1 (uV sqW),rgV 2 (uV m),rgV 3 (.tuple #[uV u,.bool v]),rgV 4 (uV u),rgV 5 (.bool v),rgV 7 (.bool v),rgR 6 (w.heap.size+2) (u)] _ (by kernel_rfl) (by kernel_rfl) (by kernel_rfl)
     (fun vs=>by simp only[z14,z1i,List.setIfInBounds_toArray,List.set_cons_zero,List.set_cons_succ];exact rfl)
     ⟨fun _ _ _ hb h=>h.below hb,z02,z02,z02,z02,z02,z02,z02,zkc,trivial⟩ ?_ ?_ ?_
    ·refine z0p rfl HV4.out ?_;iterate 8 refine z0u rfl ?_
     exact trivial
    ·refine⟨?_,?_,?_,?_,?_,?_,?_,?_,trivial⟩
     ·rintro vs w1 ⟨hC,_⟩ K hK;refine z1b rfl rfl rfl (hC.r 0 a rfl) (hK _ _ (.inl zb) ?_);exact z01 1
     ·rintro vs w1 ⟨_,_⟩ K hK;refine z0v rfl rfl rfl (by kernel_rfl) rfl (zm (zcl _) ?_);rintro e w2 ⟨rfl,hb⟩;refine⟨_,rfl,hK _ _ (.inl hb) ?_⟩;exact z01 2
     ·rintro vs w1 ⟨hC,_⟩ K hK;refine z1b rfl rfl rfl (hC.r 1 m rfl) (hK _ _ (.inl zb) ?_);exact z01 3
     ·rintro vs w1 ⟨_,e0,e1,e2,_⟩ K hK;refine z0v rfl rfl rfl (by kernel_rfl) (show [vs 0,vs 1,vs 2]=_ from by rw[rg1 e0,rg1 e1,rg1 e2]) (zm (HD.out _) ?_);rintro e w2 ⟨rfl,hb⟩;refine⟨_,rfl,hK _ _ (.inl hb) ?_⟩;exact z01 4
     ·rintro vs w1 ⟨_,_,_,_,e3,_⟩ K hK;refine z18 rfl rfl (rg1 e3) rfl (hK _ _ (.inl zb) ?_);exact z01 5
     ·rintro vs w1 ⟨_,_,_,_,e3,_⟩ K hK;refine z18 rfl rfl (rg1 e3) rfl (hK _ _ (.inl zb) ?_);exact z01 6
     ·rintro vs w1 ⟨hC,_,_,_,_,e4,_,_⟩ K hK;refine z2k rfl rfl rfl (rg1 e4) hC.vr.z.choose_spec (hK _ _ (.inr ?_) ?_)
      ·refine z0l rfl (fun hC _=>hC.put _) ?_;iterate 6 refine z0l rfl (fun h _=>h) ?_
       iterate 2 refine z2l rfl ?_
       exact trivial
      ·iterate 8 refine z0k rfl ?_
       refine z0r rfl (fun _=>setRow_heap _ _ _ _ _ _ hC.vr.z.choose_spec) ?_;exact trivial
     ·rintro vs w1 ⟨_,_,_,_,_,_,e5,_,_⟩ K hK;refine z08 rfl (.inr rfl) (rg1 e5) (hK _ _ (.inl zb) ?_);exact z01 7
    ·intro vs w1 hA;obtain⟨hC,e0,e1,e2,e3,e4,e5,e7,t6,_⟩:=hA;have e0:=rg1 e0;have e1:=rg1 e1;have e2:=rg1 e2;have e3:=rg1 e3;have e4:=rg1 e4;have e5:=rg1 e5;have e7:=rg1 e7;simp only[e0,e1,e2,e3,e4,e5,e7];have HR:=zh t6;have HB:=zh hC.b;go_wp2_with fail;refine bodyPost_ret (z00 rfl _ _ (w.heap.size+2) 24 (uL u) (0,0) _ rfl HR.out Tryz.underlying24 rfl (by kernel_rfl)) rfl ?_;exact⟨rfl,HB.out⟩
theorem z1r(t:Nat)(ht1:1<=t)(ht2:t<=255)(a:Int)(ha:I63 a)(w:World):Calls Tryz.prog 125 #[.int .i64 t,.int .i64 a] w fun e w'=>e= .returned (.string (keyL t [a]))/\Below w.heap.size w w':=by
 have HK:Hid (Calls Tryz.prog 95 #[.int .i64 t,.slice (some ⟨w.heap.size,0,none⟩) 1 1] (w.alloc (.cells #[.int .i64 a] 3)) fun e w'=>e= .returned (.string (keyL t [a]))/\Below w.heap.size w w'):=zog t ht1 ht2 a ha w;clear ha ht1 ht2;generalize keyL t [a]=kk at *
 generalize ((t:Nat):Int)=tt at *
 go_enter Tryz.func125,Tryz.ntmps125;go_wp2_with fail;refine zm HK.out ?_;rintro e w2 ⟨rfl,hb⟩;have HB:=zh hb;clear hb HK;go_wp2_with fail;go_ret;exact⟨rfl,HB.out⟩
theorem BV.rkey{w:World}(t:Nat)(ht1:1<=t)(ht2:t<=255)(a:Int)(ha:I63 a):Hid (∀ rs W,BV w rs W->Calls Tryz.prog 125 #[.int .i64 t,.int .i64 a] W fun e w'=>e= .returned (.string (keyL t [a]))/\BV w rs w'):=
 fun _ W hW=>(z1r t ht1 ht2 a ha W).mono fun _ _ ⟨he,hb⟩=>⟨he,hW.below hb⟩
theorem BV.q0g{w:World}(b:Nat)(s:St)(L:List Nat)(f:Nat)(k:ByteArray)(hq:RRep w b s L)(hf:s.Fit f)(hm:f<100000000000):Hid (∀ rs W,BV w rs W->Calls Tryz.prog 91 #[.pointer (some ⟨b,0,none⟩),.string k] W fun e w'=>e= .returned (uV (s.amt k))/\BV w rs w'):=
 fun _ W hW=>hW.reads (zbe W b s L k (hq.below hW.bl) (by have:=hf.size;unfold St.size at this;omega))
theorem zke(w:World)(b:Nat)(s:St)(L:List Nat)(f:Nat)(t:Int)(ht:I63 t)(hq:RRep w b s L)(hf:s.Fit f)(hm:f<100000000000) :
  Calls Tryz.prog 50 #[.pointer (some ⟨b,0,none⟩),.int .i64 t] w fun e w'=>e= .returned (uV (s.left t))/\Below w.heap.size w w':=by
 have HB:=zh ((BV.start w).alloc zO);have HK:Hid (∀ rs W,BV w rs W->Calls Tryz.prog 125 #[.int .i64 19,.int .i64 t] W fun e w'=>e= .returned (.string (keyL 19 [t]))/\BV w rs w'):=BV.rkey 19 (by decide) (by decide) t ht;have HA:=BV.q0g b s L f (keyL 19 [t]) hq hf hm;unfold St.left;generalize s.amt (keyL 19 [t])=u at *
 generalize keyL 19 [t]=kk at *
 clear hq hf;go_enter Tryz.func50,Tryz.ntmps50;go_wp2_with fail;refine zm (HK.out _ _ HB.out) ?_;rintro e w2 ⟨rfl,hB2⟩;have HB2:=zh hB2;clear hB2 HB HK;go_wp2_with fail;refine zm (HA.out _ _ HB2.out) ?_;rintro e w3 ⟨rfl,hB3⟩;have hz:=hB3.u4 (g:=w.heap.size) (x:=(0,0,0,0)) (by simp);obtain⟨z0,z1,z2,z3,z4,z5,z6,z7⟩:=row4 hz;have HZ:=zh (put4 hz u);have HB:=zh (z09 (BV.bl hB3) (Nat.le_refl w.heap.size) (.int .u64 u.1) (.int .u64 u.2.1) (.int .u64 u.2.2.1) (.int .u64 u.2.2.2));clear hz hB3 HB2 HA;go_wp2_with fail;refine bodyPost_ret (results_cell_row rfl _ _ w.heap.size 24 (uL u) (0,0) _ rfl HZ.out Tryz.underlying24 rfl (by kernel_rfl)) rfl ?_;exact⟨rfl,HB.out⟩
theorem zkv{ops:Array Oper}{o:Oper}{a:Act}{w:World}{K:Value->World->Prop}{x:Operand}{g n c k:Nat}(hg:Region.wanted o (yielded ops a.tmps)=true)(ho:o.op= .indexAddr 75 x (.const (.int .i64 k)))(hx:a.eval x= .slice (some ⟨g,0,none⟩) n c)(hkn:k<n)
  (hk:K (.pointer (some ⟨g,k,none⟩)) w):rgDo Tryz.prog ops o a w K:=by
 refine z0j hg ?_ hk;have h1:(k:Int)<(n:Int):=by omega
 have h2:¬ (k:Int)<0:=by omega
 unfold execOp;simp only[ho,hx]
 go_simp
 all_goals try simp
theorem zid(a b c d:Int)(u v:W4)(w:World):(Instr.build 107 #[(0,.int .i64 a),(1,.int .i64 b),(2,.int .i64 c),(3,.int .i64 d),(4,uV u),(5,uV v)]).run Tryz.prog w= .ok (.agg #[.int .i64 a,.int .i64 b,.int .i64 c,.int .i64 d,.int .u64 u.1,.int .u64 u.2.1,.int .u64 u.2.2.1,.int .u64 u.2.2.2,.int .u64 v.1,.int .u64 v.2.1,.int .u64 v.2.2.1,.int .u64 v.2.2.2]) w:=by
 kernel_rfl
theorem zyw{w:World}{b:Nat}{s:St}{L:List Nat}{f:Nat}(h:RRep w b s L)(hf:s.Fit f)(hm:f<100000000000)(k:ByteArray):Calls Tryz.prog 98 #[.pointer (some ⟨b,0,none⟩),.string k] w (z4u w (rowOf (s.val k))):=
 zgz w b k _ _ (z88 w b s L k h (by have:=hf.size;unfold St.size at this;omega)) (Nat.lt_of_le_of_lt (hf.val _) (by decide))
abbrev rexO(x:Ex):Obj:=.cells x.L 107
theorem zyb{w:World}{g:Nat}{x:Ex}(h:w.heap[g]?=some (rexO x))(y:Ex):((((((((((((w.setCell ⟨g,0,none⟩ (.int .i64 y.st)).setCell ⟨g,1,none⟩ (.int .i64 y.op)).setCell ⟨g,2,none⟩ (.int .i64 y.sg)).setCell ⟨g,3,none⟩ (.int .i64 y.bl)).setCell ⟨g,4,none⟩ (.int .u64 y.wo.1)).setCell ⟨g,5,none⟩ (.int .u64 y.wo.2.1)).setCell ⟨g,6,none⟩ (.int .u64 y.wo.2.2.1)).setCell ⟨g,7,none⟩ (.int .u64 y.wo.2.2.2)).setCell ⟨g,8,none⟩ (.int .u64 y.mx.1)).setCell ⟨g,9,none⟩ (.int .u64 y.mx.2.1)).setCell ⟨g,10,none⟩ (.int .u64 y.mx.2.2.1)).setCell ⟨g,11,none⟩ (.int .u64 y.mx.2.2.2)).heap[g]?=some (rexO y):=by
 obtain⟨a,b,c,d,W,M⟩:=x;unfold rexO Ex.L at h;have h0:=z0b (off:=0) (.int .i64 y.st) h;have h1:=z0b (off:=1) (.int .i64 y.op) h0;have h2:=z0b (off:=2) (.int .i64 y.sg) h1;have h3:=z0b (off:=3) (.int .i64 y.bl) h2;have h4:=z0b (off:=4) (.int .u64 y.wo.1) h3;have h5:=z0b (off:=5) (.int .u64 y.wo.2.1) h4;have h6:=z0b (off:=6) (.int .u64 y.wo.2.2.1) h5;have h7:=z0b (off:=7) (.int .u64 y.wo.2.2.2) h6;have h8:=z0b (off:=8) (.int .u64 y.mx.1) h7;have h9:=z0b (off:=9) (.int .u64 y.mx.2.1) h8;have h10:=z0b (off:=10) (.int .u64 y.mx.2.2.1) h9;have h11:=z0b (off:=11) (.int .u64 y.mx.2.2.2) h10;rw[h11];simp[Ex.L]
theorem znk{ops:Array Oper}{o:Oper}{a:Act}{w:World}{K:Value->World->Prop}{x0 x1 x2 x3 x4 x5:Operand}{m0 m1 m2 m3:Int}{u v:W4}(hg:Region.wanted o (yielded ops a.tmps)=true)(ho:o.op= .build 107 #[(0,x0),(1,x1),(2,x2),(3,x3),(4,x4),(5,x5)])
  (h0:a.eval x0= .int .i64 m0) (h1:a.eval x1= .int .i64 m1) (h2:a.eval x2= .int .i64 m2) (h3:a.eval x3= .int .i64 m3) (h4:a.eval x4=uV u) (h5:a.eval x5=uV v) (hk:K (.agg (Ex.L ⟨m0,m1,m2,m3,u,v⟩)) w):rgDo Tryz.prog ops o a w K:=by
 refine z0j hg ?_ hk;unfold execOp;simp only[ho,h0,h1,h2,h3,h4,h5,List.map_toArray,List.map_cons,List.map_nil];simp[zid,Ex.L]
theorem z3c{w:World}{g:Nat}{x:Ex}(h:w.heap[g]?=some (rexO x)):(w.cell? ⟨g,0,none⟩=some (.int .i64 x.st)/\w.cell? ⟨g,1,none⟩=some (.int .i64 x.op)/\w.cell? ⟨g,2,none⟩=some (.int .i64 x.sg)/\w.cell? ⟨g,3,none⟩=some (.int .i64 x.bl)) /\
  (w.cell? ⟨g,4,none⟩=some (.int .u64 x.wo.1)/\w.cell? ⟨g,5,none⟩=some (.int .u64 x.wo.2.1)/\w.cell? ⟨g,6,none⟩=some (.int .u64 x.wo.2.2.1)/\w.cell? ⟨g,7,none⟩=some (.int .u64 x.wo.2.2.2)) /\
  (w.cell? ⟨g,8,none⟩=some (.int .u64 x.mx.1)/\w.cell? ⟨g,9,none⟩=some (.int .u64 x.mx.2.1)/\w.cell? ⟨g,10,none⟩=some (.int .u64 x.mx.2.2.1)/\w.cell? ⟨g,11,none⟩=some (.int .u64 x.mx.2.2.2)):=by
 have hc:∀ o v,x.L[o]?=some v->w.cell? ⟨g,o,none⟩=some v:=fun o v hv=>by rw[cell_of_row _ _ _ _ _ _ h];exact hv
 exact⟨⟨hc 0 _ rfl,hc 1 _ rfl,hc 2 _ rfl,hc 3 _ rfl⟩,⟨hc 4 _ rfl,hc 5 _ rfl,hc 6 _ rfl,hc 7 _ rfl⟩,⟨hc 8 _ rfl,hc 9 _ rfl,hc 10 _ rfl,hc 11 _ rfl⟩⟩
theorem zw4(X:Ex):(X.L.all fun x=>x.oneCell')=true:=by simp[Ex.L,Value.oneCell']
theorem zoq{ops:Array Oper}{o:Oper}{a:Act}{w:World}{K:Value->World->Prop}{x y:Operand}{g:Nat}{cs:Array Value}{X:Ex}(hgd:Region.wanted o (yielded ops a.tmps)=true)(ho:o.op= .store 107 x y)
  (hx:a.eval x= .pointer (some ⟨g,0,none⟩)) (hy:a.eval y= .agg X.L) (hg:w.heap[g]?=some (.cells cs 107 (0,0))) (hn:cs.size=12) (hk:K undef (w.setRow g X.L)):rgDo Tryz.prog ops o a w K:=
 zey hgd ho hx hy hg (by kernel_rfl) hn (zw4 X) hk
theorem zj7(w:World)(b:Nat)(s:St)(L:List Nat)(f:Nat)(id:Int)(hid:I63 id)(hq:RRep w b s L)(hf:s.Fit f)(hm:f<100000000000) :
  Calls Tryz.prog 53 #[.pointer (some ⟨b,0,none⟩),.int .i64 id] w fun e w'=>e= .returned (.tuple #[.agg (s.ex id).L,.bool (s.exIs id)])/\Below w.heap.size w w':=by
 have hB:=(BV.start w).alloc (rexO z2q);have HK15:Hid (∀ rs W,BV w rs W->Calls Tryz.prog 125 #[.int .i64 15,.int .i64 id] W fun e w'=>e= .returned (.string (keyL 15 [id]))/\BV w rs w'):=BV.rkey 15 (by decide) (by decide) id hid;have hrw:∀ rs W,BV w rs W->Calls Tryz.prog 98 #[.pointer (some ⟨b,0,none⟩),.string (keyL 15 [id])] W (z4u W (rowOf (s.val (keyL 15 [id])))):=fun rs W hW=>zyw (hq.below (BV.bl hW)) hf hm _
 by_cases h4:(rowOf (s.val (keyL 15 [id]))).length=4
 ·obtain⟨xa,xb,xc,xd,hl⟩:∃ a b c d,rowOf (s.val (keyL 15 [id])) = [a,b,c,d]:=by
   match hx:rowOf (s.val (keyL 15 [id])),h4 with
   | [a,b,c,d],_=>exact⟨a,b,c,d,rfl⟩
  have he:s.ex id=⟨xa,xb,xc,xd,s.amt (keyL 17 [id]),s.amt (keyL 18 [id])⟩:=by unfold St.ex;rw[hl]
  have hi:s.exIs id=true:=by unfold St.exIs;rw[hl];rfl
  rw[he,hi];rw[hl]at hrw;have HRW:Hid (∀ rs W,BV w rs W->Calls Tryz.prog 98 #[.pointer (some ⟨b,0,none⟩),.string (keyL 15 [id])] W fun e w'=>∃ g k cur,e= .returned (.slice (some ⟨g,0,none⟩) 4 k)/\BV w ((g,.cells cur 3)::rs) w'/\cur[0]?=some (.int .i64 xa)/\cur[1]?=some (.int .i64 xb)/\cur[2]?=some (.int .i64 xc)/\cur[3]?=some (.int .i64 xd)):=fun rs W hW=>(hrw rs W hW).mono fun e w' ⟨v,he,ho,hg,hb2⟩=>by
   rcases ho.2 with⟨_,h0⟩ | ⟨g,cap,cur,rfl,hg2,_,_,_,ht⟩
   ·cases h0
   ·have hc:∀ j,j<4->cur[j]? = (znj [xa,xb,xc,xd])[j]?:=fun j hj=>by
     have:=congrArg (fun x=>x[j]?) ht;simp only[List.getElem?_take]at this;rw[if_pos (show j < [xa,xb,xc,xd].length*1 from by simpa using hj)]at this
     simpa using this
    exact⟨g,cap,cur,he,QV.add1 hW hb2 (hg g rfl) hg2,hc 0 (by decide),hc 1 (by decide),hc 2 (by decide),hc 3 (by decide)⟩
  have HAM17:Hid (∀ W,Below w.heap.size w W->Calls Tryz.prog 91 #[.pointer (some ⟨b,0,none⟩),.string (keyL 17 [id])] W fun e w'=>e= .returned (uV (s.amt (keyL 17 [id])))/\Below W.heap.size W w'):=fun W hW=>zbe W b s L _ (hq.below hW) (by have:=hf.size;unfold St.size at this;omega)
  have HAM18:Hid (∀ W,Below w.heap.size w W->Calls Tryz.prog 91 #[.pointer (some ⟨b,0,none⟩),.string (keyL 18 [id])] W fun e w'=>e= .returned (uV (s.amt (keyL 18 [id])))/\Below W.heap.size W w'):=fun W hW=>zbe W b s L _ (hq.below hW) (by have:=hf.size;unfold St.size at this;omega)
  have HK17:Hid (∀ W,Calls Tryz.prog 125 #[.int .i64 17,.int .i64 id] W fun e w'=>e= .returned (.string (keyL 17 [id]))/\Below W.heap.size W w'):=z1r 17 (by decide) (by decide) id hid;have HK18:Hid (∀ W,Calls Tryz.prog 125 #[.int .i64 18,.int .i64 id] W fun e w'=>e= .returned (.string (keyL 18 [id]))/\Below W.heap.size W w'):=z1r 18 (by decide) (by decide) id hid;have HB1:=zh hB;clear hB hrw h4 he hi hl hq hf;generalize s.amt (keyL 17 [id])=wo at *
  generalize s.amt (keyL 18 [id])=mx at *
  generalize keyL 15 [id]=k15 at *
  generalize keyL 17 [id]=k17 at *
  generalize keyL 18 [id]=k18 at *
  generalize ((xa:Nat):Int)=a at *
  generalize ((xb:Nat):Int)=bb at *
  generalize ((xc:Nat):Int)=c at *
  generalize ((xd:Nat):Int)=d at *
  go_enter Tryz.func53,Tryz.ntmps53;go_wp2_with fail;refine zm (HK15.out _ _ HB1.out) ?_;rintro e w2 ⟨rfl,hB2⟩;have HR2:=zh (HRW.out _ _ hB2);clear hB2 HB1 HK15 HRW;go_wp2_with fail;refine zm HR2.out ?_;rintro e w3 ⟨g,kc,cur,rfl,hB3,u0,u1,u2,u3⟩;have hc:∀ {W},Below w3.heap.size w3 W->∀ {j v},cur[j]?=some v->W.cell? ⟨g,j,none⟩=some v:=fun {W} hW {j v} hv=>by rw[cell_of_row _ _ _ _ _ _ ((hB3.below hW).row (g:=g) (o:=.cells cur 3) (by simp))];exact hv
  have C0:Hid (∀ W,Below w3.heap.size w3 W->W.cell? ⟨g,0,none⟩=some (.int .i64 a)):=fun W hW=>hc hW u0
  have C1:Hid (∀ W,Below w3.heap.size w3 W->W.cell? ⟨g,1,none⟩=some (.int .i64 bb)):=fun W hW=>hc hW u1
  have C2:Hid (∀ W,Below w3.heap.size w3 W->W.cell? ⟨g,2,none⟩=some (.int .i64 c)):=fun W hW=>hc hW u2
  have C3:Hid (∀ W,Below w3.heap.size w3 W->W.cell? ⟨g,3,none⟩=some (.int .i64 d)):=fun W hW=>hc hW u3
  have HW3:=zh (BV.bl hB3);have HB3:=zh hB3;clear hc u0 u1 u2 u3 HR2 hB3;go_upto_region 4 with fail;have HB0:=zh (z0g (Below.refl w3.heap.size w3));refine z0c 20 [[],[0],[0,1],[],[3],[3,4],[],[6],[6,7],[],[9],[9,10],[],[],[13],[12,13,14],[],[],[12,13,14,15,17],[12,13,14,15,16,17,18],[0,1,2,3,4,5,6,7,8,9,10,11,12,13,14,15,16,17,18,19],[0,1,2,3,4,5,6,7,8,9,10,11,12,13,14,15,16,17,18,19,20],[0,1,2,3,4,5,6,7,8,9,10,11,12,13,14,15,16,17,18,19,20,21]]
   [rgC (Below w3.heap.size w3),rgV 0 (.slice (some ⟨g,0,none⟩) 4 kc),rgV 1 (.pointer (some ⟨g,0,none⟩)),rgV 2 (.int .i64 a),rgV 3 (.slice (some ⟨g,0,none⟩) 4 kc),rgV 4 (.pointer (some ⟨g,1,none⟩)),rgV 5 (.int .i64 bb),rgV 6 (.slice (some ⟨g,0,none⟩) 4 kc),rgV 7 (.pointer (some ⟨g,2,none⟩)),rgV 8 (.int .i64 c),rgV 9 (.slice (some ⟨g,0,none⟩) 4 kc),rgV 10 (.pointer (some ⟨g,3,none⟩)),rgV 11 (.int .i64 d),rgV 12 (.pointer (some ⟨b,0,none⟩)),rgV 13 (.int .i64 id),rgV 14 (.string k17),rgV 15 (uV wo),rgV 16 (.pointer (some ⟨b,0,none⟩)),rgV 17 (.int .i64 id),rgV 18 (.string k18),rgV 19 (uV mx)] _ (by kernel_rfl) (by kernel_rfl) (by decide) (by kernel_rfl) (by kernel_rfl)
   (fun vs=>by simp only[z14,z1i,List.setIfInBounds_toArray,List.set_cons_zero,List.set_cons_succ];exact rfl)
   ⟨fun _ _ _ hb h=>z0a h hb,z02,z02,z02,z02,z02,z02,z02,z02,z02,z02,z02,z02,z02,z02,z02,z02,z02,z02,z02,z02,trivial⟩ ?_ ?_ ?_
  ·refine z0p rfl HB0.out ?_;iterate 20 refine z0u rfl ?_
   exact trivial
  ·refine⟨?_,?_,?_,?_,?_,?_,?_,?_,?_,?_,?_,?_,?_,?_,?_,?_,?_,?_,?_,?_,trivial⟩
   ·intro vs w4 hA K hK;obtain⟨_,_⟩:=hA;refine z08 rfl (.inl rfl) rfl (hK _ _ (.inl zb) ?_);exact z01 1
   ·intro vs w4 hA K hK;obtain⟨_,e0,_⟩:=hA;refine zkv (k:=0) rfl rfl (rg1 e0) (by decide) (hK _ _ (.inl zb) ?_);exact z01 2
   ·intro vs w4 hA K hK;obtain⟨hC,_,e1,_⟩:=hA;refine z19 rfl rfl (rg1 e1) (C0.out _ hC) (hK _ _ (.inl zb) ?_);exact z01 3
   ·intro vs w4 hA K hK;obtain⟨_,_⟩:=hA;refine z08 rfl (.inl rfl) rfl (hK _ _ (.inl zb) ?_);exact z01 4
   ·intro vs w4 hA K hK;obtain⟨_,e3,_⟩:=hA;refine zkv (k:=1) rfl rfl (rg1 e3) (by decide) (hK _ _ (.inl zb) ?_);exact z01 5
   ·intro vs w4 hA K hK;obtain⟨hC,_,e4,_⟩:=hA;refine z19 rfl rfl (rg1 e4) (C1.out _ hC) (hK _ _ (.inl zb) ?_);exact z01 6
   ·intro vs w4 hA K hK;obtain⟨_,_⟩:=hA;refine z08 rfl (.inl rfl) rfl (hK _ _ (.inl zb) ?_);exact z01 7
   ·intro vs w4 hA K hK;obtain⟨_,e6,_⟩:=hA;refine zkv (k:=2) rfl rfl (rg1 e6) (by decide) (hK _ _ (.inl zb) ?_);exact z01 8
   ·intro vs w4 hA K hK;obtain⟨hC,_,e7,_⟩:=hA;refine z19 rfl rfl (rg1 e7) (C2.out _ hC) (hK _ _ (.inl zb) ?_);exact z01 9
   ·intro vs w4 hA K hK;obtain⟨_,_⟩:=hA;refine z08 rfl (.inl rfl) rfl (hK _ _ (.inl zb) ?_);exact z01 10
   ·intro vs w4 hA K hK;obtain⟨_,e9,_⟩:=hA;refine zkv (k:=3) rfl rfl (rg1 e9) (by decide) (hK _ _ (.inl zb) ?_);exact z01 11
   ·intro vs w4 hA K hK;obtain⟨hC,_,e10,_⟩:=hA;refine z19 rfl rfl (rg1 e10) (C3.out _ hC) (hK _ _ (.inl zb) ?_);exact z01 12
   ·intro vs w4 hA K hK;obtain⟨_,_⟩:=hA;refine z08 rfl (.inl rfl) rfl (hK _ _ (.inl zb) ?_);exact z01 13
   ·intro vs w4 hA K hK;obtain⟨_,_⟩:=hA;refine z08 rfl (.inl rfl) rfl (hK _ _ (.inl zb) ?_);exact z01 14
   ·intro vs w4 hA K hK;obtain⟨_,e13,_⟩:=hA;refine z0v rfl rfl rfl (by kernel_rfl) (show [.int .i64 17,vs 13]=_ from by rw[rg1 e13]) (zm (HK17.out _) ?_);rintro e w2 ⟨rfl,hb⟩;refine⟨_,rfl,hK _ _ (.inl hb) ?_⟩;exact z01 15
   ·intro vs w4 hA K hK;obtain⟨hC,e12,_,e14,_⟩:=hA;refine z0v rfl rfl rfl (by kernel_rfl) (show [vs 12,vs 14]=_ from by rw[rg1 e12,rg1 e14]) (zm (HAM17.out _ (z0a HW3.out hC)) ?_);rintro e w2 ⟨rfl,hb⟩;refine⟨_,rfl,hK _ _ (.inl hb) ?_⟩;exact z01 16
   ·intro vs w4 hA K hK;obtain⟨_,_⟩:=hA;refine z08 rfl (.inl rfl) rfl (hK _ _ (.inl zb) ?_);exact z01 17
   ·intro vs w4 hA K hK;obtain⟨_,_⟩:=hA;refine z08 rfl (.inl rfl) rfl (hK _ _ (.inl zb) ?_);exact z01 18
   ·intro vs w4 hA K hK;obtain⟨_,_,_,_,_,e17,_⟩:=hA;refine z0v rfl rfl rfl (by kernel_rfl) (show [.int .i64 18,vs 17]=_ from by rw[rg1 e17]) (zm (HK18.out _) ?_);rintro e w2 ⟨rfl,hb⟩;refine⟨_,rfl,hK _ _ (.inl hb) ?_⟩;exact z01 19
   ·intro vs w4 hA K hK;obtain⟨hC,_,_,_,_,e16,_,e18,_⟩:=hA;refine z0v rfl rfl rfl (by kernel_rfl) (show [vs 16,vs 18]=_ from by rw[rg1 e16,rg1 e18]) (zm (HAM18.out _ (z0a HW3.out hC)) ?_);rintro e w2 ⟨rfl,hb⟩;refine⟨_,rfl,hK _ _ (.inl hb) ?_⟩;exact z01 20
  ·intro vs w4 hA;obtain⟨hC,e0,e1,e2,e3,e4,e5,e6,e7,e8,e9,e10,e11,e12,e13,e14,e15,e16,e17,e18,e19,_⟩:=hA;have e0:=rg1 e0;have e1:=rg1 e1;have e2:=rg1 e2;have e3:=rg1 e3;have e4:=rg1 e4;have e5:=rg1 e5;have e6:=rg1 e6;have e7:=rg1 e7;have e8:=rg1 e8;have e9:=rg1 e9;have e10:=rg1 e10;have e11:=rg1 e11;have e12:=rg1 e12;have e13:=rg1 e13;have e14:=rg1 e14;have e15:=rg1 e15;have e16:=rg1 e16;have e17:=rg1 e17;have e18:=rg1 e18;have e19:=rg1 e19;refine z0i ?_;refine znk rfl rfl e2 e5 e8 e11 e15 e19 ?_;refine z0i ?_;refine zoq rfl rfl rfl rfl ((HB3.out.below hC).row (g:=w.heap.size) (o:=rexO z2q) (by simp)) rfl ?_;refine z0i ?_;refine z08 rfl (.inr rfl) rfl ?_;refine z0x ?_;simp only[z1h,Nat.reduceEqDiff,↓reduceIte,e0,e1,e2,e3,e4,e5,e6,e7,e8,e9,e10,e11,e12,e13,e14,e15,e16,e17,e18,e19];have HBL:=zh (bput (W0:=w) (g:=w.heap.size) (cs:=Ex.L ⟨a,bb,c,d,wo,mx⟩) (BV.bl (HB3.out.below hC)) (Nat.le_refl _));have HROW:=zh (setRow_heap w4 w.heap.size z2q.L (Ex.L ⟨a,bb,c,d,wo,mx⟩) _ _ ((HB3.out.below hC).row (g:=w.heap.size) (o:=rexO z2q) (by simp)));clear HB3 HB0 HW3 C0 C1 C2 C3 HK17 HK18 HAM17 HAM18 hC;generalize w4.setRow w.heap.size (Ex.L ⟨a,bb,c,d,wo,mx⟩)=w5 at *
   clear e0 e1 e2 e3 e4 e5 e6 e7 e8 e9 e10 e11 e12 e13 e14 e15 e16 e17 e18 e19;go_wp2_with fail;refine bodyPost_ret (z00 rfl _ _ w.heap.size 107 (Ex.L ⟨a,bb,c,d,wo,mx⟩) (0,0) _ rfl HROW.out Tryz.underlying107 rfl (by kernel_rfl)) rfl ?_;exact⟨rfl,HBL.out⟩
 ·have he:s.ex id=z2q:=by
   unfold St.ex;split
   ·rename_i a b c d hx;rw[hx]at h4;exact absurd rfl h4
   ·rfl
  have hi:s.exIs id=false:=by
   unfold St.exIs;rw[beq_eq_false_iff_ne];exact h4
  rw[he,hi];have HRW:Hid (∀ rs W,BV w rs W->Calls Tryz.prog 98 #[.pointer (some ⟨b,0,none⟩),.string (keyL 15 [id])] W fun e w'=>∃ a k,e= .returned (.slice a (rowOf (s.val (keyL 15 [id]))).length k)/\BV w rs w'):=fun rs W hW=>(hrw rs W hW).mono fun e w' ⟨v,he,ho,_,hb2⟩=>by
   obtain⟨_,a,c,rfl,_⟩:=ho.src;exact⟨a,c,he,QV.below hW hb2⟩
  have hne:(((rowOf (s.val (keyL 15 [id]))).length:Int) != 4)=true:=by
   rw[bne_iff_ne];omega
  have HB1:=zh hB;clear hB hrw h4 he hi hq hf;generalize (rowOf (s.val (keyL 15 [id]))).length=ln at *
  generalize keyL 15 [id]=k15 at *
  unfold z2q Ex.L;go_enter Tryz.func53,Tryz.ntmps53;go_wp2_with fail;refine zm (HK15.out _ _ HB1.out) ?_;rintro e w2 ⟨rfl,hB2⟩;have HR2:=zh (HRW.out _ _ hB2);clear hB2 HB1 HK15 HRW;go_wp2_with fail;refine zm HR2.out ?_;rintro e w3 ⟨a,kc,rfl,hB3⟩;have hz:=hB3.row (g:=w.heap.size) (o:=rexO z2q) (by simp);have hfz:∀ o,w3.frozen? ⟨w.heap.size,o,none⟩=false:=fun _=>frozen_of_row _ _ _ _ _ hz
  have HZ:=zh (zyb (x:=z2q) hz z2q);have HBB:=zh (zfi (BV.bl hB3) (Nat.le_refl _) z2q);have y0:=hfz 0;have y1:=hfz 1;have y2:=hfz 2;have y3:=hfz 3;have y4:=hfz 4;have y5:=hfz 5;have y6:=hfz 6;have y7:=hfz 7;have y8:=hfz 8;have y9:=hfz 9;have y10:=hfz 10;have y11:=hfz 11;obtain⟨⟨z0,z1,z2,z3⟩,⟨z4,z5,z6,z7⟩,⟨z8,z9,z10,z11⟩⟩:=z3c (x:=z2q) hz;clear hz hfz hB3 HR2;go_wp2_with fail;refine bodyPost_ret (z00 rfl _ _ w.heap.size 107 (Ex.L z2q) (0,0) _ rfl HZ.out Tryz.underlying107 rfl (by kernel_rfl)) rfl ?_;exact⟨rfl,HBB.out⟩
theorem q05{a t f:W4}(ha:a.Ok)(h:uN t<=uN f):scB a t f=true\/scW a t f=(0,0,0,0):=by
 unfold scB scW
 by_cases h0:uN f=0
 ·right;rw[if_pos h0]
 ·left
  rw[if_neg h0];unfold dnB toB;have h1:uN a*uN t/uN f<=uN a:=by
   refine Nat.le_trans (Nat.div_le_div_right (Nat.mul_le_mul_left _ h)) ?_;rw[Nat.mul_div_cancel _ (by omega)];exact Nat.le_refl _
  have h2:=z2m ha;simp only[Bool.and_eq_true,decide_eq_true_eq];unfold W256;exact⟨h0,by omega⟩
theorem zed(x:Ex)(m:W4)(hwo:x.wo.Ok)(hmx:x.mx.Ok)(hm:m.Ok)(w:World):Calls Tryz.prog 54 #[.agg x.L,uV m] w fun e w'=>e= .returned (uV (z5i x m))/\Below w.heap.size w w':=by
 have hB:=(((BV.start w).alloc (rexO x)).alloc (uO m)).alloc zO;simp only[World.size_alloc]at hB;have HC:Hid (∀ rs W,BV w rs W->Calls Tryz.prog 10 #[uV m,uV x.mx] W fun e w'=>e= .returned (.int .i64 (uCmp m x.mx))/\BV w rs w'):=fun rs W h=>h.reads (zhf m x.mx hm hmx W)
 have HS:Hid (∀ rs W,BV w rs W->Calls Tryz.prog 126 #[uV x.wo,uV m,uV x.mx] W fun e w'=>e= .returned (.tuple #[uV (scW x.wo m x.mx),.bool (scB x.wo m x.mx)])/\BV w rs w'):=fun rs W h=>h.reads (zma x.wo m x.mx hwo hm hmx W)
 have hlaw:(x.op=0->z5i x m=x.wo)/\(x.op≠0->scB x.wo m x.mx=false->z5i x m=(0,0,0,0))/\(x.op≠0->0<uCmp m x.mx->z5i x m=(0,0,0,0))/\(x.op≠0->¬ 0<uCmp m x.mx->z5i x m=scW x.wo m x.mx):=by
  rw[z9q];have hsc:=q05 (a:=x.wo) (t:=m) (f:=x.mx) hwo;unfold z5i;refine⟨fun h=>if_pos h,fun h h2 => ?_,fun h h2=>by rw[if_neg h,if_pos h2],fun h h2=>by rw[if_neg h,if_neg (by omega)]⟩;rw[if_neg h]
  by_cases h3:uN x.mx<uN m
  ·rw[if_pos h3]
  ·rw[if_neg h3];rcases hsc (by omega)with h4 | h4
   ·rw[h4]at h2;cases h2
   ·exact h4
 have HL:=zh hlaw;have HB:=zh hB;clear hlaw hwo hmx hm hB;generalize z5i x m=pw at *
 generalize uCmp m x.mx=cv at *
 generalize scW x.wo m x.mx=sw at *
 generalize scB x.wo m x.mx=sb at *
 obtain⟨xs,xo,xt,xb,W,M⟩:=x;dsimp only[rexO,Ex.L]at HL HB HC HS ⊢;go_enter Tryz.func54,Tryz.ntmps54;go_upto_region 1 with fail;generalize hw4:((w.alloc (.cells #[.int .i64 xs,.int .i64 xo,.int .i64 xt,.int .i64 xb,.int .u64 W.1,.int .u64 W.2.1,.int .u64 W.2.2.1,.int .u64 W.2.2.2,.int .u64 M.1,.int .u64 M.2.1,.int .u64 M.2.2.1,.int .u64 M.2.2.2] 107)).alloc (.cells (uL m) 24)).alloc zO=w4 at *
 clear hw4;obtain⟨⟨k0,k1,k2,k3⟩,⟨p0,p1,p2,p3⟩,⟨q0,q1,q2,q3⟩⟩:=z3c (x:=⟨xs,xo,xt,xb,W,M⟩) (HB.out.row (g:=w.heap.size) (o:=(.cells #[.int .i64 xs,.int .i64 xo,.int .i64 xt,.int .i64 xb,.int .u64 W.1,.int .u64 W.2.1,.int .u64 W.2.2.1,.int .u64 W.2.2.2,.int .u64 M.1,.int .u64 M.2.1,.int .u64 M.2.2.1,.int .u64 M.2.2.2] 107)) (by simp))
 by_cases h0:xo=0
 ·have h1:=HL.out.1 h0;subst h1;have hz:=HB.out.u4 (g:=w.heap.size+1+1) (x:=(0,0,0,0)) (by simp);obtain⟨z0,z1,z2,z3,z4,z5,z6,z7⟩:=row4 hz;have HZ:=zh (put4 hz pw);have HBB:=zh (z09 (BV.bl HB.out) (show w.heap.size<=w.heap.size+1+1 by omega) (.int .u64 pw.1) (.int .u64 pw.2.1) (.int .u64 pw.2.2.1) (.int .u64 pw.2.2.2));have h0b:(xo==0)=true:=by rw[beq_iff_eq];exact h0
  clear hz HB HL HC HS h0;go_wp2_with fail;refine bodyPost_ret (results_cell_row rfl _ _ (w.heap.size+1+1) 24 (uL pw) (0,0) _ rfl HZ.out Tryz.underlying24 rfl (by kernel_rfl)) rfl ?_;exact⟨rfl,HBB.out⟩
 ·have HX0:=zh h0;have h0b:(xo==0)=false:=by rw[beq_eq_false_iff_ne];exact h0
  obtain⟨m0,m1,m2,m3,_⟩:=row4 (HB.out.u4 (g:=w.heap.size+1) (x:=m) (by simp));have HS4:=zh (HS.out _ _ HB.out);clear HB HS h0;go_wp2_with fail;refine zm HS4.out ?_;rintro e w5 ⟨rfl,hB5⟩;have HB6:=zh (hB5.alloc (uO sw));clear HS4 hB5 k0 k1 k2 k3 p0 p1 p2 p3 q0 q1 q2 q3 m0 m1 m2 m3 h0b;go_upto_region 4 with fail;generalize hw6:w5.alloc (uO sw)=w6 at *
  generalize w5.heap.size=g6 at *
  clear hw6;cases sb with
  | false =>
   have h1:=HL.out.2.1 HX0.out rfl;subst h1;have hz:=HB6.out.u4 (g:=w.heap.size+1+1) (x:=(0,0,0,0)) (by simp);obtain⟨z0,z1,z2,z3,z4,z5,z6,z7⟩:=row4 hz;have HZ:=zh (put4 hz (0,0,0,0));have HBB:=zh (z09 (BV.bl HB6.out) (show w.heap.size<=w.heap.size+1+1 by omega) (.int .u64 0) (.int .u64 0) (.int .u64 0) (.int .u64 0));clear hz HB6 HL HC HX0;go_wp2_with fail;refine bodyPost_ret (results_cell_row rfl _ _ (w.heap.size+1+1) 24 (uL (0,0,0,0)) (0,0) _ rfl HZ.out Tryz.underlying24 rfl (by kernel_rfl)) rfl ?_;exact⟨rfl,HBB.out⟩
  | true =>
   obtain⟨m0,m1,m2,m3,_⟩:=row4 (HB6.out.u4 (g:=w.heap.size+1) (x:=m) (by simp));obtain⟨_,_,⟨q0,q1,q2,q3⟩⟩:=z3c (x:=⟨xs,xo,xt,xb,W,M⟩) (HB6.out.row (g:=w.heap.size) (o:=(.cells #[.int .i64 xs,.int .i64 xo,.int .i64 xt,.int .i64 xb,.int .u64 W.1,.int .u64 W.2.1,.int .u64 W.2.2.1,.int .u64 W.2.2.2,.int .u64 M.1,.int .u64 M.2.1,.int .u64 M.2.2.1,.int .u64 M.2.2.2] 107)) (by simp));have HC6:=zh (HC.out _ _ HB6.out);clear HB6 HC;go_wp2_with fail;refine zm HC6.out ?_;rintro e w7 ⟨rfl,hB7⟩;clear HC6 m0 m1 m2 m3 q0 q1 q2 q3;have hz:=hB7.u4 (g:=w.heap.size+1+1) (x:=(0,0,0,0)) (by simp);obtain⟨z0,z1,z2,z3,z4,z5,z6,z7⟩:=row4 hz
   by_cases hc:0<cv
   ·have h1:=HL.out.2.2.1 HX0.out hc;subst h1;have HZ:=zh (put4 hz (0,0,0,0));have HBB:=zh (z09 (BV.bl hB7) (show w.heap.size<=w.heap.size+1+1 by omega) (.int .u64 0) (.int .u64 0) (.int .u64 0) (.int .u64 0));clear hz hB7 HL HX0;go_wp2_with fail;refine bodyPost_ret (results_cell_row rfl _ _ (w.heap.size+1+1) 24 (uL (0,0,0,0)) (0,0) _ rfl HZ.out Tryz.underlying24 rfl (by kernel_rfl)) rfl ?_;exact⟨rfl,HBB.out⟩
   ·have h1:=HL.out.2.2.2 HX0.out (Int.not_lt.1 hc);have h1':=h1.symm;subst h1';have HZ:=zh (put4 hz sw);have HBB:=zh (z09 (BV.bl hB7) (show w.heap.size<=w.heap.size+1+1 by omega) (.int .u64 sw.1) (.int .u64 sw.2.1) (.int .u64 sw.2.2.1) (.int .u64 sw.2.2.2));obtain⟨y0,y1,y2,y3,_⟩:=row4 (hB7.u4 (g:=g6) (x:=sw) (by simp));clear hz hB7 HL HX0 h1;go_wp2_with fail;refine bodyPost_ret (results_cell_row rfl _ _ (w.heap.size+1+1) 24 (uL sw) (0,0) _ rfl HZ.out Tryz.underlying24 rfl (by kernel_rfl)) rfl ?_;exact⟨rfl,HBB.out⟩
end Go.Proofs.YtnkilceibkkjlaaGreat
