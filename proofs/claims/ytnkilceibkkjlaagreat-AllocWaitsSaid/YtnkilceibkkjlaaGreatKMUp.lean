/- What is proved here: muldiv.Down of the program. Its cond -/
import Derived.Test.YtnkilceibkkjlaaGreatKRelyG
import Derived.Test.YtnkilceibkkjlaaGreatKRDown
set_option maxRecDepth 100000
set_option maxHeartbeats 16000000
namespace Go.Proofs.YtnkilceibkkjlaaGreat
open Go.RowKit
structure DwAt (w:World) (x y d:W4) (wr:World):Prop where
 b:Below w.heap.size w wr
 x:wr.heap[w.heap.size]?=some (.cells (uL x) 24 (0,0))
 y:wr.heap[w.heap.size+1]?=some (.cells (uL y) 24 (0,0))
 d:wr.heap[w.heap.size+2]?=some (.cells (uL d) 24 (0,0))
 z:wr.heap[w.heap.size+3]?=some (.cells (uL (0,0,0,0)) 24 (0,0))
abbrev w4d(w:World)(x y d:W4):World:=(((w.alloc (.cells (uL x) 24)).alloc (.cells (uL y) 24)).alloc (.cells (uL d) 24)).alloc (.cells #[.int .u64 0,.int .u64 0,.int .u64 0,.int .u64 0] 24)
theorem DwAt.start(w:World)(x y d:W4):DwAt w x y d (w4d w x y d):=by
 refine⟨z00 (z00 (z00 (z00 zb _) _) _) _,?_,?_,?_,?_⟩
 ·rw[heap_alloc_old _ _ (by simp<;>omega),heap_alloc_old _ _ (by simp<;>omega),heap_alloc_old _ _ (by simp)];exact heap_alloc_new w _
 ·rw[heap_alloc_old _ _ (by simp<;>omega),heap_alloc_old _ _ (by simp<;>omega)];have:=heap_alloc_new (w.alloc (.cells (uL x) 24)) (.cells (uL y) 24)
  rwa [World.size_alloc]at this
 ·rw[heap_alloc_old _ _ (by simp)];have:=heap_alloc_new ((w.alloc (.cells (uL x) 24)).alloc (.cells (uL y) 24)) (.cells (uL d) 24)
  rwa [World.size_alloc,World.size_alloc]at this
 ·have:=heap_alloc_new (((w.alloc (.cells (uL x) 24)).alloc (.cells (uL y) 24)).alloc (.cells (uL d) 24)) (.cells #[.int .u64 0,.int .u64 0,.int .u64 0,.int .u64 0] 24)
  rwa [World.size_alloc,World.size_alloc,World.size_alloc]at this
theorem DwAt.below{w wr w':World}{x y d:W4}(h:DwAt w x y d wr)(hb:Below wr.heap.size wr w'):DwAt w x y d w':=
 ⟨z0b h.b hb,(hb.block _ (z02 h.x)).trans h.x,(hb.block _ (z02 h.y)).trans h.y,(hb.block _ (z02 h.d)).trans h.d,(hb.block _ (z02 h.z)).trans h.z⟩
theorem DwAt.put{w wr:World}{x y d q:W4}{g:Nat}(h:DwAt w x y d wr)(hg:w.heap.size+4<=g):DwAt w x y d (wr.setRow g (uL q)):=
 ⟨⟨h.b.os,h.b.tape,h.b.output,by simpa using h.b.size,fun k hk=>(setRow_other _ _ _ _ (by omega)).trans (h.b.block k hk)⟩,(setRow_other _ _ _ _ (by omega)).trans h.x,(setRow_other _ _ _ _ (by omega)).trans h.y,(setRow_other _ _ _ _ (by omega)).trans h.d,(setRow_other _ _ _ _ (by omega)).trans h.z⟩
structure UpAt (w:World) (g:Nat) (q:W4) (wr:World):Prop where
 b:Below w.heap.size w wr
 p:wr.heap[g]?=some (.cells (uL q) 24 (0,0))
 z':∃ z,wr.heap[w.heap.size+3]?=some (.cells (uL z) 24 (0,0))
 n:w.heap.size+4<=g
theorem UpAt.below{w wr w':World}{g:Nat}{q:W4}(h:UpAt w g q wr)(hb:Below wr.heap.size wr w'):UpAt w g q w':=
 ⟨z0b h.b hb,(hb.block _ (z02 h.p)).trans h.p,let ⟨z,hz⟩:=h.z';⟨z,(hb.block _ (z02 hz)).trans hz⟩,h.n⟩
theorem UpAt.put{w wr:World}{g:Nat}{q:W4}(h:UpAt w g q wr)(s:W4):UpAt w g q (wr.setRow (w.heap.size+3) (uL s)):=by
 obtain⟨z,hz⟩:=h.z';refine⟨⟨h.b.os,h.b.tape,h.b.output,by simpa using h.b.size,fun k hk=>(setRow_other _ _ _ _ (by omega)).trans (h.b.block k hk)⟩,(setRow_other _ _ _ _ (by have:=h.n;omega)).trans h.p,⟨s,setRow_heap _ _ _ _ _ _ hz⟩,h.n⟩
theorem zx7(x y d:W4)(hx:x.Ok)(hy:y.Ok)(hd:d.Ok)(w:World):Calls Tryz.prog 154 #[uV x,uV y,uV d] w fun e w'=>e= .returned (.tuple #[uV (upW x y d),.bool (upB x y d)])/\Below w.heap.size w w':=by
 have HC0:=zh ((DwAt.start w x y d).below (z0h zb));obtain⟨H,hH⟩:∃ H,H=hiOf (uN x*uN y):=⟨_,rfl⟩;obtain⟨L,hL⟩:∃ L,L=uOf (uN x*uN y):=⟨_,rfl⟩;have HM:Hid (∀ W,Calls Tryz.prog 176 #[uV x,uV y] W fun e w'=>e= .returned (wV H L)/\Below W.heap.size W w'):=fun W=>by rw[hH,hL];exact ztd x y hx hy W
 have HQ:Hid (∀ W,Calls Tryz.prog 175 #[wV H L,uV d] W fun e w'=>e= .returned (.tuple #[uV (mdQ x y d),uV (mdR x y d),.bool (mdB x y d)])/\Below W.heap.size W w'):=fun W=>by rw[hH,hL];exact zyt x y d hx hy hd W
 have hok:(mdQ x y d).Ok:=by rw[(q05 x y d).1];exact zz3 x y d
 have HUP:=zh (ztc x y d hd);obtain⟨q,hq⟩:∃ q,q=mdQ x y d:=⟨_,rfl⟩;obtain⟨r,hr⟩:∃ r,r=mdR x y d:=⟨_,rfl⟩;obtain⟨b,hb⟩:∃ b,b=mdB x y d:=⟨_,rfl⟩;obtain⟨s,hs⟩:∃ s,s=if z8j q (1,0,0,0)=0 then zcf q (1,0,0,0)else(0,0,0,0):=⟨_,rfl⟩
 obtain⟨c,hc⟩:∃ c,c=(z8j q (1,0,0,0)==0):=⟨_,rfl⟩;obtain⟨u,hu⟩:∃ u,u=upW x y d:=⟨_,rfl⟩;obtain⟨v,hv⟩:∃ v,v=upB x y d:=⟨_,rfl⟩;rw[<- hq]at hok;have HA:Hid (∀ W,Calls Tryz.prog 79 #[uV q,uV (1,0,0,0)] W fun e w'=>e= .returned (.tuple #[uV s,.bool c])/\Below W.heap.size W w'):=fun W=>by rw[hs,hc];exact zkp q (1,0,0,0) hok ⟨by decide,by decide,by decide,by decide⟩ W
 rw[<- hu,<- hv,<- hq,<- hr,<- hb,<- hs,<- hc]at HUP;rw[<- hu,<- hv];rw[<- hq,<- hr,<- hb]at HQ;clear hq hr hb hH hL hs hc hu hv;have HE:Hid (decide (r=(0,0,0,0))=true\/decide (r=(0,0,0,0))=false):=by by_cases h:r=(0,0,0,0)<;>simp[h,Hid]
 go_enter Tryz.func154,Tryz.ntmps154;go_wp2_with fail;go_upto_region 1 with fail;refine z1g [[],[],[0,1],[],[0,1,2,3],[0,1,2,3,4],[0,1,2,3,4,5],[0,1,2,3,4,5],[0,1,2,3,4,5],[],[],[0,1,2,3,4,5,6,9,10],[0,1,2,3,4,5,6,7,9,10,11],[0,1,2,3,4,5,6,7,8,9,10,11,12]]
  [rgC (DwAt w x y d),rgV 0 (uV x),rgV 1 (uV y),rgV 2 (wV H L),rgV 3 (uV d),rgV 4 (.tuple #[uV q,uV r,.bool b]),rgV 5 (.tuple #[uV q,uV r,.bool b]),rgV 6 (uV q),rgV 7 (uV r),rgV 8 (.bool b),rgP 9 (w.heap.size+4),rgP 10 (w.heap.size+4),rgV 13 (.bool b),rgNe 9 10,rgS 9 11 (q),rgS 10 12 (r)] _ (by kernel_rfl) (by kernel_rfl) (by kernel_rfl)
  (fun vs=>by simp only[z14,z1a,List.setIfInBounds_toArray,List.set_cons_zero,List.set_cons_succ];exact rfl)
  ⟨fun _ _ _ hb h=>h.below hb,z0e,z0e,z0e,z0e,z0e,z0e,z0e,z0e,z0e,zay,zay,z0e,zwj,zb4,zb4,trivial⟩ ?_ ?_ ?_
 ·refine z3k rfl HC0.out ?_;iterate 15 refine z4l rfl ?_
  exact trivial
 ·refine⟨?_,?_,?_,?_,?_,?_,?_,?_,?_,?_,?_,?_,?_,?_,trivial⟩
  ·rintro vs w1 ⟨hC,_⟩ K hK;refine z0p rfl rfl rfl hC.x (hK _ _ (.inl zb) ?_);exact z07 1
  ·rintro vs w1 ⟨hC,_⟩ K hK;refine z0p rfl rfl rfl hC.y (hK _ _ (.inl zb) ?_);exact z07 2
  ·rintro vs w1 ⟨_,e0,e1,_⟩ K hK;refine z4w rfl rfl rfl (by kernel_rfl) (show [vs 0,vs 1]=_ from by rw[rg1 e0,rg1 e1]) (zm (HM.out _) ?_);rintro e w2 ⟨rfl,hb⟩;refine⟨_,rfl,hK _ _ (.inl hb) ?_⟩;exact z07 3
  ·rintro vs w1 ⟨hC,_⟩ K hK;refine z0p rfl rfl rfl hC.d (hK _ _ (.inl zb) ?_);exact z07 4
  ·rintro vs w1 ⟨_,_,_,e2,e3,_⟩ K hK;refine z4w rfl rfl rfl (by kernel_rfl) (show [vs 2,vs 3]=_ from by rw[rg1 e2,rg1 e3]) (zm (HQ.out _) ?_);rintro e w2 ⟨rfl,hb⟩;refine⟨_,rfl,hK _ _ (.inl hb) ?_⟩;exact z07 5
  ·rintro vs w1 ⟨_,_,_,_,_,e4,_⟩ K hK;refine z0a rfl (.inl rfl) (rg1 e4) (hK _ _ (.inl zb) ?_);exact z07 6
  ·rintro vs w1 ⟨_,_,_,_,_,_,e5,_⟩ K hK;refine z0x rfl rfl (rg1 e5) rfl (hK _ _ (.inl zb) ?_);exact z07 7
  ·rintro vs w1 ⟨_,_,_,_,_,_,e5,_⟩ K hK;refine z0x rfl rfl (rg1 e5) rfl (hK _ _ (.inl zb) ?_);exact z07 8
  ·rintro vs w1 ⟨_,_,_,_,_,_,e5,_⟩ K hK;refine z0x rfl rfl (rg1 e5) rfl (hK _ _ (.inl zb) ?_);exact z07 9
  ·rintro vs w1 ⟨hC,_⟩ K hK;refine z4n rfl rfl (hK _ _ (.inl (z00 zb _)) ?_);iterate 10 refine z0v rfl ?_
   refine z18 rfl (fun _=>⟨_,_,rfl,z02 hC.z,heap_alloc_new _ _⟩) ?_;iterate 2 refine z0v rfl ?_
   refine z18 rfl (fun hB=>by obtain⟨_,q10,_⟩:=hB;exact zr5 q10) ?_;iterate 2 refine z0v rfl ?_
   exact trivial
  ·rintro vs w1 ⟨hC,_⟩ K hK;refine z4n rfl rfl (hK _ _ (.inl (z00 zb _)) ?_);iterate 11 refine z0v rfl ?_
   refine z18 rfl (fun _=>⟨_,_,rfl,z02 hC.z,heap_alloc_new _ _⟩) ?_;refine z0v rfl ?_;refine z18 rfl (fun hB=>by obtain⟨_,q9,_⟩:=hB;exact zrr q9) ?_;iterate 2 refine z0v rfl ?_
   exact trivial
  ·rintro vs w1 ⟨hC,_,_,_,_,_,_,e6,⟨_,_,e9,h9,g9⟩,_,_,_⟩ K hK;refine z2v rfl rfl (rg1 e9) (rg1 e6) g9 (hK _ _ (.inr ?_) ?_)
   ·refine z0k rfl (fun hC _=>hC.put h9) ?_;iterate 9 refine z0k rfl (fun h _=>h) ?_
    refine z0k rfl (fun h _=>z5y h) ?_;refine z0k rfl (fun h _=>z5y h) ?_;refine z2y rfl ?_;refine z0k rfl (fun h _=>h) ?_;iterate 2 refine z2y rfl ?_
    exact trivial
   ·iterate 14 refine z0v rfl ?_
    refine z18 rfl (fun _=>⟨_,_,by show [vs 9,undef]=_;rw[rg1 e9],setRow_heap _ _ _ _ _ _ g9⟩) ?_;refine z0v rfl ?_;exact trivial
  ·rintro vs w1 ⟨hC,_,_,_,_,_,_,_,e7,_,⟨_,_,e10,h10,g10⟩,n9_10,_,_⟩ K hK;refine z2v rfl rfl (rg1 e10) (rg1 e7) g10 (hK _ _ (.inr ?_) ?_)
   ·refine z0k rfl (fun hC _=>hC.put h10) ?_;iterate 9 refine z0k rfl (fun h _=>h) ?_
    refine z0k rfl (fun h _=>z5y h) ?_;refine z0k rfl (fun h _=>z5y h) ?_;refine z2y rfl ?_;refine z0k rfl (fun h _=>h) ?_;refine z0k rfl (fun h hB=>by obtain⟨_,_,_,_,_,_,_,_,_,_,_,n9_10,_,_⟩:=hB;exact zvy h fun p u hx=>by have h1:=(rg2 hx).1;exact zvi n9_10 (by show [vs 9,vs 10]=_;rw[h1,rg1 e10])) ?_;refine z2y rfl ?_;exact trivial
   ·iterate 15 refine z0v rfl ?_
    refine z18 rfl (fun _=>⟨_,_,by show [vs 10,undef]=_;rw[rg1 e10],setRow_heap _ _ _ _ _ _ g10⟩) ?_;exact trivial
  ·rintro vs w1 ⟨_,_,_,_,_,_,_,_,_,e8,_,_,_,_,_,_⟩ K hK;refine z0a rfl (.inr rfl) (rg1 e8) (hK _ _ (.inl zb) ?_);exact z07 12
 ·intro vs w1 hA;obtain⟨hC,e0,e1,e2,e3,e4,e5,e6,e7,e8,⟨p9,_,e9,h9,g9⟩,⟨p10,_,e10,h10,g10⟩,e13,n9_10,s11,s12,_⟩:=hA;have e0:=rg1 e0;have e1:=rg1 e1;have e2:=rg1 e2;have e3:=rg1 e3;have e4:=rg1 e4;have e5:=rg1 e5;have e6:=rg1 e6;have e7:=rg1 e7;have e8:=rg1 e8;have e9:=rg1 e9;have e10:=rg1 e10;have e13:=rg1 e13;have s11:=zb6 s11 e9;have s12:=zb6 s12 e10;simp only[e0,e1,e2,e3,e4,e5,e6,e7,e8,e9,e10,e13];obtain⟨c0,c1,c2,c3,_⟩:=row4 s11;obtain⟨d0,d1,d2,d3,_⟩:=row4 s12;obtain⟨z0,z1,z2,z3,z4,z5,z6,z7⟩:=row4 hC.z;have HZ:=zh (put4 hC.z q);have HB:=zh (z0f (n:=w.heap.size) hC.b (show w.heap.size<=w.heap.size+3 by omega) (.int .u64 q.1) (.int .u64 q.2.1) (.int .u64 q.2.2.1) (.int .u64 q.2.2.2));have HC4:Hid (UpAt w p9 q w1.drew):=⟨z0h hC.b,s11,⟨_,hC.z⟩,h9⟩;have hne:w.heap.size+3≠p9:=by omega
  have hne2:=Ne.symm hne;clear e0 e1 e2 e3 e4 e5 e6 e7 e8 e9 e10 e13 g9 g10 s11 s12 n9_10 hC h9 h10;cases b with
  | false =>
   obtain⟨eu,ev⟩:=HUP.out.1 rfl;have HEN:Hid (Ending.returned (.tuple #[uV q,.bool false])=Ending.returned (.tuple #[uV u,.bool v])):=by rw[eu,ev];rfl
   clear eu ev HUP;go_wp2_with fail;refine bodyPost_ret (z03 rfl _ _ (w.heap.size+3) 24 (uL q) (0,0) _ rfl HZ.out Tryz.underlying24 rfl (by kernel_rfl)) rfl ?_;exact⟨HEN.out,HB.out⟩
  | true =>
   by_cases hr0:r=(0,0,0,0)
   ·obtain⟨eu,ev⟩:=HUP.out.2.1 rfl hr0;subst hr0;have HEN:Hid (Ending.returned (.tuple #[uV q,.bool true])=Ending.returned (.tuple #[uV u,.bool v])):=by rw[eu,ev];rfl
    have hE:∀ w,(Op.equalIn 10000 24 (.agg #[.int .u64 0,.int .u64 0,.int .u64 0,.int .u64 0]) (.agg #[.int .u64 0,.int .u64 0,.int .u64 0,.int .u64 0])).run Tryz.prog w= .ok true w:=fun w=>eqU (0,0,0,0) (0,0,0,0) w
    clear eu ev HUP;go_wp2_with fail;refine bodyPost_ret (z03 rfl _ _ (w.heap.size+3) 24 (uL q) (0,0) _ rfl HZ.out Tryz.underlying24 rfl (by kernel_rfl)) rfl ?_;exact⟨HEN.out,HB.out⟩
   ·obtain⟨eu,ev⟩:=HUP.out.2.2 rfl hr0;have HEN:Hid (Ending.returned (.tuple #[uV s,.bool c])=Ending.returned (.tuple #[uV u,.bool v])):=by rw[eu,ev];rfl
    have hE:∀ w,(Op.equalIn 10000 24 (uV r) (.agg #[.int .u64 0,.int .u64 0,.int .u64 0,.int .u64 0])).run Tryz.prog w= .ok false w:=fun w=>by
     have:=eqU r (0,0,0,0) w
     rwa [decide_eq_false hr0]at this
    clear eu ev HUP hr0;go_wp2_with fail;go_upto_region 4 with fail;refine z1g [[],[],[0,1],[0,1,2],[0,1,2],[0,1,2,3,4],[0,1,2,3,4,5]]
     [rgC (UpAt w p9 q),rgV 0 (uV q),rgV 1 (uV (1,0,0,0)),rgV 2 (.tuple #[uV s,.bool c]),rgV 3 (uV s),rgV 4 (.bool c),rgV 6 (.bool c),rgR 5 (w.heap.size+3) (s)] _ (by kernel_rfl) (by kernel_rfl) (by kernel_rfl)
     (fun vs=>by simp only[z14,z1a,List.setIfInBounds_toArray,List.set_cons_zero,List.set_cons_succ];exact rfl)
     ⟨fun _ _ _ hb h=>h.below hb,z0e,z0e,z0e,z0e,z0e,z0e,zxh,trivial⟩ ?_ ?_ ?_
    ·refine z3k rfl HC4.out ?_;iterate 7 refine z4l rfl ?_
     exact trivial
    ·refine⟨?_,?_,?_,?_,?_,?_,?_,trivial⟩
     ·rintro vs w1 ⟨hC,_⟩ K hK;refine z0p rfl rfl rfl hC.p (hK _ _ (.inl zb) ?_);exact z07 1
     ·rintro vs w1 ⟨_,_⟩ K hK;refine z4w rfl rfl rfl (by kernel_rfl) rfl (zm (ziz 1 _) ?_);rintro e w2 ⟨rfl,hb⟩;refine⟨_,rfl,hK _ _ (.inl hb) ?_⟩;exact z07 2
     ·rintro vs w1 ⟨_,e0,e1,_⟩ K hK;refine z4w rfl rfl rfl (by kernel_rfl) (show [vs 0,vs 1]=_ from by rw[rg1 e0,rg1 e1]) (zm (HA.out _) ?_);rintro e w2 ⟨rfl,hb⟩;refine⟨_,rfl,hK _ _ (.inl hb) ?_⟩;exact z07 3
     ·rintro vs w1 ⟨_,_,_,e2,_⟩ K hK;refine z0x rfl rfl (rg1 e2) rfl (hK _ _ (.inl zb) ?_);exact z07 4
     ·rintro vs w1 ⟨_,_,_,e2,_⟩ K hK;refine z0x rfl rfl (rg1 e2) rfl (hK _ _ (.inl zb) ?_);exact z07 5
     ·rintro vs w1 ⟨hC,_,_,_,e3,_,_⟩ K hK;refine z2v rfl rfl rfl (rg1 e3) hC.z'.choose_spec (hK _ _ (.inr ?_) ?_)
      ·refine z0k rfl (fun hC _=>hC.put _) ?_;iterate 5 refine z0k rfl (fun h _=>h) ?_
       iterate 2 refine z2y rfl ?_
       exact trivial
      ·iterate 7 refine z0v rfl ?_
       refine z18 rfl (fun _=>setRow_heap _ _ _ _ _ _ hC.z'.choose_spec) ?_;exact trivial
     ·rintro vs w1 ⟨_,_,_,_,_,e4,_,_⟩ K hK;refine z0a rfl (.inr rfl) (rg1 e4) (hK _ _ (.inl zb) ?_);exact z07 6
    ·intro vs w1 hA;obtain⟨hC,e0,e1,e2,e3,e4,e6,t5,_⟩:=hA;have e0:=rg1 e0;have e1:=rg1 e1;have e2:=rg1 e2;have e3:=rg1 e3;have e4:=rg1 e4;have e6:=rg1 e6;simp only[e0,e1,e2,e3,e4,e6];have HR:=zh t5;have HB5:=zh hC.b;clear e0 e1 e2 e3 e4 e6 t5 hC;go_wp2_with fail;refine bodyPost_ret (z03 rfl _ _ (w.heap.size+3) 24 (uL s) (0,0) _ rfl HR.out Tryz.underlying24 rfl (by kernel_rfl)) rfl ?_;exact⟨HEN.out,HB5.out⟩
abbrev M128:Nat:=340282366920938463463374607431768211456
def sqW:W4:=uOf 1000000000000000000000000000000000000
theorem zwf:uN oneW=1000000000000000000:=by decide
end Go.Proofs.YtnkilceibkkjlaaGreat
