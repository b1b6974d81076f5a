/- What is proved here: the reference's Add, Sub and Move of amounts in a store. Their conditions: sizes -/
import Derived.Test.YtnkilceibkkjlaaGreatGRCell
import Derived.Test.YtnkilceibkkjlaaGreatGRFacA
import Derived.Test.YtnkilceibkkjlaaGreatGHoldD
set_option maxRecDepth 100000
set_option maxHeartbeats 16000000
namespace Go.Proofs.YtnkilceibkkjlaaGreat
open Go.RowKit
abbrev FV(b:Nat)(w:World)(L:List Nat)(s:St)(rs:List (Nat × Obj))(W:World):Prop:=QV (FRep b) w L s rs W
theorem FV.start{b:Nat}{w:World}{L:List Nat}{s:St}(h:RRep w b s L):FV b w L s [] w:=QV.start (zxk b) h
def ROn(w:World)(b:Nat)(L:List Nat)(s:St)(W:World):Prop:=∃ L',RRep W b s L'/\Step w L W L'
theorem FV.done{b:Nat}{w W:World}{L:List Nat}{s:St}{rs:List (Nat × Obj)}(h:FV b w L s rs W):ROn w b L s W:=QV.done h
theorem FV.camt{b:Nat}{w W:World}{L:List Nat}{s:St}{rs:List (Nat × Obj)}{f:Nat}(hq:FV b w L s rs W)(hf:s.Fit f)(hm:f<100000000000)(k:ByteArray):Calls Tryz.prog 91 #[.pointer (some ⟨b,0,none⟩),.string k] W fun e W'=>e= .returned (uV (s.amt k))/\Below W.heap.size W W':=by
 obtain⟨L',h1,_⟩:=hq.on;exact zbe W b s L' k h1 (by have:=hf.size;unfold St.size at this;omega)
theorem FV.cset{b:Nat}{w W:World}{L:List Nat}{s:St}{rs:List (Nat × Obj)}(hq:FV b w L s rs W)(hz:s.size<1000000000000)(k:ByteArray)(x:W4):Calls Tryz.prog 134 #[.pointer (some ⟨b,0,none⟩),.string k,uV x] W fun e W'=>e= .returned (.tuple #[])/\FV b w L (s.z15 k x) rs W':=
 QV.call hq fun L' h1=>(ziq W b s L' k x h1 hz).mono fun _ _ ⟨he,h2⟩=>⟨he,h2.2⟩
abbrev H1:Hand:=⟨none,true,[]⟩
theorem zy5(x y:W4):(sumB x y=false->z2j x y=6)/\(decide (uN (sumW x y)<M128)=false->z2j x y=6)/\(sumB x y=true->decide (uN (sumW x y)<M128)=true->z2j x y=0/\zba x y=sumW x y):=
 ⟨fun h=>((z9x x y).1 h).2,fun h=>((z9x x y).2.1 h).2,fun h1 h2=>⟨((z9x x y).2.2 h1 h2).2,((z9x x y).2.2 h1 h2).1⟩⟩
theorem zqp(w:World)(b:Nat)(L:List Nat)(s:St)(f:Nat)(k:ByteArray)(a:W4)(ha:a.Ok)(hq:RRep w b s L)(hf:s.Fit f)(hm:f<10000000000) :
  Calls Tryz.prog 188 #[.pointer (some ⟨b,0,none⟩),.string k,uV a] w fun e w'=>e= .returned (.int .i64 (z1e (s.amt k) a))/\ROn w b L (H1.z4p s k a) w':=by
 have hq1:=(FV.start hq).alloc (uO a);have HAk:Hid (∀ W,FV b w L s [(w.heap.size,uO a)] W->Calls Tryz.prog 91 #[.pointer (some ⟨b,0,none⟩),.string k] W fun e W'=>e= .returned (uV (s.amt k))/\Below W.heap.size W W'):=fun W hW=>hW.camt hf (by omega) k
 have HL:Hid (∀ W,Calls Tryz.prog 22 #[uV (s.amt k),uV a] W fun e w'=>e= .returned (.tuple #[uV (subW (s.amt k) a),.bool (subB (s.amt k) a)])/\Below W.heap.size W w'):=zvs _ a (z9c _ _) ha;have HS:Hid (∀ rs W,FV b w L s rs W->Calls Tryz.prog 134 #[.pointer (some ⟨b,0,none⟩),.string k,uV (subW (s.amt k) a)] W fun e W'=>e= .returned (.tuple #[])/\FV b w L (s.z15 k (subW (s.amt k) a)) rs W'):=fun rs W hW=>hW.cset (Nat.lt_of_le_of_lt hf.size (by omega)) k _
 have HE:Hid ((subB (s.amt k) a=false->z1e (s.amt k) a=13/\H1.z4p s k a=s)/\(subB (s.amt k) a=true->z1e (s.amt k) a=0/\H1.z4p s k a=s.z15 k (subW (s.amt k) a))):=by
  unfold subB z1e Hand.z4p z1e Hand.st;refine⟨fun h => ?_,fun h => ?_⟩
  ·have:=of_decide_eq_false h;rw[if_neg this,if_neg (by decide)];exact⟨rfl,rfl⟩
  ·have:=of_decide_eq_true h;rw[if_pos this,if_pos rfl];exact⟨rfl,rfl⟩
 generalize s.z15 k (subW (s.amt k) a)=s1 at *
 generalize H1.z4p s k a=sx at *
 generalize z1e (s.amt k) a=ee at *
 generalize subW (s.amt k) a=u at *
 generalize subB (s.amt k) a=er at *
 generalize s.amt k=xk at *
 clear hf hq ha;go_enter Tryz.func188,Tryz.ntmps188;go_wp2_with fail;go_upto_region 1 with fail;generalize w.alloc (uO a)=W0 at *
 have HQ:=zh hq1;have HA:Hid (∀ W,Below W0.heap.size W0 W->Calls Tryz.prog 91 #[.pointer (some ⟨b,0,none⟩),.string k] W fun e W'=>e= .returned (uV xk)/\Below W.heap.size W W'):=fun W hW=>HAk.out W (hq1.below hW)
 have HB0:=zh (z0g (Below.refl W0.heap.size W0));clear hq1;refine z16 [[],[],[0,1],[],[0,1,2,3],[0,1,2,3,4],[0,1,2,3,4,5],[0,1,2,3,4,5],[],[0,1,2,3,4,5,6,8],[0,1,2,3,4,5,6,7,8,9]]
  [rgC (Below W0.heap.size W0),rgV 0 (.pointer (some ⟨b,0,none⟩)),rgV 1 (.string k),rgV 2 (uV xk),rgV 3 (uV a),rgV 4 (.tuple #[uV u,.bool er]),rgV 5 (.tuple #[uV u,.bool er]),rgV 6 (uV u),rgV 7 (.bool er),rgP 8 (W0.heap.size),rgV 10 (.bool er),rgS 8 9 (u)] _ (by kernel_rfl) (by kernel_rfl) (by kernel_rfl)
  (fun vs=>by simp only[z14,z1i,List.setIfInBounds_toArray,List.set_cons_zero,List.set_cons_succ];exact rfl)
  ⟨fun _ _ _ hb h=>z0a h hb,z02,z02,z02,z02,z02,z02,z02,z02,ze8,z02,zer,trivial⟩ ?_ ?_ ?_
 ·refine z0p rfl HB0.out ?_;iterate 11 refine z0u rfl ?_
  exact trivial
 ·refine⟨?_,?_,?_,?_,?_,?_,?_,?_,?_,?_,?_,trivial⟩
  ·rintro vs w1 ⟨_,_⟩ K hK;refine z08 rfl (.inl rfl) rfl (hK _ _ (.inl zb) ?_);exact z01 1
  ·rintro vs w1 ⟨_,_⟩ K hK;refine z08 rfl (.inl rfl) rfl (hK _ _ (.inl zb) ?_);exact z01 2
  ·rintro vs w1 ⟨hC,e0,e1,_⟩ K hK;refine z0v rfl rfl rfl (by kernel_rfl) (show [vs 0,vs 1]=_ from by rw[rg1 e0,rg1 e1]) (zm (HA.out _ hC) ?_);rintro e w2 ⟨rfl,hb⟩;refine⟨_,rfl,hK _ _ (.inl hb) ?_⟩;exact z01 3
  ·rintro vs w1 ⟨hC,_⟩ K hK;refine z1b rfl rfl rfl ((HQ.out.below hC).u4 (x:=a) (by simp)) (hK _ _ (.inl zb) ?_);exact z01 4
  ·rintro vs w1 ⟨_,_,_,e2,e3,_⟩ K hK;refine z0v rfl rfl rfl (by kernel_rfl) (show [vs 2,vs 3]=_ from by rw[rg1 e2,rg1 e3]) (zm (HL.out _) ?_);rintro e w2 ⟨rfl,hb⟩;refine⟨_,rfl,hK _ _ (.inl hb) ?_⟩;exact z01 5
  ·rintro vs w1 ⟨_,_,_,_,_,e4,_⟩ K hK;refine z08 rfl (.inl rfl) (rg1 e4) (hK _ _ (.inl zb) ?_);exact z01 6
  ·rintro vs w1 ⟨_,_,_,_,_,_,e5,_⟩ K hK;refine z18 rfl rfl (rg1 e5) rfl (hK _ _ (.inl zb) ?_);exact z01 7
  ·rintro vs w1 ⟨_,_,_,_,_,_,e5,_⟩ K hK;refine z18 rfl rfl (rg1 e5) rfl (hK _ _ (.inl zb) ?_);exact z01 8
  ·rintro vs w1 ⟨hC,_⟩ K hK;refine z5m rfl rfl (hK _ _ (.inl (z04 zb _)) ?_);iterate 9 refine z0k rfl ?_
   refine z0r rfl (fun _=>⟨_,_,rfl,hC.size,heap_alloc_new _ _⟩) ?_;iterate 2 refine z0k rfl ?_
   exact trivial
  ·rintro vs w1 ⟨hC,_,_,_,_,_,_,e6,⟨_,_,e8,h8,g8⟩,_⟩ K hK;refine z2k rfl rfl (rg1 e8) (rg1 e6) g8 (hK _ _ (.inr ?_) ?_)
   ·refine z0l rfl (fun hC _=>bput hC h8) ?_;iterate 8 refine z0l rfl (fun h _=>h) ?_
    refine z0l rfl (fun h _=>z7f h) ?_;iterate 2 refine z2l rfl ?_
    exact trivial
   ·iterate 11 refine z0k rfl ?_
    refine z0r rfl (fun _=>⟨_,_,by show [vs 8,undef]=_;rw[rg1 e8],setRow_heap _ _ _ _ _ _ g8⟩) ?_;exact trivial
  ·rintro vs w1 ⟨_,_,_,_,_,_,_,_,e7,_,_,_⟩ K hK;refine z08 rfl (.inr rfl) (rg1 e7) (hK _ _ (.inl zb) ?_);exact z01 10
 ·intro vs w1 hA;obtain⟨hC,e0,e1,e2,e3,e4,e5,e6,e7,⟨p8,_,e8,h8,g8⟩,e10,s9,_⟩:=hA;have e0:=rg1 e0;have e1:=rg1 e1;have e2:=rg1 e2;have e3:=rg1 e3;have e4:=rg1 e4;have e5:=rg1 e5;have e6:=rg1 e6;have e7:=rg1 e7;have e8:=rg1 e8;have e10:=rg1 e10;have s9:=zeb s9 e8;simp only[e0,e1,e2,e3,e4,e5,e6,e7,e8,e10];have hq2:=HQ.out.add1 hC h8 s9;have HD0:=zh (hq2.done);obtain⟨u0,u1,u2,u3,_⟩:=row4 (hq2.u4 (g:=p8) (x:=u) (by simp));clear e0 e1 e2 e3 e4 e5 e6 e7 e8 e10 g8 s9 h8 hC HL HA HAk HB0 HQ;cases er with
  | false =>
   obtain⟨he,hx⟩:=HE.out.1 (by trivial);subst he hx;clear HE HS hq2;go_wp2_with fail;go_ret;exact⟨rfl,HD0.out⟩
  | true =>
   obtain⟨he,hx⟩:=HE.out.2 (by trivial);subst he hx;have HS1:=zh (HS.out _ _ hq2);clear HE HS hq2 HD0;go_wp2_with fail;refine zm HS1.out ?_;rintro e w5 ⟨rfl,hq5⟩;have HD:=zh hq5.done
   clear hq5 HS1;go_wp2_with fail;go_ret;exact⟨rfl,HD.out⟩
theorem zxs(w:World)(b:Nat)(L:List Nat)(s:St)(f:Nat)(k:ByteArray)(a:W4)(ha:a.Ok)(hq:RRep w b s L)(hf:s.Fit f)(hm:f<10000000000) :
  Calls Tryz.prog 185 #[.pointer (some ⟨b,0,none⟩),.string k,uV a] w fun e w'=>e= .returned (.int .i64 (z2j (s.amt k) a))/\ROn w b L (H1.z5s s k a) w':=by
 have hq1:=(FV.start hq).alloc (uO a);have HAk:Hid (∀ W,FV b w L s [(w.heap.size,uO a)] W->Calls Tryz.prog 91 #[.pointer (some ⟨b,0,none⟩),.string k] W fun e W'=>e= .returned (uV (s.amt k))/\Below W.heap.size W W'):=fun W hW=>hW.camt hf (by omega) k
 have HL:Hid (∀ W,Calls Tryz.prog 21 #[uV (s.amt k),uV a] W fun e w'=>e= .returned (.tuple #[uV (sumW (s.amt k) a),.bool (sumB (s.amt k) a)])/\Below W.heap.size W w'):=zvo _ a (z9c _ _) ha;have HAm:Hid (∀ rs W,FV b w L s rs W->Calls Tryz.prog 182 #[uV (sumW (s.amt k) a)] W fun e W'=>e= .returned (.bool (decide (uN (sumW (s.amt k) a)<M128)))/\FV b w L s rs W'):=fun rs W hW=>QV.reads hW fun _ _=>z97 _ (zhy _) W
 have HS:Hid (∀ rs W,FV b w L s rs W->Calls Tryz.prog 134 #[.pointer (some ⟨b,0,none⟩),.string k,uV (sumW (s.amt k) a)] W fun e W'=>e= .returned (.tuple #[])/\FV b w L (s.z15 k (sumW (s.amt k) a)) rs W'):=fun rs W hW=>hW.cset (Nat.lt_of_le_of_lt hf.size (by omega)) k _
 have HE:Hid ((sumB (s.amt k) a=false->z2j (s.amt k) a=6/\H1.z5s s k a=s)/\(decide (uN (sumW (s.amt k) a)<M128)=false->z2j (s.amt k) a=6/\H1.z5s s k a=s)/\(sumB (s.amt k) a=true->decide (uN (sumW (s.amt k) a)<M128)=true->z2j (s.amt k) a=0/\H1.z5s s k a=s.z15 k (sumW (s.amt k) a))):=by
  obtain⟨h1,h2,h3⟩:=zy5 (s.amt k) a;unfold Hand.z5s Hand.st;refine⟨fun h => ?_,fun h => ?_,fun h h' => ?_⟩
  ·rw[h1 h,if_neg (by decide)];exact⟨rfl,rfl⟩
  ·rw[h2 h,if_neg (by decide)];exact⟨rfl,rfl⟩
  ·obtain⟨h4,h5⟩:=h3 h h';rw[h4,h5,if_pos rfl];exact⟨rfl,rfl⟩
 generalize s.z15 k (sumW (s.amt k) a)=s1 at *
 generalize H1.z5s s k a=sx at *
 generalize z2j (s.amt k) a=ee at *
 generalize decide (uN (sumW (s.amt k) a)<M128)=am at *
 generalize sumW (s.amt k) a=u at *
 generalize sumB (s.amt k) a=er at *
 generalize s.amt k=xk at *
 clear hf hq ha;go_enter Tryz.func185,Tryz.ntmps185;go_wp2_with fail;go_upto_region 1 with fail;generalize w.alloc (uO a)=W0 at *
 have HQ:=zh hq1;have HA:Hid (∀ W,Below W0.heap.size W0 W->Calls Tryz.prog 91 #[.pointer (some ⟨b,0,none⟩),.string k] W fun e W'=>e= .returned (uV xk)/\Below W.heap.size W W'):=fun W hW=>HAk.out W (hq1.below hW)
 have HB0:=zh (z0g (Below.refl W0.heap.size W0));clear hq1;refine z16 [[],[],[0,1],[],[0,1,2,3],[0,1,2,3,4],[0,1,2,3,4,5],[0,1,2,3,4,5],[],[0,1,2,3,4,5,6,8],[0,1,2,3,4,5,6,7,8,9]]
  [rgC (Below W0.heap.size W0),rgV 0 (.pointer (some ⟨b,0,none⟩)),rgV 1 (.string k),rgV 2 (uV xk),rgV 3 (uV a),rgV 4 (.tuple #[uV u,.bool er]),rgV 5 (.tuple #[uV u,.bool er]),rgV 6 (uV u),rgV 7 (.bool er),rgP 8 (W0.heap.size),rgV 10 (.bool er),rgS 8 9 (u)] _ (by kernel_rfl) (by kernel_rfl) (by kernel_rfl)
  (fun vs=>by simp only[z14,z1i,List.setIfInBounds_toArray,List.set_cons_zero,List.set_cons_succ];exact rfl)
  ⟨fun _ _ _ hb h=>z0a h hb,z02,z02,z02,z02,z02,z02,z02,z02,ze8,z02,zer,trivial⟩ ?_ ?_ ?_
 ·refine z0p rfl HB0.out ?_;iterate 11 refine z0u rfl ?_
  exact trivial
 ·refine⟨?_,?_,?_,?_,?_,?_,?_,?_,?_,?_,?_,trivial⟩
  ·rintro vs w1 ⟨_,_⟩ K hK;refine z08 rfl (.inl rfl) rfl (hK _ _ (.inl zb) ?_);exact z01 1
  ·rintro vs w1 ⟨_,_⟩ K hK;refine z08 rfl (.inl rfl) rfl (hK _ _ (.inl zb) ?_);exact z01 2
  ·rintro vs w1 ⟨hC,e0,e1,_⟩ K hK;refine z0v rfl rfl rfl (by kernel_rfl) (show [vs 0,vs 1]=_ from by rw[rg1 e0,rg1 e1]) (zm (HA.out _ hC) ?_);rintro e w2 ⟨rfl,hb⟩;refine⟨_,rfl,hK _ _ (.inl hb) ?_⟩;exact z01 3
  ·rintro vs w1 ⟨hC,_⟩ K hK;refine z1b rfl rfl rfl ((HQ.out.below hC).u4 (x:=a) (by simp)) (hK _ _ (.inl zb) ?_);exact z01 4
  ·rintro vs w1 ⟨_,_,_,e2,e3,_⟩ K hK;refine z0v rfl rfl rfl (by kernel_rfl) (show [vs 2,vs 3]=_ from by rw[rg1 e2,rg1 e3]) (zm (HL.out _) ?_);rintro e w2 ⟨rfl,hb⟩;refine⟨_,rfl,hK _ _ (.inl hb) ?_⟩;exact z01 5
  ·rintro vs w1 ⟨_,_,_,_,_,e4,_⟩ K hK;refine z08 rfl (.inl rfl) (rg1 e4) (hK _ _ (.inl zb) ?_);exact z01 6
  ·rintro vs w1 ⟨_,_,_,_,_,_,e5,_⟩ K hK;refine z18 rfl rfl (rg1 e5) rfl (hK _ _ (.inl zb) ?_);exact z01 7
  ·rintro vs w1 ⟨_,_,_,_,_,_,e5,_⟩ K hK;refine z18 rfl rfl (rg1 e5) rfl (hK _ _ (.inl zb) ?_);exact z01 8
  ·rintro vs w1 ⟨hC,_⟩ K hK;refine z5m rfl rfl (hK _ _ (.inl (z04 zb _)) ?_);iterate 9 refine z0k rfl ?_
   refine z0r rfl (fun _=>⟨_,_,rfl,hC.size,heap_alloc_new _ _⟩) ?_;iterate 2 refine z0k rfl ?_
   exact trivial
  ·rintro vs w1 ⟨hC,_,_,_,_,_,_,e6,⟨_,_,e8,h8,g8⟩,_⟩ K hK;refine z2k rfl rfl (rg1 e8) (rg1 e6) g8 (hK _ _ (.inr ?_) ?_)
   ·refine z0l rfl (fun hC _=>bput hC h8) ?_;iterate 8 refine z0l rfl (fun h _=>h) ?_
    refine z0l rfl (fun h _=>z7f h) ?_;iterate 2 refine z2l rfl ?_
    exact trivial
   ·iterate 11 refine z0k rfl ?_
    refine z0r rfl (fun _=>⟨_,_,by show [vs 8,undef]=_;rw[rg1 e8],setRow_heap _ _ _ _ _ _ g8⟩) ?_;exact trivial
  ·rintro vs w1 ⟨_,_,_,_,_,_,_,_,e7,_,_,_⟩ K hK;refine z08 rfl (.inr rfl) (rg1 e7) (hK _ _ (.inl zb) ?_);exact z01 10
 ·intro vs w1 hA;obtain⟨hC,e0,e1,e2,e3,e4,e5,e6,e7,⟨p8,_,e8,h8,g8⟩,e10,s9,_⟩:=hA;have e0:=rg1 e0;have e1:=rg1 e1;have e2:=rg1 e2;have e3:=rg1 e3;have e4:=rg1 e4;have e5:=rg1 e5;have e6:=rg1 e6;have e7:=rg1 e7;have e8:=rg1 e8;have e10:=rg1 e10;have s9:=zeb s9 e8;simp only[e0,e1,e2,e3,e4,e5,e6,e7,e8,e10];have hq2:=HQ.out.add1 hC h8 s9;have HD0:=zh (hq2.done);have HQ2:=zh hq2;obtain⟨u0,u1,u2,u3,_⟩:=row4 (hq2.u4 (g:=p8) (x:=u) (by simp));clear e0 e1 e2 e3 e4 e5 e6 e7 e8 e10 g8 s9 h8 hC HL HA HAk HB0 HQ hq2;cases er with
  | false =>
   obtain⟨he,hx⟩:=HE.out.1 (by trivial);subst he hx;clear HE HS HAm HQ2;go_wp2_with fail;go_ret;exact⟨rfl,HD0.out⟩
  | true =>
   clear HD0;go_wp2_with fail;refine zm (HAm.out _ _ HQ2.out) ?_;rintro e w4 ⟨rfl,hq4⟩;have HD0:=zh hq4.done
   have HQ4:=zh hq4;clear u0 u1 u2 u3;obtain⟨u0,u1,u2,u3,_⟩:=row4 (hq4.u4 (g:=p8) (x:=u) (by simp));clear hq4 HAm HQ2;cases am with
   | false =>
    obtain⟨he,hx⟩:=HE.out.2.1 (by trivial);subst he hx;clear HE HS HQ4;go_wp2_with fail;go_ret;exact⟨rfl,HD0.out⟩
   | true =>
    obtain⟨he,hx⟩:=HE.out.2.2 (by trivial) (by trivial);subst he hx;have HS1:=zh (HS.out _ _ HQ4.out);clear HE HS HQ4 HD0;go_wp2_with fail;refine zm HS1.out ?_;rintro e w5 ⟨rfl,hq5⟩;have HD:=zh hq5.done
    clear hq5 HS1;go_wp2_with fail;go_ret;exact⟨rfl,HD.out⟩
end Go.Proofs.YtnkilceibkkjlaaGreat
namespace Go.Proofs.YtnkilceibkkjlaaGreat
open Go.RowKit
theorem z4y{s:St}(hs:Sorted s.ents)(k v j:ByteArray):getE (s.put k v).ents j=if k=j then(if v=z0d then none else if k=z0d then getE s.ents j else some v)else getE s.ents j:=by
 unfold St.put
 by_cases hv:v=z0d
 ·rw[if_pos hv,if_pos hv];unfold St.del;split
  ·exact z9k _ hs _ _
  ·rename_i h
   by_cases hj:k=j
   ·subst hj;rw[if_pos rfl];cases hg:getE s.ents k with
    | none=>rfl
    | some u=>rw[hg]at h;exact absurd rfl h
   ·rw[if_neg hj]
 ·rw[if_neg hv,if_neg hv]
  by_cases hk:k=z0d
  ·rw[if_pos hk,if_pos hk];split<;>rfl
  ·rw[if_neg hk,if_neg hk];unfold St.set;split
   ·rename_i h
    by_cases hj:k=j
    ·subst hj;rw[if_pos rfl];exact h
    ·rw[if_neg hj]
   ·exact z9f _ hs _ _ _
theorem put_comm{s:St}(hs:Sorted s.ents){k1 k2:ByteArray}(hk:k1≠k2)(u v:ByteArray):((s.put k1 u).put k2 v).ents=((s.put k2 v).put k1 u).ents:=by
 refine z6j (z6o (z6o hs _ _) _ _) (z6o (z6o hs _ _) _ _) fun j => ?_
 rw[z4y (z6o hs _ _),z4y (z6o hs _ _),z4y hs,z4y hs]
 by_cases h1:k1=j
 ·subst h1;rw[if_neg (Ne.symm hk),if_neg (Ne.symm hk)]
 ·rw[if_neg h1,if_neg h1]
theorem z4n{s m:St}(h:s.ents=m.ents)(k v:ByteArray):(s.put k v).ents=(m.put k v).ents:=by
 unfold St.put St.del St.set;rw[h];split
 ·split
  ·rfl
  ·exact h
 ·split
  ·exact h
  ·split
   ·exact h
   ·rfl
theorem z5q{s m:St}(h:s.ents=m.ents)(k:ByteArray):s.amt k=m.amt k:=by
 unfold St.amt St.val;rw[h]
theorem z3h{s m:St}(h:s.ents=m.ents)(k:ByteArray)(x:W4):(s.z15 k x).ents=(m.z15 k x).ents:=z4n h _ _
theorem Hand.zs3{h:Hand}(hon:h.on=true)(s s':St):h.st s s'=s':=by unfold Hand.st;rw[if_pos hon]
theorem zgg{h:Hand}(hon:h.on=true){s m:St}(he:s.ents=m.ents)(k:ByteArray)(y:W4):(h.z5s s k y).ents=(H1.z5s m k y).ents:=by
 unfold Hand.z5s;rw[z5q he k];split
 ·rw[Hand.zs3 hon,Hand.zs3 rfl];exact z3h he _ _
 ·exact he
theorem zhh{h:Hand}(hon:h.on=true){s m:St}(he:s.ents=m.ents)(k:ByteArray)(y:W4):(h.z4p s k y).ents=(H1.z4p m k y).ents:=by
 unfold Hand.z4p;rw[z5q he k];split
 ·rw[Hand.zs3 hon,Hand.zs3 rfl];exact z3h he _ _
 ·exact he
theorem zen{t:Nat}{l:List Int}(h:∀ n∈l,¬ n<0):(keyL t l).data[0]?=some (UInt8.ofNat t):=by
 rw[z6m h];show(keyBytes t l).toArray[0]?=_
 unfold keyBytes;simp
theorem znt(x:W4)(i:Nat):(z8x x i).toNat=x.at ((31-i)/8)/2 ^ (8*((31-i)%8))%256:=rfl
theorem zt3(v p:Nat)(hp:p<8):v/2 ^ (8*(p+1))*2 ^ (8*(p+1))+v/2 ^ (8*p)%256*2 ^ (8*p)=v/2 ^ (8*p)*2 ^ (8*p):=by
 match p,hp with
 | 0,_ | 1,_ | 2,_ | 3,_ | 4,_ | 5,_ | 6,_ | 7,_=>simp only[Nat.reduceMul,Nat.reduceAdd,Nat.reducePow];omega
theorem zkm(f:Nat->Nat)(x:W4)(hx:x.Ok) (hf:∀ i,i<32->f i=x.at ((31-i)/8)/2 ^ (8*((31-i)%8))%256):∀ i,i<=32->∀ j,j<4->(z1s f i).at j=x.at j/2 ^ (8*min 8 (32-i-8*j))*2 ^ (8*min 8 (32-i-8*j))
 | 0,_,j,hj=>by
  have h8:min 8 (32-0-8*j)=8:=by omega
  rw[h8]
  have h0:x.at j/2 ^ (8*8)=0:=Nat.div_eq_of_lt (hx.at j)
  rw[h0,Nat.zero_mul]
  match j,hj with
  | 0,_ | 1,_ | 2,_ | 3,_=>rfl
 | i+1,hi,j,hj=>by
  have ih:=zkm f x hx hf i (by omega)
  have hk:(31-i)/8<4:=by omega
  show((z1s f i).set ((31-i)/8) ((z1s f i).at ((31-i)/8)+f i*2 ^ (8*((31-i)%8)))).at j=_
  rw[z7n _ _ _ _ hk hj]
  by_cases e:(31-i)/8=j
  ·rw[if_pos e,ih _ hk,hf i (by omega),e]
   have e1:min 8 (32-i-8*j)=(31-i)%8+1:=by omega
   have e2:min 8 (32-(i+1)-8*j)=(31-i)%8:=by omega
   rw[e1,e2]
   exact zt3 _ _ (Nat.mod_lt _ (by decide))
  ·rw[if_neg e,ih j hj]
   have e1:min 8 (32-i-8*j)=min 8 (32-(i+1)-8*j):=by omega
   rw[e1]
theorem zp3(x:W4):(amtB x).size=32:=by
 show(amtL x).toArray.size=32
 simp[amtL]
theorem zwy(x:W4)(i:Nat)(hi:i<32):(amtB x).data.getD i 0=z8x x i:=by
 show(amtL x).toArray.getD i 0=_
 have:(amtL x).toArray[i]?=some (z8x x i):=by
  unfold amtL;rw[List.getElem?_toArray,List.getElem?_map,List.getElem?_range hi];rfl
 rw[Array.getD_eq_getD_getElem?,this];rfl
theorem zmd{x:W4}(hx:x.Ok):z3a (amtB x)=x:=by
 unfold z3a;rw[if_pos (zp3 x)];refine zr0 fun j hj => ?_
 rw[zkm _ x hx (fun i hi=>by rw[zwy x i hi,znt]) 32 (Nat.le_refl _) j hj];have:min 8 (32-32-8*j)=0:=by omega
 rw[this,Nat.mul_zero,Nat.pow_zero,Nat.div_one,Nat.mul_one]
def scW(a t f:W4):W4:=if uN f=0 then(0,0,0,0)else dnW a t f
def scB(a t f:W4):Bool:=if uN f=0 then decide (uN a=0)else dnB a t f
theorem zls(a t f:W4)(ha:a.Ok)(ht:t.Ok)(hf:f.Ok)(p q r:Nat)(w:World)(hp:w.heap[p]?=some (.cells (uL a) 24 (0,0)))(hq:w.heap[q]?=some (.cells (uL t) 24 (0,0)))(hr:w.heap[r]?=some (.cells (uL f) 24 (0,0))) :
  Calls Tryz.prog 129 #[.pointer (some ⟨p,0,none⟩),.pointer (some ⟨q,0,none⟩),.pointer (some ⟨r,0,none⟩)] w fun e w'=>e= .returned (.tuple #[uV (dnW a t f),.bool (dnB a t f)])/\Below w.heap.size w w':=by
 have HU:Hid (∀ W,Below w.heap.size w W/\W.heap[w.heap.size]?=some (.cells (uL (0,0,0,0)) 24 (0,0))->Calls Tryz.prog 111 #[uV a,uV t,uV f] W fun e w'=>e= .returned (.tuple #[uV (dnW a t f),.bool (dnB a t f)])/\Below w.heap.size w w'/\w'.heap[w.heap.size]?=some (.cells (uL (0,0,0,0)) 24 (0,0))):=fun W hW =>
  (zib a t f ha ht hf W).mono fun e w' ⟨he,hb⟩=>⟨he,z0a hW.1 hb,(hb.block _ (z05 hW.2)).trans hW.2⟩
 have H0:Hid (Below w.heap.size w (w.alloc (.cells #[.int .u64 0,.int .u64 0,.int .u64 0,.int .u64 0] 24))/\(w.alloc (.cells #[.int .u64 0,.int .u64 0,.int .u64 0,.int .u64 0] 24)).heap[w.heap.size]?=some (.cells (uL (0,0,0,0)) 24 (0,0))):=⟨z04 zb _,heap_alloc_new _ _⟩;obtain⟨a0,a1,a2,a3,_⟩:=row4 ((H0.out.1.block _ (z05 hp)).trans hp);obtain⟨b0,b1,b2,b3,_⟩:=row4 ((H0.out.1.block _ (z05 hq)).trans hq);obtain⟨c0,c1,c2,c3,_⟩:=row4 ((H0.out.1.block _ (z05 hr)).trans hr);clear hp hq hr;obtain⟨u,hu⟩:∃ u,u=dnW a t f:=⟨_,rfl⟩;obtain⟨v,hv⟩:∃ v,v=dnB a t f:=⟨_,rfl⟩;rw[<- hu,<- hv]at HU ⊢;clear hu hv;go_enter Tryz.func129,Tryz.ntmps129;go_wp2_with fail;refine zm (HU.out _ H0.out) ?_;rintro e w3 ⟨rfl,hb3,hz⟩;obtain⟨z0,z1,z2,z3,z4,z5,z6,z7⟩:=row4 hz;have HZ:=zh (put4 hz u);have HB:=zh (z09 (n:=w.heap.size) hb3 (Nat.le_refl _) (.int .u64 u.1) (.int .u64 u.2.1) (.int .u64 u.2.2.1) (.int .u64 u.2.2.2));clear hz hb3 HU H0;go_wp2_with fail;refine bodyPost_ret (z00 rfl _ _ (w.heap.size) 24 (uL u) (0,0) _ rfl HZ.out Tryz.underlying24 rfl (by kernel_rfl)) rfl ?_;exact⟨rfl,HB.out⟩
theorem znh(a t f:W4)(ha:a.Ok)(ht:t.Ok)(hf:f.Ok)(w:World):Calls Tryz.prog 59 #[uV a,uV t,uV f] w fun e w'=>e= .returned (.tuple #[uV (scW a t f),.bool (scB a t f)])/\Below w.heap.size w w':=by
 have HV:=VAt.start w [a,t,f,(0,0,0,0)];have HV0:=VAt.vr (l:=[a,t,f]) HV;have he:scW a t f=(if f=(0,0,0,0)then(0,0,0,0)else dnW a t f)/\scB a t f=(if f=(0,0,0,0)then decide (a=(0,0,0,0))else dnB a t f):=by
  unfold scW scB;simp only[zc1,and_self]
 have HS:Hid (∀ W,VR w [a,t,f] 3 W->Calls Tryz.prog 128 #[uV a,uV f,.func (.func 129) #[] #[.pointer (some ⟨w.heap.size,0,none⟩),.pointer (some ⟨w.heap.size+1,0,none⟩),.pointer (some ⟨w.heap.size+1+1,0,none⟩)]] W fun e w'=>e= .returned (.tuple #[uV (scW a t f),.bool (scB a t f)])/\VR w [a,t,f] 3 w'):=fun W hW=>by
  rw[he.1,he.2];refine(zn1 a f _ _ (dnW a t f) (dnB a t f) W (by kernel_rfl) fun _ W' hb => ?_).mono fun e w' ⟨he,hb⟩=>⟨he,hW.below hb⟩
  have hW':=hW.below hb;exact zls a t f ha ht hf _ _ _ W' (hW'.r 0 a rfl) (hW'.r 1 t rfl) (hW'.r 2 f rfl)
 have HV1:=zh HV0;obtain⟨u,hu⟩:∃ u,u=scW a t f:=⟨_,rfl⟩;obtain⟨v,hv⟩:∃ v,v=scB a t f:=⟨_,rfl⟩;rw[<- hu,<- hv]at HS ⊢;clear hu hv he HV0 HV;go_enter Tryz.func59,Tryz.ntmps59;go_wp2_with fail;refine zm (HS.out _ HV1.out) ?_;rintro e w3 ⟨rfl,hV3⟩;obtain⟨z,z0,z1,z2,z3,z4,z5,z6,z7⟩:=hV3.zc;have HR:=zh (hV3.res u);clear hV3 HV1 HS;go_wp2_with fail;refine bodyPost_ret (z00 rfl _ _ (w.heap.size+3) 24 (uL u) (0,0) _ rfl HR.out.2 Tryz.underlying24 rfl (by kernel_rfl)) rfl ?_;exact⟨rfl,HR.out.1⟩
theorem zyo(a t f:W4):(scW a t f).Ok:=by
 unfold scW;split
 ·exact z6u
 ·unfold dnW;split
  ·exact z6u
  ·exact zhy _
def minW(a b:W4):W4:=if uN a<=uN b then a else b
theorem zrz(a b:W4)(ha:a.Ok)(hb:b.Ok)(w:World):Calls Tryz.prog 113 #[uV a,uV b] w fun e w'=>e= .returned (uV (minW a b))/\Below w.heap.size w w':=by
 have hB:=(((BV.start w).alloc (uO a)).alloc (uO b)).alloc zO;simp only[World.size_alloc]at hB;have HC:Hid (∀ rs W,BV w rs W->Calls Tryz.prog 58 #[uV a,uV b] W fun e w'=>e= .returned (.int .i64 (uCmp a b))/\BV w rs w'):=fun rs W h=>h.reads (z4e a b ha hb W)
 obtain⟨a0,a1,a2,a3,_⟩:=row4 (hB.u4 (g:=w.heap.size) (x:=a) (by simp));obtain⟨b0,b1,b2,b3,_⟩:=row4 (hB.u4 (g:=w.heap.size+1) (x:=b) (by simp));have hlaw:(uCmp a b<=0->minW a b=a)/\(0<uCmp a b->minW a b=b):=by
  unfold minW;rw[z6l];exact⟨fun h=>if_pos h,fun h=>if_neg (by rw[<- z6l];omega)⟩
 have HL:=zh hlaw;have HB:=zh hB;clear hB hlaw;generalize minW a b=mw at *
 generalize uCmp a b=cv at *
 go_enter Tryz.func113,Tryz.ntmps113;go_wp2_with fail;refine zm (HC.out _ _ HB.out) ?_;rintro e w3 ⟨rfl,hB3⟩;clear a0 a1 a2 a3 b0 b1 b2 b3 HB HC;obtain⟨a0,a1,a2,a3,_⟩:=row4 (hB3.u4 (g:=w.heap.size) (x:=a) (by simp));obtain⟨b0,b1,b2,b3,_⟩:=row4 (hB3.u4 (g:=w.heap.size+1) (x:=b) (by simp));have hz:=hB3.u4 (g:=w.heap.size+1+1) (x:=(0,0,0,0)) (by simp);obtain⟨z0,z1,z2,z3,z4,z5,z6,z7⟩:=row4 hz
 by_cases hc:cv<=0
 ·have h1:=HL.out.1 hc;subst h1;have HZ:=zh (put4 hz mw);have HBB:=zh (z09 (BV.bl hB3) (show w.heap.size<=w.heap.size+1+1 by omega) (.int .u64 mw.1) (.int .u64 mw.2.1) (.int .u64 mw.2.2.1) (.int .u64 mw.2.2.2));clear hz hB3 HL;go_wp2_with fail;refine bodyPost_ret (results_cell_row rfl _ _ (w.heap.size+1+1) 24 (uL mw) (0,0) _ rfl HZ.out Tryz.underlying24 rfl (by kernel_rfl)) rfl ?_;exact⟨rfl,HBB.out⟩
 ·have h1:=HL.out.2 (Int.not_le.1 hc);subst h1;have HZ:=zh (put4 hz mw);have HBB:=zh (z09 (BV.bl hB3) (show w.heap.size<=w.heap.size+1+1 by omega) (.int .u64 mw.1) (.int .u64 mw.2.1) (.int .u64 mw.2.2.1) (.int .u64 mw.2.2.2));clear hz hB3 HL;go_wp2_with fail;refine bodyPost_ret (results_cell_row rfl _ _ (w.heap.size+1+1) 24 (uL mw) (0,0) _ rfl HZ.out Tryz.underlying24 rfl (by kernel_rfl)) rfl ?_;exact⟨rfl,HBB.out⟩
structure Ex where
 st:Int
 op:Int
 sg:Int
 bl:Int
 wo:W4
 mx:W4
def Ex.L(x:Ex):Array Value:=#[.int .i64 x.st,.int .i64 x.op,.int .i64 x.sg,.int .i64 x.bl,.int .u64 x.wo.1,.int .u64 x.wo.2.1,.int .u64 x.wo.2.2.1,.int .u64 x.wo.2.2.2,.int .u64 x.mx.1,.int .u64 x.mx.2.1,.int .u64 x.mx.2.2.1,.int .u64 x.mx.2.2.2]
abbrev exO(x:Ex):Obj:=.cells x.L 26
structure Ex.Ok (x:Ex):Prop where
 st:I63 x.st
 op:I63 x.op
 sg:I63 x.sg
 bl:I63 x.bl
 wo:x.wo.Ok
 mx:x.mx.Ok
theorem rowE{w:World}{g:Nat}{x:Ex}(h:w.heap[g]?=some (exO x)):(w.cell? ⟨g,0,none⟩=some (.int .i64 x.st)/\w.cell? ⟨g,1,none⟩=some (.int .i64 x.op)/\w.cell? ⟨g,2,none⟩=some (.int .i64 x.sg)/\w.cell? ⟨g,3,none⟩=some (.int .i64 x.bl)) /\
  (w.cell? ⟨g,4,none⟩=some (.int .u64 x.wo.1)/\w.cell? ⟨g,5,none⟩=some (.int .u64 x.wo.2.1)/\w.cell? ⟨g,6,none⟩=some (.int .u64 x.wo.2.2.1)/\w.cell? ⟨g,7,none⟩=some (.int .u64 x.wo.2.2.2)) /\
  (w.cell? ⟨g,8,none⟩=some (.int .u64 x.mx.1)/\w.cell? ⟨g,9,none⟩=some (.int .u64 x.mx.2.1)/\w.cell? ⟨g,10,none⟩=some (.int .u64 x.mx.2.2.1)/\w.cell? ⟨g,11,none⟩=some (.int .u64 x.mx.2.2.2)):=by
 have hc:∀ o v,x.L[o]?=some v->w.cell? ⟨g,o,none⟩=some v:=fun o v hv=>by rw[cell_of_row _ _ _ _ _ _ h];exact hv
 exact⟨⟨hc 0 _ rfl,hc 1 _ rfl,hc 2 _ rfl,hc 3 _ rfl⟩,⟨hc 4 _ rfl,hc 5 _ rfl,hc 6 _ rfl,hc 7 _ rfl⟩,⟨hc 8 _ rfl,hc 9 _ rfl,hc 10 _ rfl,hc 11 _ rfl⟩⟩
def z5i(x:Ex)(m:W4):W4:=if x.op=0 then x.wo else if uN x.mx<uN m then(0,0,0,0)else scW x.wo m x.mx
theorem zk9{x:Ex}(h:x.wo.Ok)(m:W4):(z5i x m).Ok:=by
 unfold z5i;split
 ·exact h
 ·split
  ·exact z6u
  ·exact zyo _ _ _
theorem zfl(x:Ex)(m:W4)(hwo:x.wo.Ok)(hmx:x.mx.Ok)(hm:m.Ok)(w:World):Calls Tryz.prog 13 #[.agg x.L,uV m] w fun e w'=>e= .returned (uV (z5i x m))/\Below w.heap.size w w':=by
 have hB:=(((BV.start w).alloc (exO x)).alloc (uO m)).alloc zO;simp only[World.size_alloc]at hB;have HC:Hid (∀ rs W,BV w rs W->Calls Tryz.prog 58 #[uV m,uV x.mx] W fun e w'=>e= .returned (.int .i64 (uCmp m x.mx))/\BV w rs w'):=fun rs W h=>h.reads (z4e m x.mx hm hmx W)
 have HS:Hid (∀ rs W,BV w rs W->Calls Tryz.prog 59 #[uV x.wo,uV m,uV x.mx] W fun e w'=>e= .returned (.tuple #[uV (scW x.wo m x.mx),.bool (scB x.wo m x.mx)])/\BV w rs w'):=fun rs W h=>h.reads (znh x.wo m x.mx hwo hm hmx W)
 have hlaw:(x.op=0->z5i x m=x.wo)/\(x.op≠0->0<uCmp m x.mx->z5i x m=(0,0,0,0))/\(x.op≠0->uCmp m x.mx<=0->z5i x m=scW x.wo m x.mx):=by
  unfold z5i;rw[z9q,z6l];refine⟨fun h=>if_pos h,fun h h2=>by rw[if_neg h,if_pos h2],fun h h2=>by rw[if_neg h,if_neg (by omega)]⟩
 have HL:=zh hlaw;have HB:=zh hB;clear hlaw hwo hmx hm;generalize z5i x m=pw at *
 generalize uCmp m x.mx=cv at *
 generalize scW x.wo m x.mx=sw at *
 generalize scB x.wo m x.mx=sb at *
 obtain⟨xs,xo,xt,xb,W,M⟩:=x;dsimp only[exO,Ex.L]at HL HB HC HS ⊢;clear hB;go_enter Tryz.func13,Tryz.ntmps13;go_upto_region 1 with fail;generalize ((w.alloc (.cells #[.int .i64 xs,.int .i64 xo,.int .i64 xt,.int .i64 xb,.int .u64 W.1,.int .u64 W.2.1,.int .u64 W.2.2.1,.int .u64 W.2.2.2,.int .u64 M.1,.int .u64 M.2.1,.int .u64 M.2.2.1,.int .u64 M.2.2.2] 26)).alloc (.cells (uL m) 24)).alloc zO=w4 at *
 have hB:=HB.out;obtain⟨⟨k0,k1,k2,k3⟩,⟨p0,p1,p2,p3⟩,⟨q0,q1,q2,q3⟩⟩:=rowE (x:=⟨xs,xo,xt,xb,W,M⟩) (hB.row (g:=w.heap.size) (o:=(.cells #[.int .i64 xs,.int .i64 xo,.int .i64 xt,.int .i64 xb,.int .u64 W.1,.int .u64 W.2.1,.int .u64 W.2.2.1,.int .u64 W.2.2.2,.int .u64 M.1,.int .u64 M.2.1,.int .u64 M.2.2.1,.int .u64 M.2.2.2] 26)) (by simp));obtain⟨m0,m1,m2,m3,_⟩:=row4 (hB.u4 (g:=w.heap.size+1) (x:=m) (by simp));have hz:=hB.u4 (g:=w.heap.size+1+1) (x:=(0,0,0,0)) (by simp);obtain⟨z0,z1,z2,z3,z4,z5,z6,z7⟩:=row4 hz
 by_cases h0:xo=0
 ·have h1:=HL.out.1 h0;subst h1;clear HL HB HC HS;have HZ:=zh (put4 hz pw);have HBB:=zh (z09 (BV.bl hB) (show w.heap.size<=w.heap.size+1+1 by omega) (.int .u64 pw.1) (.int .u64 pw.2.1) (.int .u64 pw.2.2.1) (.int .u64 pw.2.2.2));clear hz hB;go_wp2_with fail;refine bodyPost_ret (results_cell_row rfl _ _ (w.heap.size+1+1) 24 (uL pw) (0,0) _ rfl HZ.out Tryz.underlying24 rfl (by kernel_rfl)) rfl ?_;exact⟨rfl,HBB.out⟩
 ·have HX0:=zh h0;clear hz hB;go_wp2_with fail;refine zm (HC.out _ _ HB.out) ?_;rintro e w5 ⟨rfl,hB⟩;clear k0 k1 k2 k3 p0 p1 p2 p3 q0 q1 q2 q3 m0 m1 m2 m3 z0 z1 z2 z3 z4 z5 z6 z7 HB HC;obtain⟨⟨k0,k1,k2,k3⟩,⟨p0,p1,p2,p3⟩,⟨q0,q1,q2,q3⟩⟩:=rowE (x:=⟨xs,xo,xt,xb,W,M⟩) (hB.row (g:=w.heap.size) (o:=(.cells #[.int .i64 xs,.int .i64 xo,.int .i64 xt,.int .i64 xb,.int .u64 W.1,.int .u64 W.2.1,.int .u64 W.2.2.1,.int .u64 W.2.2.2,.int .u64 M.1,.int .u64 M.2.1,.int .u64 M.2.2.1,.int .u64 M.2.2.2] 26)) (by simp));obtain⟨m0,m1,m2,m3,_⟩:=row4 (hB.u4 (g:=w.heap.size+1) (x:=m) (by simp));have hz:=hB.u4 (g:=w.heap.size+1+1) (x:=(0,0,0,0)) (by simp);obtain⟨z0,z1,z2,z3,z4,z5,z6,z7⟩:=row4 hz
  by_cases hc:0<cv
  ·have h1:=HL.out.2.1 HX0.out hc;subst h1;clear HL HS;have HZ:=zh (put4 hz (0,0,0,0));have HBB:=zh (z09 (BV.bl hB) (show w.heap.size<=w.heap.size+1+1 by omega) (.int .u64 ((0,0,0,0):W4).1) (.int .u64 ((0,0,0,0):W4).2.1) (.int .u64 ((0,0,0,0):W4).2.2.1) (.int .u64 ((0,0,0,0):W4).2.2.2));clear hz hB;go_wp2_with fail;refine bodyPost_ret (results_cell_row rfl _ _ (w.heap.size+1+1) 24 (uL (0,0,0,0)) (0,0) _ rfl HZ.out Tryz.underlying24 rfl (by kernel_rfl)) rfl ?_;exact⟨rfl,HBB.out⟩
  ·have h1:=HL.out.2.2 HX0.out (Int.not_lt.1 hc);subst h1;have HB:=zh hB;clear HL hz hB;go_wp2_with fail;refine zm (HS.out _ _ HB.out) ?_;rintro e w6 ⟨rfl,hB⟩;have hB7:=hB.alloc (uO pw);clear k0 k1 k2 k3 p0 p1 p2 p3 q0 q1 q2 q3 m0 m1 m2 m3 z0 z1 z2 z3 z4 z5 z6 z7 HB HS hB;go_upto_region 6 with fail;generalize w6.alloc (uO pw)=w7 at *
   generalize w6.heap.size=g1 at *
   obtain⟨a0,a1,a2,a3,_⟩:=row4 (hB7.u4 (g:=g1) (x:=pw) (by simp));have hz:=hB7.u4 (g:=w.heap.size+1+1) (x:=(0,0,0,0)) (by simp);obtain⟨z0,z1,z2,z3,z4,z5,z6,z7⟩:=row4 hz;have HZ:=zh (put4 hz pw);have HBB:=zh (z09 (BV.bl hB7) (show w.heap.size<=w.heap.size+1+1 by omega) (.int .u64 pw.1) (.int .u64 pw.2.1) (.int .u64 pw.2.2.1) (.int .u64 pw.2.2.2));clear hz hB7;go_wp2_with fail;refine bodyPost_ret (results_cell_row rfl _ _ (w.heap.size+1+1) 24 (uL pw) (0,0) _ rfl HZ.out Tryz.underlying24 rfl (by kernel_rfl)) rfl ?_;exact⟨rfl,HBB.out⟩
end Go.Proofs.YtnkilceibkkjlaaGreat
