/- What is proved here: the reference's withdrawals: Cut. Conditions: sizes. -/
import Derived.Test.YtnkilceibkkjlaaGreatGRExSl
set_option maxRecDepth 100000
set_option maxHeartbeats 16000000
namespace Go.Proofs.YtnkilceibkkjlaaGreat
open Go.RowKit
theorem zy6(a b:W4):minW a b=if 0<uCmp a b then b else a:=by
 unfold minW
 by_cases h:uN a<=uN b
 ·rw[if_pos h,if_neg (by rw[z9q];omega)]
 ·rw[if_neg h,if_pos (by rw[z9q];omega)]
theorem zx8(w:World)(sb:Nat)(s:St)(L:List Nat)(f:Nat)(o t b d:Int)(tq fr sl:W4)(ht:I63 t)(hto:tq.Ok)(hfr:fr.Ok)(hsl:sl.Ok)(hSL:∀ W L',RRep W sb s L'->Calls Tryz.prog 49 #[.pointer (some ⟨sb,0,none⟩),.int .i64 o,.int .i64 t,.int .i64 b,.int .i64 d] W fun e w'=>e= .returned (uV sl)/\Below W.heap.size W w')(hq:RRep w sb s L)(hf:s.Fit f)(hm:f<10000000000) :
  Calls Tryz.prog 122 #[.pointer (some ⟨sb,0,none⟩),.int .i64 o,.int .i64 t,.int .i64 b,.int .i64 d,uV tq,uV fr] w fun e w'=>e= .returned (.tuple #[uV (z98 s sl o t b d tq fr),.int .i64 (zb9 o b d tq fr)])/\ROn w sb L (H1.cutX s sl o t b d tq fr) w':=by
 have hB:=(((FV.start hq).alloc (uO tq)).alloc (uO fr)).alloc zO;simp only[World.size_alloc]at hB;have hmm:f<100000000000:=by omega
 have hdw:(dnW sl (gapW fr tq) sqW).Ok:=by
  unfold dnW;split
  ·exact z6u
  ·exact zhy _
 have hlf:(s.left t).Ok:=z9c _ _;have hcw:(z4r s sl t fr tq).Ok:=zra hdw hlf;have HCM:Hid (∀ rs W,FV sb w L s rs W->Calls Tryz.prog 10 #[uV tq,uV fr] W fun e w'=>e= .returned (.int .i64 (uCmp tq fr))/\FV sb w L s rs w'):=fun rs W hV=>hV.reads fun L' h1=>zhf _ _ hto hfr W
 have HGD:Hid (∀ rs W,FV sb w L s rs W->Calls Tryz.prog 130 #[uV fr] W fun e w'=>e= .returned (.bool (decide (uCmp fr oneW<=0)))/\FV sb w L s rs w'):=fun rs W hV=>hV.reads fun L' h1=>zab _ hfr W
 have HSB:Hid (∀ rs W,FV sb w L s rs W->Calls Tryz.prog 22 #[uV fr,uV tq] W fun e w'=>e= .returned (.tuple #[uV (gapW fr tq),.bool (z1y fr tq==0)])/\FV sb w L s rs w'):=fun rs W hV=>hV.reads fun L' h1=>zq6 _ _ hfr hto W
 have HSL:Hid (∀ rs W,FV sb w L s rs W->Calls Tryz.prog 49 #[.pointer (some ⟨sb,0,none⟩),.int .i64 o,.int .i64 t,.int .i64 b,.int .i64 d] W fun e w'=>e= .returned (uV sl)/\Below W.heap.size W w'):=fun rs W hV=>by
  obtain⟨L',h1,_⟩:=hV.on;exact hSL W L' h1
 have HSQ:Hid (∀ W,Calls Tryz.prog 191 #[] W fun e w'=>e= .returned (uV sqW)/\Below W.heap.size W w'):=zcl;have HDN:Hid (∀ W,Calls Tryz.prog 190 #[uV sl,uV (gapW fr tq),uV sqW] W fun e w'=>e= .returned (.tuple #[uV (dnW sl (gapW fr tq) sqW),.bool (dnB sl (gapW fr tq) sqW)])/\Below W.heap.size W w'):=zjo _ _ _ hsl (zjs _ _) zs4;have HLF:Hid (∀ rs W,FV sb w L s rs W->Calls Tryz.prog 50 #[.pointer (some ⟨sb,0,none⟩),.int .i64 t] W fun e w'=>e= .returned (uV (s.left t))/\FV sb w L s rs w'):=fun rs W hV=>hV.reads fun L' h1=>zke W sb s L' f t ht h1 hf hmm
 have HMN:Hid (∀ rs W,FV sb w L s rs W->Calls Tryz.prog 10 #[uV (dnW sl (gapW fr tq) sqW),uV (s.left t)] W fun e w'=>e= .returned (.int .i64 (uCmp (dnW sl (gapW fr tq) sqW) (s.left t)))/\FV sb w L s rs w'):=fun rs W hV=>hV.reads fun L' h1=>zhf _ _ hdw hlf W
 have HKY:Hid (∀ W,Calls Tryz.prog 125 #[.int .i64 19,.int .i64 t] W fun e w'=>e= .returned (.string (keyL 19 [t]))/\Below W.heap.size W w'):=z1r 19 (by decide) (by decide) t ht;have HCS:Hid (∀ rs W,FV sb w L s rs W->Calls Tryz.prog 188 #[.pointer (some ⟨sb,0,none⟩),.string (keyL 19 [t]),uV (z4r s sl t fr tq)] W fun e w'=>e= .returned (.int .i64 (z1e (s.amt (keyL 19 [t])) (z4r s sl t fr tq)))/\FV sb w L (H1.z4p s (keyL 19 [t]) (z4r s sl t fr tq)) rs w'):=fun rs W hV=>QV.call hV fun L' h1=>zqp W sb L' s f _ _ hcw h1 hf hm
 have hcC:(o<1\/0<uCmp tq fr\/¬ uCmp fr oneW<=0\/b<0\/d<0)↔zdt fr tq o b d=true:=by
  have h1:(z1y fr tq==0)=decide (¬ 0<uCmp tq fr):=by
   rw[(zjq hfr hto).2];unfold subB;exact decide_eq_decide.2 (by rw[z9q];omega)
  unfold zdt;rw[h1];simp only[Bool.or_eq_true,Bool.not_eq_true',decide_eq_false_iff_not,decide_eq_true_eq,Decidable.not_not];constructor
  ·rintro(h | h | h | h | h)
   ·exact .inr (.inl h)
   ·exact .inl h
   ·exact .inr (.inr (.inl h))
   ·exact .inr (.inr (.inr (.inl h)))
   ·exact .inr (.inr (.inr (.inr h)))
  ·rintro(h | h | h | h | h)
   ·exact .inr (.inl h)
   ·exact .inl h
   ·exact .inr (.inr (.inl h))
   ·exact .inr (.inr (.inr (.inl h)))
   ·exact .inr (.inr (.inr (.inr h)))
 have hcw2:z4r s sl t fr tq=if 0<uCmp (dnW sl (gapW fr tq) sqW) (s.left t)then s.left t else dnW sl (gapW fr tq) sqW:=zy6 _ _
 have hlaw:((o<1\/0<uCmp tq fr\/¬ uCmp fr oneW<=0\/b<0\/d<0)->z98 s sl o t b d tq fr=(0,0,0,0)/\zb9 o b d tq fr=2/\H1.cutX s sl o t b d tq fr=s)/\(¬ (o<1\/0<uCmp tq fr\/¬ uCmp fr oneW<=0\/b<0\/d<0)->z98 s sl o t b d tq fr=z4r s sl t fr tq/\zb9 o b d tq fr=0/\H1.cutX s sl o t b d tq fr=H1.z4p s (keyL 19 [t]) (z4r s sl t fr tq)):=by
  rw[hcC];unfold z98 zb9 Hand.cutX;exact⟨fun h=>by rw[if_pos h,if_pos h,if_pos h];exact⟨rfl,rfl,rfl⟩,fun h=>by rw[if_neg h,if_neg h,if_neg h];exact⟨rfl,rfl,rfl⟩⟩
 have HLAW:=zh hlaw;have HCW:=zh hcw2;have HB:=zh hB;clear hlaw hB hcC hcw2 hdw hlf hcw hmm hSL hq hf hm hto hfr hsl ht;generalize z98 s sl o t b d tq fr=rA at *
 generalize zb9 o b d tq fr=rE at *
 generalize H1.cutX s sl o t b d tq fr=rX at *
 generalize H1.z4p s (keyL 19 [t]) (z4r s sl t fr tq)=sC at *
 generalize z1e (s.amt (keyL 19 [t])) (z4r s sl t fr tq)=eS at *
 generalize z4r s sl t fr tq=cw at *
 generalize dnB sl (gapW fr tq) sqW=dB at *
 generalize uCmp (dnW sl (gapW fr tq) sqW) (s.left t)=c2 at *
 generalize dnW sl (gapW fr tq) sqW=dW at *
 generalize gapW fr tq=gp at *
 generalize (z1y fr tq==0)=sB at *
 generalize s.left t=lf at *
 generalize keyL 19 [t]=kk at *
 generalize sqW=sq at *
 generalize uCmp tq fr=c1 at *
 obtain⟨gd,hgd⟩:∃ gd:Bool,decide (uCmp fr oneW<=0)=gd:=⟨_,rfl⟩;have hgi:(uCmp fr oneW<=0)↔gd=true:=by rw[<- hgd];simp
 rw[hgd]at HGD;rw[hgi]at HLAW;clear hgi hgd;go_enter Tryz.func122,Tryz.ntmps122;go_upto_region 1 with fail;generalize hw1:((w.alloc (uO tq)).alloc (uO fr)).alloc zO=w1 at *
 clear hw1
 by_cases ho:o<1
 ·have ho2:(o<1)=True:=eq_true ho;obtain⟨rfl,rfl,rfl⟩:=HLAW.out.1 (by exact .inl ho);obtain⟨z0,z1,z2,z3,z4,z5,z6,z7⟩:=row4 (HB.out.u4 (g:=w.heap.size+1+1) (x:=(0,0,0,0)) (by simp));have HZ:=zh (HB.out.put4 (g:=w.heap.size+1+1) (y:=(0,0,0,0)) (0,0,0,0) (by simp) [] (fun _ hx=>by cases hx));clear HB HLAW HSB HSL HSQ HMN HLF HDN HCS HKY HCM HGD ho;go_wp2_with fail;refine bodyPost_ret (z00 rfl _ _ (w.heap.size+1+1) 24 (uL (0,0,0,0)) (0,0) _ rfl (HZ.out.row (by simp)) Tryz.underlying24 rfl (by kernel_rfl)) rfl ?_;exact⟨rfl,FV.done HZ.out⟩
 have ho2:(o<1)=False:=eq_false ho;obtain⟨m0,m1,m2,m3,_⟩:=row4 (HB.out.u4 (g:=w.heap.size) (x:=tq) (by simp));obtain⟨n0,n1,n2,n3,_⟩:=row4 (HB.out.u4 (g:=w.heap.size+1) (x:=fr) (by simp));have HC1:=zh (HCM.out _ _ HB.out);have HO:=zh ho;clear ho HB HCM;go_wp2_with fail;refine zm HC1.out ?_;rintro e w2 ⟨rfl,hB2⟩;have HB2:=zh hB2;clear hB2 HC1 m0 m1 m2 m3 n0 n1 n2 n3 ho2
 by_cases hc1:0<c1
 ·have hc2:(0<c1)=True:=eq_true hc1;obtain⟨rfl,rfl,rfl⟩:=HLAW.out.1 (by exact .inr (.inl hc1));obtain⟨z0,z1,z2,z3,z4,z5,z6,z7⟩:=row4 (HB2.out.u4 (g:=w.heap.size+1+1) (x:=(0,0,0,0)) (by simp));have HZ:=zh (HB2.out.put4 (g:=w.heap.size+1+1) (y:=(0,0,0,0)) (0,0,0,0) (by simp) [] (fun _ hx=>by cases hx));clear HB2 HLAW HSB HSL HSQ HMN HLF HDN HCS HKY HGD hc1 HO;go_wp2_with fail;refine bodyPost_ret (z00 rfl _ _ (w.heap.size+1+1) 24 (uL (0,0,0,0)) (0,0) _ rfl (HZ.out.row (by simp)) Tryz.underlying24 rfl (by kernel_rfl)) rfl ?_;exact⟨rfl,FV.done HZ.out⟩
 have hc2:(0<c1)=False:=eq_false hc1;obtain⟨n0,n1,n2,n3,_⟩:=row4 (HB2.out.u4 (g:=w.heap.size+1) (x:=fr) (by simp));have HG2:=zh (HGD.out _ _ HB2.out);have HC:=zh hc1;clear hc1 HB2 HGD;go_wp2_with fail;refine zm HG2.out ?_;rintro e w3 ⟨rfl,hB3⟩;have HB3:=zh hB3;clear hB3 HG2 n0 n1 n2 n3 hc2;cases gd with
 | false =>
  obtain⟨rfl,rfl,rfl⟩:=HLAW.out.1 (by exact .inr (.inr (.inl (by decide))));obtain⟨z0,z1,z2,z3,z4,z5,z6,z7⟩:=row4 (HB3.out.u4 (g:=w.heap.size+1+1) (x:=(0,0,0,0)) (by simp));have HZ:=zh (HB3.out.put4 (g:=w.heap.size+1+1) (y:=(0,0,0,0)) (0,0,0,0) (by simp) [] (fun _ hx=>by cases hx));clear HB3 HLAW HSB HSL HSQ HMN HLF HDN HCS HKY HO HC;go_wp2_with fail;refine bodyPost_ret (z00 rfl _ _ (w.heap.size+1+1) 24 (uL (0,0,0,0)) (0,0) _ rfl (HZ.out.row (by simp)) Tryz.underlying24 rfl (by kernel_rfl)) rfl ?_;exact⟨rfl,FV.done HZ.out⟩
 | true =>
  by_cases hb:b<0
  ·have hb2:(b<0)=True:=eq_true hb;obtain⟨rfl,rfl,rfl⟩:=HLAW.out.1 (by exact .inr (.inr (.inr (.inl hb))));obtain⟨z0,z1,z2,z3,z4,z5,z6,z7⟩:=row4 (HB3.out.u4 (g:=w.heap.size+1+1) (x:=(0,0,0,0)) (by simp));have HZ:=zh (HB3.out.put4 (g:=w.heap.size+1+1) (y:=(0,0,0,0)) (0,0,0,0) (by simp) [] (fun _ hx=>by cases hx));clear HB3 HLAW HSB HSL HSQ HMN HLF HDN HCS HKY HO HC hb;go_wp2_with fail;refine bodyPost_ret (z00 rfl _ _ (w.heap.size+1+1) 24 (uL (0,0,0,0)) (0,0) _ rfl (HZ.out.row (by simp)) Tryz.underlying24 rfl (by kernel_rfl)) rfl ?_;exact⟨rfl,FV.done HZ.out⟩
  have hb2:(b<0)=False:=eq_false hb;have HBb:=zh hb;clear hb
  by_cases hd:d<0
  ·have hd2:(d<0)=True:=eq_true hd;obtain⟨rfl,rfl,rfl⟩:=HLAW.out.1 (by exact .inr (.inr (.inr (.inr hd))));obtain⟨z0,z1,z2,z3,z4,z5,z6,z7⟩:=row4 (HB3.out.u4 (g:=w.heap.size+1+1) (x:=(0,0,0,0)) (by simp));have HZ:=zh (HB3.out.put4 (g:=w.heap.size+1+1) (y:=(0,0,0,0)) (0,0,0,0) (by simp) [] (fun _ hx=>by cases hx));clear HB3 HLAW HSB HSL HSQ HMN HLF HDN HCS HKY HO HC HBb hd;go_wp2_with fail;refine bodyPost_ret (z00 rfl _ _ (w.heap.size+1+1) 24 (uL (0,0,0,0)) (0,0) _ rfl (HZ.out.row (by simp)) Tryz.underlying24 rfl (by kernel_rfl)) rfl ?_;exact⟨rfl,FV.done HZ.out⟩
  have hd2:(d<0)=False:=eq_false hd
  obtain⟨rfl,rfl,rfl⟩:=HLAW.out.2 (by
   have h1:=HO.out;have h2:=HC.out;have h3:=HBb.out;rintro(h | h | h | h | h)
   ·omega
   ·omega
   ·exact h rfl
   ·omega
   ·omega)
  clear HLAW hd HBb HO HC;obtain⟨m0,m1,m2,m3,_⟩:=row4 (HB3.out.u4 (g:=w.heap.size) (x:=tq) (by simp));obtain⟨n0,n1,n2,n3,_⟩:=row4 (HB3.out.u4 (g:=w.heap.size+1) (x:=fr) (by simp));have HS3:=zh (HSB.out _ _ HB3.out);clear HB3 HSB;go_wp2_with fail;refine zm HS3.out ?_;rintro e w4 ⟨rfl,hB4⟩;have HB5:=zh (hB4.alloc (uO gp));clear hB4 HS3 m0 m1 m2 m3 n0 n1 n2 n3 hb2 hd2;go_upto_region 4 with fail;generalize hw5:w4.alloc (uO gp)=w5 at *
  generalize w4.heap.size=g3 at *
  clear hw5;have HB0:=zh (z0g (Below.refl w5.heap.size w5));refine z16 [[],[],[],[],[],[0,1,2,3,4],[],[0,1,2,3,4,5],[0,1,2,3,4,5,6,7],[0,1,2,3,4,5,6,7,8],[0,1,2,3,4,5,6,7,8,9],[0,1,2,3,4,5,6,7,8,9],[],[0,1,2,3,4,5,6,7,8,9,10,12],[0,1,2,3,4,5,6,7,8,9,10,11,12,13]]
   [rgC (Below w5.heap.size w5),rgV 0 (.pointer (some ⟨sb,0,none⟩)),rgV 1 (.int .i64 o),rgV 2 (.int .i64 t),rgV 3 (.int .i64 b),rgV 4 (.int .i64 d),rgV 5 (uV sl),rgV 6 (uV gp),rgV 7 (uV sq),rgV 8 (.tuple #[uV dW,.bool dB]),rgV 9 (.tuple #[uV dW,.bool dB]),rgV 10 (uV dW),rgV 11 (.bool dB),rgP 12 (w5.heap.size),rgV 14 (.bool dB),rgS 12 13 (dW)] _ (by kernel_rfl) (by kernel_rfl) (by kernel_rfl)
   (fun vs=>by simp only[z14,z1i,List.setIfInBounds_toArray,List.set_cons_zero,List.set_cons_succ];exact rfl)
   ⟨fun _ _ _ hb h=>z0a h hb,z02,z02,z02,z02,z02,z02,z02,z02,z02,z02,z02,z02,ze8,z02,zer,trivial⟩ ?_ ?_ ?_
  ·refine z0p rfl HB0.out ?_;iterate 15 refine z0u rfl ?_
   exact trivial
  ·refine⟨?_,?_,?_,?_,?_,?_,?_,?_,?_,?_,?_,?_,?_,?_,?_,trivial⟩
   ·intro vs w6 hA K hK;obtain⟨_,_⟩:=hA;refine z08 rfl (.inl rfl) rfl (hK _ _ (.inl zb) ?_);exact z01 1
   ·intro vs w6 hA K hK;obtain⟨_,_⟩:=hA;refine z08 rfl (.inl rfl) rfl (hK _ _ (.inl zb) ?_);exact z01 2
   ·intro vs w6 hA K hK;obtain⟨_,_⟩:=hA;refine z08 rfl (.inl rfl) rfl (hK _ _ (.inl zb) ?_);exact z01 3
   ·intro vs w6 hA K hK;obtain⟨_,_⟩:=hA;refine z08 rfl (.inl rfl) rfl (hK _ _ (.inl zb) ?_);exact z01 4
   ·intro vs w6 hA K hK;obtain⟨_,_⟩:=hA;refine z08 rfl (.inl rfl) rfl (hK _ _ (.inl zb) ?_);exact z01 5
   ·intro vs w6 hA K hK;obtain⟨hC,e0,e1,e2,e3,e4,_⟩:=hA;refine z0v rfl rfl rfl (by kernel_rfl) (show [vs 0,vs 1,vs 2,vs 3,vs 4]=_ from by rw[rg1 e0,rg1 e1,rg1 e2,rg1 e3,rg1 e4]) (zm (HSL.out _ _ (HB5.out.below hC)) ?_);rintro e w2 ⟨rfl,hb⟩;refine⟨_,rfl,hK _ _ (.inl hb) ?_⟩;exact z01 6
   ·intro vs w6 hA K hK;obtain⟨hC,_⟩:=hA;refine z1b rfl rfl rfl ((HB5.out.below hC).u4 (g:=g3) (x:=gp) (by simp)) (hK _ _ (.inl zb) ?_);exact z01 7
   ·intro vs w6 hA K hK;obtain⟨_,_,_,_,_,_,_,_⟩:=hA;refine z0v rfl rfl rfl (by kernel_rfl) rfl (zm (HSQ.out _) ?_);rintro e w2 ⟨rfl,hb⟩;refine⟨_,rfl,hK _ _ (.inl hb) ?_⟩;exact z01 8
   ·intro vs w6 hA K hK;obtain⟨_,_,_,_,_,_,e5,e6,e7,_⟩:=hA;refine z0v rfl rfl rfl (by kernel_rfl) (show [vs 5,vs 6,vs 7]=_ from by rw[rg1 e5,rg1 e6,rg1 e7]) (zm (HDN.out _) ?_);rintro e w2 ⟨rfl,hb⟩;refine⟨_,rfl,hK _ _ (.inl hb) ?_⟩;exact z01 9
   ·intro vs w6 hA K hK;obtain⟨_,_,_,_,_,_,_,_,_,e8,_⟩:=hA;refine z08 rfl (.inl rfl) (rg1 e8) (hK _ _ (.inl zb) ?_);exact z01 10
   ·intro vs w6 hA K hK;obtain⟨_,_,_,_,_,_,_,_,_,_,e9,_⟩:=hA;refine z18 rfl rfl (rg1 e9) rfl (hK _ _ (.inl zb) ?_);exact z01 11
   ·intro vs w6 hA K hK;obtain⟨_,_,_,_,_,_,_,_,_,_,e9,_⟩:=hA;refine z18 rfl rfl (rg1 e9) rfl (hK _ _ (.inl zb) ?_);exact z01 12
   ·intro vs w6 hA K hK;obtain⟨hC,_⟩:=hA;refine z5m rfl rfl (hK _ _ (.inl (z04 zb _)) ?_);iterate 13 refine z0k rfl ?_
    refine z0r rfl (fun _=>⟨_,_,rfl,hC.size,heap_alloc_new _ _⟩) ?_;iterate 2 refine z0k rfl ?_
    exact trivial
   ·intro vs w6 hA K hK;obtain⟨hC,_,_,_,_,_,_,_,_,_,_,e10,⟨_,_,e12,h12,g12⟩,_⟩:=hA;refine z2k rfl rfl (rg1 e12) (rg1 e10) g12 (hK _ _ (.inr ?_) ?_)
    ·refine z0l rfl (fun hC _=>bput hC h12) ?_;iterate 12 refine z0l rfl (fun h _=>h) ?_
     refine z0l rfl (fun h _=>z7f h) ?_;iterate 2 refine z2l rfl ?_
     exact trivial
    ·iterate 15 refine z0k rfl ?_
     refine z0r rfl (fun _=>⟨_,_,by show [vs 12,undef]=_;rw[rg1 e12],setRow_heap _ _ _ _ _ _ g12⟩) ?_;exact trivial
   ·intro vs w6 hA K hK;obtain⟨_,_,_,_,_,_,_,_,_,_,_,_,e11,_,_,_⟩:=hA;refine z08 rfl (.inr rfl) (rg1 e11) (hK _ _ (.inl zb) ?_);exact z01 14
  ·intro vs w6 hA;obtain⟨hC,e0,e1,e2,e3,e4,e5,e6,e7,e8,e9,e10,e11,⟨p12,_,e12,h12,g12⟩,e14,s13,_⟩:=hA;have e0:=rg1 e0;have e1:=rg1 e1;have e2:=rg1 e2;have e3:=rg1 e3;have e4:=rg1 e4;have e5:=rg1 e5;have e6:=rg1 e6;have e7:=rg1 e7;have e8:=rg1 e8;have e9:=rg1 e9;have e10:=rg1 e10;have e11:=rg1 e11;have e12:=rg1 e12;have e14:=rg1 e14;have s13:=zeb s13 e12;simp only[e0,e1,e2,e3,e4,e5,e6,e7,e8,e9,e10,e11,e12,e14];have HNE:Hid (w.heap.size+1+1≠p12):=by
    have h1:=z05 (HB5.out.row (g:=w.heap.size+1+1) (o:=zO) (by simp));exact Nat.ne_of_lt (Nat.lt_of_lt_of_le h1 h12)
   have HB6:=zh (HB5.out.add1 hC h12 s13);clear e0 e1 e2 e3 e4 e5 e6 e7 e8 e9 e10 e11 e14 g12 s13 h12 hC HSL HSQ HDN HB0 HB5;have HL6:=zh (HLF.out _ _ HB6.out);clear HLF HB6;go_wp2_with fail;refine zm HL6.out ?_;rintro e w7 ⟨rfl,hB7⟩;have HB8:=zh (hB7.alloc (uO lf));clear HL6 hB7;go_upto_region 6 with fail;generalize hw8:w7.alloc (uO lf)=w8 at *
   generalize w7.heap.size=g7 at *
   clear hw8;obtain⟨m0,m1,m2,m3,_⟩:=row4 (HB8.out.u4 (g:=p12) (x:=dW) (by simp));obtain⟨n0,n1,n2,n3,_⟩:=row4 (HB8.out.u4 (g:=g7) (x:=lf) (by simp));have HM8:=zh (HMN.out _ _ HB8.out);clear HB8 HMN;go_wp2_with fail;refine zm HM8.out ?_;rintro e w9 ⟨rfl,hB9⟩;have HB9:=zh hB9;clear hB9 HM8 m0 m1 m2 m3 n0 n1 n2 n3;have HKEY:Hid (∃ w10,(0<c2->w10=(((w9.setCell ⟨p12,0,none⟩ (.int .u64 lf.1)).setCell ⟨p12,1,none⟩ (.int .u64 lf.2.1)).setCell ⟨p12,2,none⟩ (.int .u64 lf.2.2.1)).setCell ⟨p12,3,none⟩ (.int .u64 lf.2.2.2))/\(¬ 0<c2->w10=w9)/\FV sb w L s [(p12,uO rA),(w.heap.size+1+1,zO)] w10):=by
    by_cases h:0<c2
    ·have hp:=HB9.out.put4 (g:=p12) (y:=dW) lf (by simp) [(w.heap.size+1+1,zO)] (fun x hx=>by
      rw[List.mem_singleton]at hx;subst hx
      exact⟨by simp,HNE.out⟩)
     refine⟨_,fun _=>rfl,fun h2=>absurd h h2,?_⟩;rw[HCW.out,if_pos h];exact hp
    ·refine⟨_,fun h2=>absurd h2 h,fun _=>rfl,?_⟩;rw[HCW.out,if_neg h]
     exact HB9.out.less (fun x hx=>by
      simp only[List.mem_cons,List.not_mem_nil,or_false]at hx ⊢;rcases hx with rfl | rfl
      ·exact .inr (.inl rfl)
      ·exact .inr (.inr (.inr (.inl rfl))))
   obtain⟨w10,hk1,hk2,hB10⟩:=HKEY.out;have HB10:=zh hB10;clear HKEY hB10
   by_cases h0:0<c2
   ·obtain rfl:=hk1 h0;have h02:(0<c2)=True:=eq_true h0;obtain⟨m0,m1,m2,m3,m4,m5,m6,m7⟩:=row4 (HB9.out.u4 (g:=p12) (x:=dW) (by simp));obtain⟨n0,n1,n2,n3,_⟩:=row4 (HB9.out.u4 (g:=g7) (x:=lf) (by simp));clear hk1 hk2 HCW h0 HB9;go_upto_region 8 with fail;generalize hw11:(((w9.setCell ⟨p12,0,none⟩ (.int .u64 lf.1)).setCell ⟨p12,1,none⟩ (.int .u64 lf.2.1)).setCell ⟨p12,2,none⟩ (.int .u64 lf.2.2.1)).setCell ⟨p12,3,none⟩ (.int .u64 lf.2.2.2)=w11 at *
    clear hw11 m0 m1 m2 m3 m4 m5 m6 m7 n0 n1 n2 n3 h02;have HB0:=zh (z0g (Below.refl w11.heap.size w11));refine z0c 4 [[],[],[1],[],[0,1,2,3]]
     [rgC (Below w11.heap.size w11),rgV 0 (.pointer (some ⟨sb,0,none⟩)),rgV 1 (.int .i64 t),rgV 2 (.string kk),rgV 3 (uV rA)] _ (by kernel_rfl) (by kernel_rfl) (by decide) (by kernel_rfl) (by kernel_rfl)
     (fun vs=>by simp only[z14,z1i,List.setIfInBounds_toArray,List.set_cons_zero,List.set_cons_succ];exact rfl)
     ⟨fun _ _ _ hb h=>z0a h hb,z02,z02,z02,z02,trivial⟩ ?_ ?_ ?_
    ·refine z0p rfl HB0.out ?_;iterate 4 refine z0u rfl ?_
     exact trivial
    ·refine⟨?_,?_,?_,?_,trivial⟩
     ·intro vs w12 hA K hK;obtain⟨_,_⟩:=hA;refine z08 rfl (.inl rfl) rfl (hK _ _ (.inl zb) ?_);exact z01 1
     ·intro vs w12 hA K hK;obtain⟨_,_⟩:=hA;refine z08 rfl (.inl rfl) rfl (hK _ _ (.inl zb) ?_);exact z01 2
     ·intro vs w12 hA K hK;obtain⟨_,e1,_⟩:=hA;refine z0v rfl rfl rfl (by kernel_rfl) (show [.int .i64 19,vs 1]=_ from by rw[rg1 e1]) (zm (HKY.out _) ?_);rintro e w2 ⟨rfl,hb⟩;refine⟨_,rfl,hK _ _ (.inl hb) ?_⟩;exact z01 3
     ·intro vs w12 hA K hK;obtain⟨hC,_⟩:=hA;refine z1b rfl rfl rfl ((HB10.out.below hC).u4 (g:=p12) (x:=rA) (by simp)) (hK _ _ (.inl zb) ?_);exact z01 4
    ·intro vs w12 hA;obtain⟨hC,e0,e1,e2,e3,_⟩:=hA;have e0:=rg1 e0;have e1:=rg1 e1;have e2:=rg1 e2;have e3:=rg1 e3;refine z0i ?_;refine z0v rfl rfl rfl (by kernel_rfl) (show [vs 0,vs 2,vs 3]=_ from by rw[e0,e2,e3]) (zm (HCS.out _ _ (HB10.out.below hC)) ?_);rintro e w13 ⟨rfl,hB13⟩;refine⟨_,rfl,?_⟩;refine z0x ?_;simp only[z1h,Nat.reduceEqDiff,↓reduceIte,e0,e1,e2,e3];clear e0 e1 e2 e3 hC HKY HCS HB0 HB10;obtain⟨z0,z1,z2,z3,z4,z5,z6,z7⟩:=row4 (hB13.u4 (g:=w.heap.size+1+1) (x:=(0,0,0,0)) (by simp));obtain⟨m0,m1,m2,m3,_⟩:=row4 (hB13.u4 (g:=p12) (x:=rA) (by simp));have HZ:=zh (hB13.put4 (g:=w.heap.size+1+1) (y:=(0,0,0,0)) rA (by simp) [] (fun _ hx=>by cases hx));clear hB13;go_wp2_with fail;refine bodyPost_ret (z00 rfl _ _ (w.heap.size+1+1) 24 (uL rA) (0,0) _ rfl (HZ.out.row (by simp)) Tryz.underlying24 rfl (by kernel_rfl)) rfl ?_;exact⟨rfl,FV.done HZ.out⟩
   ·obtain rfl:=hk2 h0;have h02:(0<c2)=False:=eq_false h0;clear hk1 hk2 HCW h0 HB9;go_upto_region 8 with fail;clear h02;generalize w10=w11 at *
    have HB0:=zh (z0g (Below.refl w11.heap.size w11));refine z0c 4 [[],[],[1],[],[0,1,2,3]]
     [rgC (Below w11.heap.size w11),rgV 0 (.pointer (some ⟨sb,0,none⟩)),rgV 1 (.int .i64 t),rgV 2 (.string kk),rgV 3 (uV rA)] _ (by kernel_rfl) (by kernel_rfl) (by decide) (by kernel_rfl) (by kernel_rfl)
     (fun vs=>by simp only[z14,z1i,List.setIfInBounds_toArray,List.set_cons_zero,List.set_cons_succ];exact rfl)
     ⟨fun _ _ _ hb h=>z0a h hb,z02,z02,z02,z02,trivial⟩ ?_ ?_ ?_
    ·refine z0p rfl HB0.out ?_;iterate 4 refine z0u rfl ?_
     exact trivial
    ·refine⟨?_,?_,?_,?_,trivial⟩
     ·intro vs w12 hA K hK;obtain⟨_,_⟩:=hA;refine z08 rfl (.inl rfl) rfl (hK _ _ (.inl zb) ?_);exact z01 1
     ·intro vs w12 hA K hK;obtain⟨_,_⟩:=hA;refine z08 rfl (.inl rfl) rfl (hK _ _ (.inl zb) ?_);exact z01 2
     ·intro vs w12 hA K hK;obtain⟨_,e1,_⟩:=hA;refine z0v rfl rfl rfl (by kernel_rfl) (show [.int .i64 19,vs 1]=_ from by rw[rg1 e1]) (zm (HKY.out _) ?_);rintro e w2 ⟨rfl,hb⟩;refine⟨_,rfl,hK _ _ (.inl hb) ?_⟩;exact z01 3
     ·intro vs w12 hA K hK;obtain⟨hC,_⟩:=hA;refine z1b rfl rfl rfl ((HB10.out.below hC).u4 (g:=p12) (x:=rA) (by simp)) (hK _ _ (.inl zb) ?_);exact z01 4
    ·intro vs w12 hA;obtain⟨hC,e0,e1,e2,e3,_⟩:=hA;have e0:=rg1 e0;have e1:=rg1 e1;have e2:=rg1 e2;have e3:=rg1 e3;refine z0i ?_;refine z0v rfl rfl rfl (by kernel_rfl) (show [vs 0,vs 2,vs 3]=_ from by rw[e0,e2,e3]) (zm (HCS.out _ _ (HB10.out.below hC)) ?_);rintro e w13 ⟨rfl,hB13⟩;refine⟨_,rfl,?_⟩;refine z0x ?_;simp only[z1h,Nat.reduceEqDiff,↓reduceIte,e0,e1,e2,e3];clear e0 e1 e2 e3 hC HKY HCS HB0 HB10;obtain⟨z0,z1,z2,z3,z4,z5,z6,z7⟩:=row4 (hB13.u4 (g:=w.heap.size+1+1) (x:=(0,0,0,0)) (by simp));obtain⟨m0,m1,m2,m3,_⟩:=row4 (hB13.u4 (g:=p12) (x:=rA) (by simp));have HZ:=zh (hB13.put4 (g:=w.heap.size+1+1) (y:=(0,0,0,0)) rA (by simp) [] (fun _ hx=>by cases hx));clear hB13;go_wp2_with fail;refine bodyPost_ret (z00 rfl _ _ (w.heap.size+1+1) 24 (uL rA) (0,0) _ rfl (HZ.out.row (by simp)) Tryz.underlying24 rfl (by kernel_rfl)) rfl ?_;exact⟨rfl,FV.done HZ.out⟩
end Go.Proofs.YtnkilceibkkjlaaGreat
