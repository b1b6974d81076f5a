/- What is proved here: the reference's Mature. Conditions:  -/
import Derived.Test.YtnkilceibkkjlaaGreatKRAlJ
set_option maxRecDepth 100000
set_option maxHeartbeats 16000000
namespace Go.Proofs.YtnkilceibkkjlaaGreat
open Go.RowKit
theorem zbc{x y:W4}(hx:x.Ok)(hy:y.Ok):z1b x y=subW x y:=by unfold z1b;exact(zau hx hy).1
theorem zqo(w:World)(b:Nat)(L:List Nat)(s:St)(f:Nat)(x:I4)(hx:x.Ok)(hpos:(pend s x).1≠0->∀ n∈x.l,0<=n)(hq:RRep w b s L)(hf:s.Fit f)(hm:f<100000000)(heb:(ends (mtA s x) 33 [x.1,x.2.1]).2<4611686018427387904) :
  Calls Tryz.prog 61 #[.pointer (some ⟨b,0,none⟩),idV x] w fun e w'=>e= .returned (.bool (!decide ((pend s x).1=0)))/\ROn w b L (mtSt s x) w':=by
 have hB:=(FV.start hq).alloc (riO x);have hcu:(cur s x).Ok:=z4z _;have hpo:=zda s x
 have hl2:IdOk [x.1,x.2.1]:=⟨by simp,fun n hn=>hx n (by
  simp only[List.mem_cons,List.not_mem_nil,or_false]at hn ⊢
  rcases hn with rfl | rfl<;>simp)⟩
 have hfA:(mtA s x).Fit (f+2):=hf.z09 _ _;have hf1:(mtS1 s x).Fit (f+6):=by
  unfold mtS1;split
  ·exact hf.mono (by omega)
  ·exact zgz hfA _ _
 have hf2:((mtS1 s x).z09 (aKey 29 x) (mtN s x)).Fit (f+8):=hf1.z09 _ _;have hf3:=zdf hf2 (aKey 30 x);have hz:s.size<1000000000000:=Nat.lt_of_le_of_lt hf.size (by omega);have hz1:(mtS1 s x).size<1000000000000:=Nat.lt_of_le_of_lt hf1.size (by omega);have hz2:((mtS1 s x).z09 (aKey 29 x) (mtN s x)).size<1000000000000:=Nat.lt_of_le_of_lt hf2.size (by omega);have hz3:(((mtS1 s x).z09 (aKey 29 x) (mtN s x)).del (aKey 30 x)).size<1000000000000:=Nat.lt_of_le_of_lt hf3.size (by omega);have HPD:Hid (∀ rs W,FV b w L s rs W->Calls Tryz.prog 32 #[.pointer (some ⟨b,0,none⟩),idV x] W fun e w'=>e= .returned (.tuple #[.int .i64 (pend s x).1,uV (pend s x).2.1,.int .i64 (pend s x).2.2])/\FV b w L s rs w'):=fun rs W hV=>hV.pend hf (by omega) x hx
 have HCU:Hid (∀ rs W,FV b w L s rs W->Calls Tryz.prog 28 #[.pointer (some ⟨b,0,none⟩),idV x] W fun e w'=>e= .returned (uV (cur s x))/\FV b w L s rs w'):=fun rs W hV=>hV.cur hf (by omega) x hx
 have HAD:Hid (∀ rs W,FV b w L s rs W->Calls Tryz.prog 21 #[uV (cur s x),uV (pend s x).2.1] W fun e w'=>e= .returned (.tuple #[uV (sumW (cur s x) (pend s x).2.1),.bool (sumB (cur s x) (pend s x).2.1)])/\FV b w L s rs w'):=fun rs W hV=>hV.reads fun L' h1=>zl6 _ _ hcu hpo W
 have HLS:Hid (∀ rs W,FV b w L s rs W->Calls Tryz.prog 22 #[uV (cur s x),uV (pend s x).2.1] W fun e w'=>e= .returned (.tuple #[uV (z1b (cur s x) (pend s x).2.1),.bool (subB (cur s x) (pend s x).2.1)])/\FV b w L s rs w'):=fun rs W hV=>by
  rw[zbc hcu hpo];exact hV.reads fun L' h1=>za5 _ _ hcu hpo W
 have HL2:Hid (∀ W,Calls Tryz.prog 22 #[uV (s.amt (aAll x)),uV (pend s x).2.1] W fun e w'=>e= .returned (.tuple #[uV (z1b (s.amt (aAll x)) (pend s x).2.1),.bool (subB (s.amt (aAll x)) (pend s x).2.1)])/\Below W.heap.size W w'):=fun W=>by
  rw[zbc (zb1 _ _) hpo];exact za5 _ _ (zb1 _ _) hpo W
 have HEN:Hid (∀ rs W,FV b w L s rs W->Calls Tryz.prog 29 #[.pointer (some ⟨b,0,none⟩),.int .i64 x.1,.int .i64 x.2.1] W fun e w'=>e= .returned (uV (s.amt (aAll x)))/\Below W.heap.size W w'):=fun rs W hV=>by
  obtain⟨L',h1,_⟩:=hV.on;exact z4d W b L' s f x.1 x.2.1 (hx _ (by simp)) (hx _ (by simp)) h1 hf (by omega)
 have HOF:Hid (∀ W,Calls Tryz.prog 93 #[.int .i64 x.1,.int .i64 x.2.1] W fun e w'=>e= .returned (.string (aAll x))/\Below W.heap.size W w'):=fun W=>z9b x.1 x.2.1 (hx _ (by simp)) (hx _ (by simp)) W
 have HSA:Hid (∀ rs W,FV b w L s rs W->Calls Tryz.prog 134 #[.pointer (some ⟨b,0,none⟩),.string (aAll x),uV (z1b (s.amt (aAll x)) (pend s x).2.1)] W fun e w'=>e= .returned (.tuple #[])/\FV b w L (mtA s x) rs w'):=fun rs W hV=>hV.cset hz (aAll x) _
 have HPO:Hid ((pend s x).1≠0->∀ rs W,FV b w L (mtA s x) rs W->Calls Tryz.prog 135 #[.pointer (some ⟨b,0,none⟩),.int .i64 33,.slice (some ⟨W.heap.size,0,none⟩) 2 2] (W.alloc (.cells #[.int .i64 x.1,.int .i64 x.2.1] 3)) fun e w'=>(∃ v ok,e= .returned (.tuple #[v,.bool ok]))/\FV b w L (z3o (mtA s x) 33 [x.1,x.2.1]) rs w'):=fun hp0 rs W hV=>by
  have hV2:=hV.alloc (.cells #[.int .i64 x.1,.int .i64 x.2.1] 3)
  have hl0:∀ n∈[x.1,x.2.1],0<=n:=fun n hn=>hpos hp0 n (by
   simp only[List.mem_cons,List.not_mem_nil,or_false]at hn ⊢
   rcases hn with rfl | rfl<;>simp)
  have hC:=FV.zmf hV2 (s':=z3o (mtA s x) 33 [x.1,x.2.1]) (f:=135) (args:=#[.pointer (some ⟨b,0,none⟩),.int .i64 33,.slice (some ⟨W.heap.size,0,none⟩) 2 2]) (E:=fun e=>∃ v ok,e= .returned (.tuple #[v,.bool ok])) fun L' h1 hn =>
   zvt _ b L' (mtA s x) (f+2) 33 (by decide) (by decide) (.slice (some ⟨W.heap.size,0,none⟩) 2 2) [x.1,x.2.1] (z2u _ _ _ _ (heap_alloc_new W _)) (fun k hk=>by
    have hk':W.heap.size=k:=by simpa [Value.ownBlock]using hk
    subst hk'
    exact hn _ (.cells #[.int .i64 x.1,.int .i64 x.2.1] 3) (by simp)) hl2 hl0 heb h1 hfA (by omega)
  exact hC.mono fun e w' ⟨he,hv⟩=>⟨he,QV.less hv fun _ hm=>List.mem_cons_of_mem _ hm⟩
 have HKQ:Hid (∀ t:Nat,1<=t->t<=255->∀ W,Calls Tryz.prog 92 #[.int .i64 t,idV x] W fun e w'=>e= .returned (.string (aKey t x))/\Below W.heap.size W w'):=fun t h1 h2 W=>z4b t h1 h2 x hx W
 have HK29:Hid (∀ W,Calls Tryz.prog 92 #[.int .i64 29,idV x] W fun e w'=>e= .returned (.string (aKey 29 x))/\Below W.heap.size W w'):=fun W=>HKQ.out 29 (by decide) (by decide) W
 have HK30:Hid (∀ S rs W,FV b w L S rs W->Calls Tryz.prog 92 #[.int .i64 30,idV x] W fun e w'=>e= .returned (.string (aKey 30 x))/\FV b w L S rs w'):=fun S rs W hV=>(HKQ.out 30 (by decide) (by decide) W).mono fun e w' ⟨he,hb⟩=>⟨he,hV.below hb⟩
 have HK31:Hid (∀ S rs W,FV b w L S rs W->Calls Tryz.prog 92 #[.int .i64 31,idV x] W fun e w'=>e= .returned (.string (aKey 31 x))/\FV b w L S rs w'):=fun S rs W hV=>(HKQ.out 31 (by decide) (by decide) W).mono fun e w' ⟨he,hb⟩=>⟨he,hV.below hb⟩
 have HS29:Hid (∀ rs W,FV b w L (mtS1 s x) rs W->Calls Tryz.prog 134 #[.pointer (some ⟨b,0,none⟩),.string (aKey 29 x),uV (mtN s x)] W fun e w'=>e= .returned (.tuple #[])/\FV b w L ((mtS1 s x).z09 (aKey 29 x) (mtN s x)) rs w'):=fun rs W hV=>hV.cset hz1 (aKey 29 x) (mtN s x)
 have HD30:Hid (∀ rs W,FV b w L ((mtS1 s x).z09 (aKey 29 x) (mtN s x)) rs W->Calls Tryz.prog 136 #[.pointer (some ⟨b,0,none⟩),.string (aKey 30 x)] W fun e w'=>(∃ d,e= .returned (.bool d))/\FV b w L (((mtS1 s x).z09 (aKey 29 x) (mtN s x)).del (aKey 30 x)) rs w'):=fun rs W hV=>hV.del hz2 _
 have HD31:Hid (∀ rs W,FV b w L (((mtS1 s x).z09 (aKey 29 x) (mtN s x)).del (aKey 30 x)) rs W->Calls Tryz.prog 136 #[.pointer (some ⟨b,0,none⟩),.string (aKey 31 x)] W fun e w'=>(∃ d,e= .returned (.bool d))/\FV b w L ((((mtS1 s x).z09 (aKey 29 x) (mtN s x)).del (aKey 30 x)).del (aKey 31 x)) rs w'):=fun rs W hV=>hV.del hz3 _
 have HLAW:Hid (((pend s x).1=0->mtSt s x=s)/\((pend s x).1≠0->mtSt s x=(((mtS1 s x).z09 (aKey 29 x) (mtN s x)).del (aKey 30 x)).del (aKey 31 x))/\((pend s x).1=1->mtS1 s x=s/\mtN s x=sumW (cur s x) (pend s x).2.1)/\((pend s x).1≠1->mtS1 s x=z3o (mtA s x) 33 [x.1,x.2.1]/\mtN s x=z1b (cur s x) (pend s x).2.1)):=by
  unfold mtSt mtS1 mtN;exact⟨fun h=>by rw[if_pos h],fun h=>by rw[if_neg h],fun h=>by rw[if_pos h,if_pos h];exact⟨rfl,rfl⟩,fun h=>by rw[if_neg h,if_neg h];exact⟨rfl,rfl⟩⟩
 have HB:=zh hB;clear hB hcu hpo hl2 hfA hf1 hf2 hf3 hz hz1 hz2 hz3 hq hf hx hm heb HKQ hpos;generalize mtSt s x=rS at *
 generalize (((mtS1 s x).z09 (aKey 29 x) (mtN s x)).del (aKey 30 x)).del (aKey 31 x)=S4 at *
 generalize ((mtS1 s x).z09 (aKey 29 x) (mtN s x)).del (aKey 30 x)=S3 at *
 generalize (mtS1 s x).z09 (aKey 29 x) (mtN s x)=S2 at *
 generalize mtS1 s x=S1 at *
 generalize mtN s x=nw at *
 generalize z3o (mtA s x) 33 [x.1,x.2.1]=sP at *
 generalize mtA s x=sA at *
 generalize sumW (cur s x) (pend s x).2.1=sm at *
 generalize sumB (cur s x) (pend s x).2.1=sb at *
 generalize z1b (cur s x) (pend s x).2.1=ll at *
 generalize subB (cur s x) (pend s x).2.1=lc at *
 generalize z1b (s.amt (aAll x)) (pend s x).2.1=le at *
 generalize subB (s.amt (aAll x)) (pend s x).2.1=lb at *
 generalize s.amt (aAll x)=eA at *
 generalize cur s x=cu at *
 generalize (pend s x).2.2=bb at *
 generalize (pend s x).2.1=pa at *
 generalize (pend s x).1=wy at *
 generalize aAll x=kA at *
 generalize aKey 29 x=k29 at *
 generalize aKey 30 x=k30 at *
 generalize aKey 31 x=k31 at *
 go_enter Tryz.func61,Tryz.ntmps61;go_upto_region 1 with fail;generalize w.alloc (riO x)=w1 at *
 obtain⟨g,hg⟩:∃ g,g=w.heap.size:=⟨_,rfl⟩;rw[<- hg]at HB ⊢;clear hg;obtain⟨i0,i1,i2,i3⟩:=z0g (x:=x) (HB.out.row (g:=g) (o:=riO x) (by simp));go_wp2_with fail;refine zm (HPD.out _ _ HB.out) ?_;rintro e w2 ⟨rfl,hB2⟩;have hB3:=hB2.alloc (uO pa);clear HPD HB hB2 i0 i1 i2 i3;go_upto_region 2 with fail;generalize w2.alloc (uO pa)=w3 at *
 generalize w2.heap.size=g6 at *
 have HB3:=zh hB3;clear hB3
 by_cases h0:wy=0
 ·subst h0;have hr:=HLAW.out.1 rfl;have HR:Hid (ROn w b L rS w3):=by rw[hr];exact FV.done HB3.out
  clear hr HLAW;go_wp2_with fail;go_ret;exact⟨rfl,HR.out⟩
 ·have hb0:((wy:Int)==0)=false:=by simpa using (by omega:¬ (wy:Int)=0)
  have hb0':(wy==0)=false:=by simpa using h0
  have HRS:=zh (HLAW.out.2.1 h0);have HPO2:=zh (HPO.out h0);have HDZ:Hid (decide (wy=0)=false):=decide_eq_false h0;obtain⟨i0,i1,i2,i3⟩:=z0g (x:=x) (HB3.out.row (g:=g) (o:=riO x) (by simp));clear h0 HPO;go_wp2_with fail;refine zm (HCU.out _ _ HB3.out) ?_;rintro e w4 ⟨rfl,hB4⟩;have HL8:=zh (And.intro (z02 (hB4.row (g:=g6) (o:=uO pa) (by simp))) (z02 (hB4.row (g:=g) (o:=riO x) (by simp))));have hB5:=hB4.alloc (uO cu);clear HCU HB3 hB4 i0 i1 i2 i3 hb0 hb0';go_upto_region 5 with fail;generalize w4.alloc (uO cu)=w5 at *
  generalize w4.heap.size=g8 at *
  have HB5:=zh hB5;clear hB5;obtain⟨c0,c1,c2,c3,_⟩:=row4 (HB5.out.row (g:=g8) (o:=uO cu) (by simp));obtain⟨v0,v1,v2,v3,_⟩:=row4 (HB5.out.row (g:=g6) (o:=uO pa) (by simp))
  by_cases h1:wy=1
  ·have hb1:((wy:Int)==1)=true:=by simp[h1]
   obtain⟨r1,r2⟩:=HLAW.out.2.2.1 h1;subst r1 r2;clear HLAW h1 HPO2 HSA HL2 HLS HEN HOF;go_wp2_with fail;refine zm (HAD.out _ _ HB5.out) ?_;rintro e w6 ⟨rfl,hB6⟩;clear c0 c1 c2 c3 v0 v1 v2 v3;obtain⟨c0,c1,c2,c3,cz⟩:=row4 (hB6.row (g:=g8) (o:=uO cu) (by simp))
   have hB7:=QV.put4 hB6 nw (y:=cu) (g:=g8) (by simp) [(g6,uO pa),(g,riO x)] (fun y hy=>by
    obtain⟨l1,l2⟩:=HL8.out;simp only[List.mem_cons,List.not_mem_nil,or_false]at hy;rcases hy with rfl | rfl
    ·exact⟨by simp,Nat.ne_of_lt l1⟩
    ·exact⟨by simp,Nat.ne_of_lt l2⟩)
   clear hB6 HB5 HAD;go_upto_region 11 with fail;generalize (((w6.setCell ⟨g8,0,none⟩ (.int .u64 nw.1)).setCell ⟨g8,1,none⟩ (.int .u64 nw.2.1)).setCell ⟨g8,2,none⟩ (.int .u64 nw.2.2.1)).setCell ⟨g8,3,none⟩ (.int .u64 nw.2.2.2)=w7 at *
   have HB7:=zh hB7;clear hB7 c0 c1 c2 c3 cz HL8 hb1;have HP9:Hid (FSq b w L S1 S2 [(g8,uO nw),(g6,uO pa),(g,riO x)] 0 w7.drew):=HB7.out.drew;clear HB7;refine z06 [[],[],[1],[],[0,2,3]]
    [.pointer (some ⟨b,0,none⟩),idV x,.string k29,uV nw,.tuple #[]]
    [4] (FSq b w L S1 S2 [(g8,uO nw),(g6,uO pa),(g,riO x)]) _ (by kernel_rfl) (by kernel_rfl) (by kernel_rfl)
    (fun vs=>by simp only[z14,z1a,List.setIfInBounds_toArray,List.set_cons_zero,List.set_cons_succ];exact rfl)
    (by simp only[List.getD_cons_zero,List.getD_cons_succ];exact rfl) HP9.out ?_ ?_
   ·exact⟨
    fun _ _ _ _ hP _=>z0a rfl (.inl rfl) rfl ⟨rfl,hP⟩,
    fun _ _ _ _ hP _=>z3g rfl rfl rfl (FSq.row (g:=g) (o:=riO x) hP (by simp)) ⟨rfl,hP⟩,
    fun _ _ w1 hA hP _=>z0m rfl rfl rfl (by kernel_rfl) (rgL2 rfl hA.1) ((HK29.out w1).mono fun _ _ hh=>And.intro hh.1 (FSq.below hP hh.2)) fun _ hP2=>⟨rfl,hP2⟩,
    fun _ _ _ _ hP _=>z0p rfl rfl rfl (FSq.row (g:=g8) (o:=uO nw) hP (by simp)) ⟨rfl,hP⟩,
    fun _ _ _ hA hP hq=>by cases hq 0 rfl;exact z0m rfl rfl rfl (by kernel_rfl) (rgL3 hA.1 hA.2.1 hA.2.2.1) (HS29.out _ _ hP) fun _ hP2=>⟨rfl,hP2⟩,
    trivial⟩
   ·intro W5 hW5;have hV5:FV b w L S2 [(g8,uO nw),(g6,uO pa),(g,riO x)] W5:=hW5;have HV5:=zh hV5;obtain⟨i0,i1,i2,i3⟩:=z0g (x:=x) (hV5.row (g:=g) (o:=riO x) (by simp));clear hW5 hV5 HP9 HK29 HS29;go_wp2_with fail;refine zm (HK30.out _ _ _ HV5.out) ?_;rintro e W6 ⟨rfl,hV6⟩;have HV6:=zh hV6;clear hV6 HV5 HK30 i0 i1 i2 i3;go_wp2_with fail;refine zm (HD30.out _ _ HV6.out) ?_;rintro e W7 ⟨⟨d7,rfl⟩,hV7⟩;have HV7:=zh hV7;obtain⟨i0,i1,i2,i3⟩:=z0g (x:=x) (hV7.row (g:=g) (o:=riO x) (by simp));clear hV7 HV6 HD30;go_wp2_with fail;refine zm (HK31.out _ _ _ HV7.out) ?_;rintro e W8 ⟨rfl,hV8⟩;have HV8:=zh hV8;clear hV8 HV7 HK31 i0 i1 i2 i3;go_wp2_with fail;refine zm (HD31.out _ _ HV8.out) ?_;rintro e W9 ⟨⟨d9,rfl⟩,hV9⟩;have HR:Hid (ROn w b L rS W9):=by rw[HRS.out];exact FV.done hV9
    clear hV9 HV8 HD31;go_wp2_with fail;go_ret;exact⟨by rw[HDZ.out];rfl,HR.out⟩
  ·have hb1:((wy:Int)==1)=false:=by simpa using (by omega:¬ (wy:Int)=1)
   have hb1':(wy==1)=false:=by simpa using h1
   obtain⟨r1,r2⟩:=HLAW.out.2.2.2 h1;subst r1 r2;clear HLAW h1 HAD;go_wp2_with fail;refine zm (HLS.out _ _ HB5.out) ?_;rintro e w6 ⟨rfl,hB6⟩;clear c0 c1 c2 c3 v0 v1 v2 v3;obtain⟨c0,c1,c2,c3,cz⟩:=row4 (hB6.row (g:=g8) (o:=uO cu) (by simp))
   have hB7:=QV.put4 hB6 nw (y:=cu) (g:=g8) (by simp) [(g6,uO pa),(g,riO x)] (fun y hy=>by
    obtain⟨l1,l2⟩:=HL8.out;simp only[List.mem_cons,List.not_mem_nil,or_false]at hy;rcases hy with rfl | rfl
    ·exact⟨by simp,Nat.ne_of_lt l1⟩
    ·exact⟨by simp,Nat.ne_of_lt l2⟩)
   clear hB6 HB5 HLS;go_upto_region 8 with fail;generalize (((w6.setCell ⟨g8,0,none⟩ (.int .u64 nw.1)).setCell ⟨g8,1,none⟩ (.int .u64 nw.2.1)).setCell ⟨g8,2,none⟩ (.int .u64 nw.2.2.1)).setCell ⟨g8,3,none⟩ (.int .u64 nw.2.2.2)=wA at *
   have HB:=zh hB7;clear hB7 c0 c1 c2 c3 cz HL8 hb1 hb1';have HB0:=zh (z0h (Below.refl wA.heap.size wA));refine z1g [[],[],[1],[],[3],[0,1,2,3,4],[],[0,1,2,3,4,5,6],[0,1,2,3,4,5,6,7],[0,1,2,3,4,5,6,7,8],[0,1,2,3,4,5,6,7,8],[],[0,1,2,3,4,5,6,7,8,9,11],[0,1,2,3,4,5,6,7,8,9,10,11,12]]
    [rgC (Below wA.heap.size wA),rgV 0 (.pointer (some ⟨b,0,none⟩)),rgV 1 (.pointer (some ⟨g,0,none⟩)),rgV 2 (.int .i64 x.1),rgV 3 (.pointer (some ⟨g,1,none⟩)),rgV 4 (.int .i64 x.2.1),rgV 5 (uV eA),rgV 6 (uV pa),rgV 7 (.tuple #[uV le,.bool lb]),rgV 8 (.tuple #[uV le,.bool lb]),rgV 9 (uV le),rgV 10 (.bool lb),rgP 11 (wA.heap.size),rgV 13 (.bool lb),rgS 11 12 (le)] _ (by kernel_rfl) (by kernel_rfl) (by kernel_rfl)
    (fun vs=>by simp only[z14,z1a,List.setIfInBounds_toArray,List.set_cons_zero,List.set_cons_succ];exact rfl)
    ⟨fun _ _ _ hb h=>z0b h hb,z0e,z0e,z0e,z0e,z0e,z0e,z0e,z0e,z0e,z0e,z0e,zay,z0e,zb4,trivial⟩ ?_ ?_ ?_
   ·refine z3k rfl HB0.out ?_;iterate 14 refine z4l rfl ?_
    exact trivial
   ·refine⟨?_,?_,?_,?_,?_,?_,?_,?_,?_,?_,?_,?_,?_,?_,trivial⟩
    ·intro vs w2 hA K hK;obtain⟨_,_⟩:=hA;refine z0a rfl (.inl rfl) rfl (hK _ _ (.inl zb) ?_);exact z07 1
    ·intro vs w2 hA K hK;obtain⟨_,_⟩:=hA;refine z8s rfl rfl rfl (hK _ _ (.inl zb) ?_);exact z07 2
    ·intro vs w2 hA K hK;obtain⟨hC,e1,_⟩:=hA;refine z0u rfl rfl (rg1 e1) (z0g ((HB.out.below hC).row (g:=g) (o:=riO x) (by simp))).1 (hK _ _ (.inl zb) ?_);exact z07 3
    ·intro vs w2 hA K hK;obtain⟨_,_⟩:=hA;refine z8n rfl rfl rfl (hK _ _ (.inl zb) ?_);exact z07 4
    ·intro vs w2 hA K hK;obtain⟨hC,e3,_⟩:=hA;refine z0u rfl rfl (rg1 e3) (z0g ((HB.out.below hC).row (g:=g) (o:=riO x) (by simp))).2.1 (hK _ _ (.inl zb) ?_);exact z07 5
    ·intro vs w2 hA K hK;obtain⟨hC,e0,_,e2,_,e4,_⟩:=hA;refine z4w rfl rfl rfl (by kernel_rfl) (show [vs 0,vs 2,vs 4]=_ from by rw[rg1 e0,rg1 e2,rg1 e4]) (zm (HEN.out _ _ (HB.out.below hC)) ?_);rintro e w2 ⟨rfl,hb⟩;refine⟨_,rfl,hK _ _ (.inl hb) ?_⟩;exact z07 6
    ·intro vs w2 hA K hK;obtain⟨hC,_⟩:=hA;refine z0p rfl rfl rfl ((HB.out.below hC).u4 (g:=g6) (x:=pa) (by simp)) (hK _ _ (.inl zb) ?_);exact z07 7
    ·intro vs w2 hA K hK;obtain⟨_,_,_,_,_,_,e5,e6,_⟩:=hA;refine z4w rfl rfl rfl (by kernel_rfl) (show [vs 5,vs 6]=_ from by rw[rg1 e5,rg1 e6]) (zm (HL2.out _) ?_);rintro e w2 ⟨rfl,hb⟩;refine⟨_,rfl,hK _ _ (.inl hb) ?_⟩;exact z07 8
    ·intro vs w2 hA K hK;obtain⟨_,_,_,_,_,_,_,_,e7,_⟩:=hA;refine z0a rfl (.inl rfl) (rg1 e7) (hK _ _ (.inl zb) ?_);exact z07 9
    ·intro vs w2 hA K hK;obtain⟨_,_,_,_,_,_,_,_,_,e8,_⟩:=hA;refine z0x rfl rfl (rg1 e8) rfl (hK _ _ (.inl zb) ?_);exact z07 10
    ·intro vs w2 hA K hK;obtain⟨_,_,_,_,_,_,_,_,_,e8,_⟩:=hA;refine z0x rfl rfl (rg1 e8) rfl (hK _ _ (.inl zb) ?_);exact z07 11
    ·intro vs w2 hA K hK;obtain⟨hC,_⟩:=hA;refine z4n rfl rfl (hK _ _ (.inl (z00 zb _)) ?_);iterate 12 refine z0v rfl ?_
     refine z18 rfl (fun _=>⟨_,_,rfl,hC.size,heap_alloc_new _ _⟩) ?_;iterate 2 refine z0v rfl ?_
     exact trivial
    ·intro vs w2 hA K hK;obtain⟨hC,_,_,_,_,_,_,_,_,_,e9,⟨_,_,e11,h11,g11⟩,_⟩:=hA;refine z2v rfl rfl (rg1 e11) (rg1 e9) g11 (hK _ _ (.inr ?_) ?_)
     ·refine z0k rfl (fun hC _=>bput hC h11) ?_;iterate 11 refine z0k rfl (fun h _=>h) ?_
      refine z0k rfl (fun h _=>z5y h) ?_;iterate 2 refine z2y rfl ?_
      exact trivial
     ·iterate 14 refine z0v rfl ?_
      refine z18 rfl (fun _=>⟨_,_,by show [vs 11,undef]=_;rw[rg1 e11],setRow_heap _ _ _ _ _ _ g11⟩) ?_;exact trivial
    ·intro vs w2 hA K hK;obtain⟨_,_,_,_,_,_,_,_,_,_,_,e10,_,_,_⟩:=hA;refine z0a rfl (.inr rfl) (rg1 e10) (hK _ _ (.inl zb) ?_);exact z07 13
   ·intro vs w2 hA;obtain⟨hC,e0,e1,e2,e3,e4,e5,e6,e7,e8,e9,e10,⟨p11,_,e11,h11,g11⟩,e13,s12,_⟩:=hA;have e0:=rg1 e0;have e1:=rg1 e1;have e2:=rg1 e2;have e3:=rg1 e3;have e4:=rg1 e4;have e5:=rg1 e5;have e6:=rg1 e6;have e7:=rg1 e7;have e8:=rg1 e8;have e9:=rg1 e9;have e10:=rg1 e10;have e11:=rg1 e11;have e13:=rg1 e13;have s12:=zb6 s12 e11;simp only[e0,e1,e2,e3,e4,e5,e6,e7,e8,e9,e10,e11,e13];have HB2:=zh (HB.out.add1 hC h11 s12);clear e0 e1 e2 e3 e4 e5 e6 e7 e8 e9 e10 e13 g11 s12 h11 hC HEN HL2 HB0 HB;go_upto_region 9 with fail;have HP0:Hid (FSq b w L s sA [(p11,uO le),(g8,uO nw),(g6,uO pa),(g,riO x)] 0 _):=HB2.out.drew;clear HB2;refine z06 [[],[],[1],[],[3],[2,4],[],[0,5,6]]
     [.pointer (some ⟨b,0,none⟩),.pointer (some ⟨g,0,none⟩),.int .i64 x.1,.pointer (some ⟨g,1,none⟩),.int .i64 x.2.1,.string kA,uV le,.tuple #[]]
     [7] (FSq b w L s sA [(p11,uO le),(g8,uO nw),(g6,uO pa),(g,riO x)]) _ (by kernel_rfl) (by kernel_rfl) (by kernel_rfl)
     (fun vs=>by simp only[z14,z1a,List.setIfInBounds_toArray,List.set_cons_zero,List.set_cons_succ];exact rfl)
     (by simp only[List.getD_cons_zero,List.getD_cons_succ];exact rfl) HP0.out ?_ ?_
    ·exact⟨
     fun _ _ _ _ hP _=>z0a rfl (.inl rfl) rfl ⟨rfl,hP⟩,
     fun _ _ _ _ hP _=>z8s rfl rfl rfl ⟨rfl,hP⟩,
     fun _ _ _ hA hP _=>z0u rfl rfl hA.1 (z0g (FSq.row (g:=g) (o:=riO x) hP (by simp))).1 ⟨rfl,hP⟩,
     fun _ _ _ _ hP _=>z8n rfl rfl rfl ⟨rfl,hP⟩,
     fun _ _ _ hA hP _=>z0u rfl rfl hA.1 (z0g (FSq.row (g:=g) (o:=riO x) hP (by simp))).2.1 ⟨rfl,hP⟩,
     fun _ _ w1 hA hP _=>z0m rfl rfl rfl (by kernel_rfl) (rgL2 hA.1 hA.2.1) ((HOF.out w1).mono fun _ _ hh=>And.intro hh.1 (FSq.below hP hh.2)) fun _ hP2=>⟨rfl,hP2⟩,
     fun _ _ _ _ hP _=>z0p rfl rfl rfl (FSq.row (g:=p11) (o:=uO le) hP (by simp)) ⟨rfl,hP⟩,
     fun _ _ _ hA hP hq=>by cases hq 0 rfl;exact z0m rfl rfl rfl (by kernel_rfl) (rgL3 hA.1 hA.2.1 hA.2.2.1) (HSA.out _ _ hP) fun _ hP2=>⟨rfl,hP2⟩,
     trivial⟩
    ·intro W4 hW4;have hV4:FV b w L sA [(p11,uO le),(g8,uO nw),(g6,uO pa),(g,riO x)] W4:=hW4;obtain⟨i0,i1,i2,i3⟩:=z0g (x:=x) (hV4.row (g:=g) (o:=riO x) (by simp));have HP4:=zh (HPO2.out _ _ hV4);clear hW4 hV4 HP0 HSA HOF HPO2;go_wp2_with fail;refine zm HP4.out ?_;rintro e w7 ⟨⟨v7,ok7,rfl⟩,hB7⟩;have HB7:=zh (hB7.less (qs:=[(g8,uO nw),(g6,uO pa),(g,riO x)]) (by simp));clear hB7 HP4 i0 i1 i2 i3;go_upto_region 11 with fail;have HP9:Hid (FSq b w L S1 S2 [(g8,uO nw),(g6,uO pa),(g,riO x)] 0 w7.drew):=HB7.out.drew;clear HB7;refine z06 [[],[],[1],[],[0,2,3]]
      [.pointer (some ⟨b,0,none⟩),idV x,.string k29,uV nw,.tuple #[]]
      [4] (FSq b w L S1 S2 [(g8,uO nw),(g6,uO pa),(g,riO x)]) _ (by kernel_rfl) (by kernel_rfl) (by kernel_rfl)
      (fun vs=>by simp only[z14,z1a,List.setIfInBounds_toArray,List.set_cons_zero,List.set_cons_succ];exact rfl)
      (by simp only[List.getD_cons_zero,List.getD_cons_succ];exact rfl) HP9.out ?_ ?_
     ·exact⟨
      fun _ _ _ _ hP _=>z0a rfl (.inl rfl) rfl ⟨rfl,hP⟩,
      fun _ _ _ _ hP _=>z3g rfl rfl rfl (FSq.row (g:=g) (o:=riO x) hP (by simp)) ⟨rfl,hP⟩,
      fun _ _ w1 hA hP _=>z0m rfl rfl rfl (by kernel_rfl) (rgL2 rfl hA.1) ((HK29.out w1).mono fun _ _ hh=>And.intro hh.1 (FSq.below hP hh.2)) fun _ hP2=>⟨rfl,hP2⟩,
      fun _ _ _ _ hP _=>z0p rfl rfl rfl (FSq.row (g:=g8) (o:=uO nw) hP (by simp)) ⟨rfl,hP⟩,
      fun _ _ _ hA hP hq=>by cases hq 0 rfl;exact z0m rfl rfl rfl (by kernel_rfl) (rgL3 hA.1 hA.2.1 hA.2.2.1) (HS29.out _ _ hP) fun _ hP2=>⟨rfl,hP2⟩,
      trivial⟩
     ·intro W5 hW5;have hV5:FV b w L S2 [(g8,uO nw),(g6,uO pa),(g,riO x)] W5:=hW5;have HV5:=zh hV5;obtain⟨i0,i1,i2,i3⟩:=z0g (x:=x) (hV5.row (g:=g) (o:=riO x) (by simp));clear hW5 hV5 HP9 HK29 HS29;go_wp2_with fail;refine zm (HK30.out _ _ _ HV5.out) ?_;rintro e W6 ⟨rfl,hV6⟩;have HV6:=zh hV6;clear hV6 HV5 HK30 i0 i1 i2 i3;go_wp2_with fail;refine zm (HD30.out _ _ HV6.out) ?_;rintro e W7 ⟨⟨d7,rfl⟩,hV7⟩;have HV7:=zh hV7;obtain⟨i0,i1,i2,i3⟩:=z0g (x:=x) (hV7.row (g:=g) (o:=riO x) (by simp));clear hV7 HV6 HD30;go_wp2_with fail;refine zm (HK31.out _ _ _ HV7.out) ?_;rintro e W8 ⟨rfl,hV8⟩;have HV8:=zh hV8;clear hV8 HV7 HK31 i0 i1 i2 i3;go_wp2_with fail;refine zm (HD31.out _ _ HV8.out) ?_;rintro e W9 ⟨⟨d9,rfl⟩,hV9⟩;have HR:Hid (ROn w b L rS W9):=by rw[HRS.out];exact FV.done hV9
      clear hV9 HV8 HD31;go_wp2_with fail;go_ret;exact⟨by rw[HDZ.out];rfl,HR.out⟩
theorem zz0(x y z:W4)(hx:x.Ok)(hy:y.Ok)(hz:z.Ok)(h0:uN z≠0)(w:World):Calls Tryz.prog 202 #[uV x,uV y,uV z] w fun e w'=>e= .returned (.tuple #[uV (upW x y z),.bool (upB x y z)])/\Below w.heap.size w w':=by
 unfold upW upB;rw[if_neg h0,decide_eq_true h0,Bool.true_and]
 by_cases hr:uN x*uN y%uN z=0
 ·have e:upN x y z=uN x*uN y/uN z:=by unfold upN;rw[if_pos hr];rfl
  rw[e];exact zt3 x y z hx hy hz h0 hr w
 ·have e:upN x y z=uN x*uN y/uN z+1:=by unfold upN;rw[if_neg hr]
  rw[e];exact zx9 x y z hx hy hz h0 hr w
theorem zd0(a f:W4)(ha:a.Ok)(hf:f.Ok)(w:World):Calls Tryz.prog 137 #[uV a,uV f] w fun e w'=>e= .returned (.tuple #[uV (puW a f),.bool (puB a f)])/\Below w.heap.size w w':=by
 have hB:=(((BV.start w).alloc (uO a)).alloc (uO f)).alloc zO;simp only[World.size_alloc]at hB;have HO:Hid (∀ W,Calls Tryz.prog 194 #[] W fun e w'=>e= .returned (uV oneW)/\Below W.heap.size W w'):=zk9;have HU:Hid (∀ W,Calls Tryz.prog 202 #[uV a,uV f,uV oneW] W fun e w'=>e= .returned (.tuple #[uV (puW a f),.bool (puB a f)])/\Below W.heap.size W w'):=fun W=>zz0 a f oneW ha hf ⟨by decide,by decide,by decide,by decide⟩ (by decide) W
 generalize puW a f=r at *
 generalize puB a f=rb at *
 have HB:=zh hB;clear hB;go_enter Tryz.func137,Tryz.ntmps137;go_upto_region 1 with fail;generalize ((w.alloc (uO a)).alloc (uO f)).alloc zO=w1 at *
 obtain⟨g,hg⟩:∃ g,g=w.heap.size:=⟨_,rfl⟩;have H0:Hid (PuPh w g a f r 0 w1.drew):=by rw[hg];exact HB.out.drew
 rw[<- hg];refine z06 [[],[],[],[0,1,2],[3],[3],[4],[5]]
  [uV a,uV f,uV oneW,.tuple #[uV r,.bool rb],uV r,.bool rb,undef,.bool rb]
  [6] (PuPh w g a f r) _ (by kernel_rfl) (by kernel_rfl) (by kernel_rfl)
  (fun vs=>by simp only[z14,z1a,List.setIfInBounds_toArray,List.set_cons_zero,List.set_cons_succ];exact rfl)
  (by simp only[List.getD_cons_zero,List.getD_cons_succ];exact rfl) H0.out ?_ ?_
 ·exact⟨
  fun _ _ _ _ hP _=>z0p rfl rfl rfl (PuPh.row hP).1 ⟨rfl,hP⟩,
  fun _ _ _ _ hP _=>z0p rfl rfl rfl (PuPh.row hP).2 ⟨rfl,hP⟩,
  fun _ _ w1 _ hP _=>z0m rfl rfl rfl (by kernel_rfl) rfl ((HO.out w1).mono fun _ _ hh=>And.intro hh.1 (PuPh.below hP hh.2)) fun _ hP2=>⟨rfl,hP2⟩,
  fun _ _ w1 hA hP _=>z0m rfl rfl rfl (by kernel_rfl) (rgL3 hA.1 hA.2.1 hA.2.2.1) ((HU.out w1).mono fun _ _ hh=>And.intro hh.1 (PuPh.below hP hh.2)) fun _ hP2=>⟨rfl,hP2⟩,
  fun _ _ _ hA hP _=>z0x rfl rfl hA.1 rfl ⟨rfl,hP⟩,
  fun _ _ _ hA hP _=>z0x rfl rfl hA.1 rfl ⟨rfl,hP⟩,
  fun _ _ _ hA hP hq=>by cases hq 0 rfl;exact z2v (r:=(0,0,0,0)) rfl rfl rfl hA.1 (QV.row (rs:=[(g+1+1,zO),(g+1,uO f),(g,uO a)]) (g:=g+1+1) (o:=zO) hP (by simp)) ⟨rfl,QV.setRow (rs:=[(g+1+1,zO),(g+1,uO f),(g,uO a)]) (g:=g+1+1) (cs:=uL (0,0,0,0)) hP (by simp) [(g+1,uO f),(g,uO a)] (by simp;omega)⟩,
  fun _ _ _ hA hP _=>z0a rfl (.inr rfl) hA.1 ⟨rfl,hP⟩,
  trivial⟩
 ·intro W hW;have hR:W.heap[g+1+1]?=some (uO r):=QV.row (rs:=[(g+1+1,uO r),(g+1,uO f),(g,uO a)]) hW (by simp);have HW:=zh (And.intro (BV.bl hW) hR);clear hW hR;go_wp2_with fail;refine bodyPost_ret (z03 rfl _ _ (g+1+1) 24 (uL r) (0,0) _ rfl HW.out.2 Tryz.underlying24 rfl (by kernel_rfl)) rfl ?_;exact⟨rfl,HW.out.1⟩
end Go.Proofs.YtnkilceibkkjlaaGreat
