/- What is proved here: alloc.Mature, over a store behind a  -/
import Derived.Test.YtnkilceibkkjlaaGreatKFqD
import Derived.Deep.CutBlock
set_option maxRecDepth 100000
set_option maxHeartbeats 16000000
namespace Go.Proofs.YtnkilceibkkjlaaGreat
open Go.RowKit
theorem PpPh.below{h:Hand}{w W W':World}{s s2:St}{rs:List (Nat × Obj)}{p:Nat}(hP:PpPh h w s s2 rs p W)(hb:Below W.heap.size W W'):PpPh h w s s2 rs p W':=by
 match p,hP with
 | 0,hP | 1,hP=>exact QV.below (rs:=rs) hP hb
 | _+2,hP=>exact QV.below (rs:=rs) hP hb
theorem QV.zmf{h:Hand}{w W:World}{s s':St}{rs:List (Nat × Obj)}(hV:HV h w s rs W){f:FuncId}{args:Array Value}{E:Ending->Prop}(hC:∀ L',QSt W ⟨h.ptr,h.on,L'⟩ s->(∀ g o,(g,o)∈rs->g∉L')->Calls Tryz.prog f args W fun e W'=>E e/\QOn W ⟨h.ptr,h.on,L'⟩ s' W'):Calls Tryz.prog f args W fun e W'=>E e/\HV h w s' rs W':=by
 obtain⟨L',h1,h2,h3⟩:=hV.on;refine(hC L' h1 h3).mono fun e W' ⟨he,L2,hR2,st⟩=>⟨he,hV.ok,⟨L2,hR2,h2.trans st,fun g o hm hk => ?_⟩,fun g o hm=>⟨hV.le hm,(st.fr.block g (z02 (hV.row hm)) (h3 g o hm)).trans (hV.row hm)⟩⟩
 rcases st.own g hk with h4 | h4
 ·exact h3 g o hm h4
 ·exact absurd (z02 (hV.row hm)) (Nat.not_lt.2 h4)
theorem HV.hdel{h:Hand}{w W:World}{s:St}{rs:List (Nat × Obj)}(hV:HV h w s rs W)(hon:h.on=true)(k:ByteArray)(hz:s.size<1000000000000):Calls Tryz.prog 85 #[.pointer h.ptr,.string k] W fun e w'=>(∃ d,e= .returned (.bool d))/\HV h w (s.del k) rs w':=by
 have hc:Calls Tryz.prog 85 #[.pointer h.ptr,.string k] W fun e w'=>e= .returned (.bool (getE s.ents k).isSome)/\HV h w (s.del k) rs w':=QV.call hV fun L' h1=>zug W ⟨h.ptr,h.on,L'⟩ s k hon h1 hz
 exact hc.mono fun e w' ⟨he,hb⟩=>⟨⟨_,he⟩,hb⟩
abbrev q2O(x:I4):Obj:=.cells #[.int .i64 x.1,.int .i64 x.2.1] 3
theorem ze7(x:I4)(w:World):Calls Tryz.prog 84 #[idV x] w fun e w'=>e= .returned (.slice (some ⟨w.heap.size+1,0,none⟩) 2 2)/\w'=(w.alloc (aO x)).alloc (q2O x):=by
 obtain⟨i0,i1,i2,i3⟩:=z0g (heap_alloc_new w (aO x));have hsz:(w.alloc (aO x)).heap.size=w.heap.size+1:=World.size_alloc ..;go_enter Tryz.func84,Tryz.ntmps84;go_wp2_with fail;go_ret;exact⟨rfl,rfl⟩
theorem zgz{s:St}{f:Nat}(hf:s.Fit f)(t:Nat)(l:List Int):(z3o s t l).Fit (f+4):=by
 unfold z3o;split
 ·exact hf.mono (by omega)
 ·unfold z1m;refine(zdf hf _).put _ ?_;split
  ·exact z15 _ (by simp)
  ·exact z15 _ (by simp)
def mtA(s:St)(x:I4):St:=s.z09 (aAll x) (z1b (s.amt (aAll x)) (pend s x).2.1)
def mtS1(s:St)(x:I4):St:=if (pend s x).1=1 then s else z3o (mtA s x) 33 [x.1,x.2.1]
def mtN(s:St)(x:I4):W4:=if (pend s x).1=1 then sumW (cur s x) (pend s x).2.1 else z1b (cur s x) (pend s x).2.1
def mtSt(s:St)(x:I4):St:=if (pend s x).1=0 then s else(((mtS1 s x).z09 (aKey 29 x) (mtN s x)).del (aKey 30 x)).del (aKey 31 x)
theorem zk1(x y:W4):(z1b x y).Ok:=by
 unfold z1b;split
 ·exact zdo _ _
 ·exact zjr
theorem zd6(w:World)(h:Hand)(s:St)(f:Nat)(x:I4)(hon:h.on=true)(hx:x.Ok)(hq:QSt w h s)(hf:s.Fit f)(hm:f<100000000)(heb:(ends (mtA s x) 33 [x.1,x.2.1]).2<4611686018427387904) :
  Calls Tryz.prog 23 #[.pointer h.ptr,idV x] w fun e w'=>e= .returned (.bool (!decide ((pend s x).1=0)))/\QOn w h (mtSt s x) w':=by
 have hB:=(HV.start hq).alloc (aO x);have hcu:(cur s x).Ok:=z4z _;have hpo:=zda s x;have hst:∀ s1 s2:St,h.st s1 s2=s2:=fun s1 s2=>by unfold Hand.st;rw[hon];rfl
 have hl2:IdOk [x.1,x.2.1]:=⟨by simp,fun n hn=>hx n (by
  simp only[List.mem_cons,List.not_mem_nil,or_false]at hn ⊢
  rcases hn with rfl | rfl<;>simp)⟩
 have hfA:(mtA s x).Fit (f+2):=hf.z09 _ _;have hf1:(mtS1 s x).Fit (f+6):=by
  unfold mtS1;split
  ·exact hf.mono (by omega)
  ·exact zgz hfA _ _
 have hf2:((mtS1 s x).z09 (aKey 29 x) (mtN s x)).Fit (f+8):=hf1.z09 _ _;have hf3:=zdf hf2 (aKey 30 x);have hz:s.size<1000000000000:=Nat.lt_of_le_of_lt hf.size (by omega);have hz1:(mtS1 s x).size<1000000000000:=Nat.lt_of_le_of_lt hf1.size (by omega);have hz2:((mtS1 s x).z09 (aKey 29 x) (mtN s x)).size<1000000000000:=Nat.lt_of_le_of_lt hf2.size (by omega);have hz3:(((mtS1 s x).z09 (aKey 29 x) (mtN s x)).del (aKey 30 x)).size<1000000000000:=Nat.lt_of_le_of_lt hf3.size (by omega);have HPD:Hid (∀ rs W,HV h w s rs W->Calls Tryz.prog 20 #[.pointer h.ptr,idV x] W fun e w'=>e= .returned (.tuple #[.int .i64 (pend s x).1,uV (pend s x).2.1,.int .i64 (pend s x).2.2])/\HV h w s rs w'):=fun rs W hV=>hV.reads fun L' h1=>z5p W h.ptr _ x hx (h1.read hf (by omega))
 have HCU:Hid (∀ rs W,HV h w s rs W->Calls Tryz.prog 18 #[.pointer h.ptr,idV x] W fun e w'=>e= .returned (uV (cur s x))/\HV h w s rs w'):=fun rs W hV=>hV.reads fun L' h1=>z5e W h.ptr s x hx (h1.read hf (by omega))
 have HAD:Hid (∀ rs W,HV h w s rs W->Calls Tryz.prog 79 #[uV (cur s x),uV (pend s x).2.1] W fun e w'=>e= .returned (.tuple #[uV (sumW (cur s x) (pend s x).2.1),.bool (sumB (cur s x) (pend s x).2.1)])/\HV h w s rs w'):=fun rs W hV=>hV.reads fun L' h1=>zqy _ _ hcu hpo W
 have HLS:Hid (∀ rs W,HV h w s rs W->Calls Tryz.prog 80 #[uV (cur s x),uV (pend s x).2.1] W fun e w'=>e= .returned (uV (z1b (cur s x) (pend s x).2.1))/\HV h w s rs w'):=fun rs W hV=>hV.reads fun L' h1=>z9s _ _ hcu hpo W
 have HL2:Hid (∀ W,Calls Tryz.prog 80 #[uV (s.amt (aAll x)),uV (pend s x).2.1] W fun e w'=>e= .returned (uV (z1b (s.amt (aAll x)) (pend s x).2.1))/\Below W.heap.size W w'):=fun W=>z9s _ _ (zb1 _ _) hpo W
 have HAL:Hid (∀ W,Calls Tryz.prog 82 #[idV x] W fun e w'=>e= .returned (.string (aAll x))/\Below W.heap.size W w'):=fun W=>zbn x hx W
 have HAM:Hid (∀ rs W,HV h w s rs W->Calls Tryz.prog 64 #[.pointer h.ptr,.string (aAll x)] W fun e w'=>e= .returned (uV (s.amt (aAll x)))/\HV h w s rs w'):=fun rs W hV=>(hV.camt hf (by omega) (aAll x)).mono fun e w' ⟨he,hb⟩=>⟨he,hV.below hb⟩
 have HSA:Hid (∀ rs W,HV h w s rs W->Calls Tryz.prog 81 #[.pointer h.ptr,.string (aAll x),uV (z1b (s.amt (aAll x)) (pend s x).2.1)] W fun e w'=>e= .returned (.tuple #[])/\HV h w (mtA s x) rs w'):=fun rs W hV=>by
  have:=hV.cset hz (aAll x) (z1b (s.amt (aAll x)) (pend s x).2.1);rw[hst]at this;exact this
 have HQU:Hid (∀ W,Calls Tryz.prog 84 #[idV x] W fun e w'=>e= .returned (.slice (some ⟨W.heap.size+1,0,none⟩) 2 2)/\w'=(W.alloc (aO x)).alloc (q2O x)):=fun W=>ze7 x W
 have HPO:Hid (∀ rs W,HV h w (mtA s x) rs W->Calls Tryz.prog 83 #[.pointer h.ptr,.int .i64 33,.slice (some ⟨W.heap.size+1,0,none⟩) 2 2] ((W.alloc (aO x)).alloc (q2O x)) fun e w'=>(∃ v ok,e= .returned (.tuple #[v,.bool ok]))/\HV h w (z3o (mtA s x) 33 [x.1,x.2.1]) rs w'):=fun rs W hV=>by
  have hV2:=(hV.alloc (aO x)).alloc (q2O x);rw[World.size_alloc]at hV2;refine(QV.zmf hV2 (s':=z3o (mtA s x) 33 [x.1,x.2.1]) (f:=83) (args:=#[.pointer h.ptr,.int .i64 33,.slice (some ⟨W.heap.size+1,0,none⟩) 2 2]) (E:=fun e=>∃ v ok,e= .returned (.tuple #[v,.bool ok])) fun L' h1 hn => ?_).mono fun e w' ⟨he,hV3⟩=>⟨he,hV3.less fun y hy=>by simp[hy]⟩
  exact zwm 33 (by decide) (by decide) _ ⟨h.ptr,h.on,L'⟩ (mtA s x) (f+2) (some ⟨W.heap.size+1,0,none⟩) 2 [x.1,x.2.1] hon h1 hfA (by omega) (zkl (hV2.row (g:=W.heap.size+1) (by simp))) hl2 (fun k hk=>by
   have hk':W.heap.size+1=k:=by simpa [Value.ownBlock]using hk
   subst hk'
   exact hn _ (q2O x) (by simp)) heb
 have HKQ:Hid (∀ t:Nat,1<=t->t<=255->∀ W,Calls Tryz.prog 65 #[idV x,.int .i64 t] W fun e w'=>e= .returned (.string (aKey t x))/\Below W.heap.size W w'):=fun t h1 h2 W=>z5v t h1 h2 x hx W
 have HK29:Hid (∀ W,Calls Tryz.prog 65 #[idV x,.int .i64 29] W fun e w'=>e= .returned (.string (aKey 29 x))/\Below W.heap.size W w'):=fun W=>HKQ.out 29 (by decide) (by decide) W
 have HK30:Hid (∀ S rs W,HV h w S rs W->Calls Tryz.prog 65 #[idV x,.int .i64 30] W fun e w'=>e= .returned (.string (aKey 30 x))/\HV h w S rs w'):=fun S rs W hV=>(HKQ.out 30 (by decide) (by decide) W).mono fun e w' ⟨he,hb⟩=>⟨he,hV.below hb⟩
 have HK31:Hid (∀ S rs W,HV h w S rs W->Calls Tryz.prog 65 #[idV x,.int .i64 31] W fun e w'=>e= .returned (.string (aKey 31 x))/\HV h w S rs w'):=fun S rs W hV=>(HKQ.out 31 (by decide) (by decide) W).mono fun e w' ⟨he,hb⟩=>⟨he,hV.below hb⟩
 have HS29:Hid (∀ rs W,HV h w (mtS1 s x) rs W->Calls Tryz.prog 81 #[.pointer h.ptr,.string (aKey 29 x),uV (mtN s x)] W fun e w'=>e= .returned (.tuple #[])/\HV h w ((mtS1 s x).z09 (aKey 29 x) (mtN s x)) rs w'):=fun rs W hV=>by
  have:=hV.cset hz1 (aKey 29 x) (mtN s x);rw[hst]at this;exact this
 have HD30:Hid (∀ rs W,HV h w ((mtS1 s x).z09 (aKey 29 x) (mtN s x)) rs W->Calls Tryz.prog 85 #[.pointer h.ptr,.string (aKey 30 x)] W fun e w'=>(∃ d,e= .returned (.bool d))/\HV h w (((mtS1 s x).z09 (aKey 29 x) (mtN s x)).del (aKey 30 x)) rs w'):=fun rs W hV=>hV.hdel hon _ hz2
 have HD31:Hid (∀ rs W,HV h w (((mtS1 s x).z09 (aKey 29 x) (mtN s x)).del (aKey 30 x)) rs W->Calls Tryz.prog 85 #[.pointer h.ptr,.string (aKey 31 x)] W fun e w'=>(∃ d,e= .returned (.bool d))/\HV h w ((((mtS1 s x).z09 (aKey 29 x) (mtN s x)).del (aKey 30 x)).del (aKey 31 x)) rs w'):=fun rs W hV=>hV.hdel hon _ hz3
 have HLAW:Hid (((pend s x).1=0->mtSt s x=s)/\((pend s x).1≠0->mtSt s x=(((mtS1 s x).z09 (aKey 29 x) (mtN s x)).del (aKey 30 x)).del (aKey 31 x))/\((pend s x).1=1->mtS1 s x=s/\mtN s x=sumW (cur s x) (pend s x).2.1)/\((pend s x).1≠1->mtS1 s x=z3o (mtA s x) 33 [x.1,x.2.1]/\mtN s x=z1b (cur s x) (pend s x).2.1)):=by
  unfold mtSt mtS1 mtN;exact⟨fun h=>by rw[if_pos h],fun h=>by rw[if_neg h],fun h=>by rw[if_pos h,if_pos h];exact⟨rfl,rfl⟩,fun h=>by rw[if_neg h,if_neg h];exact⟨rfl,rfl⟩⟩
 have HB:=zh hB;clear hB hcu hpo hst hl2 hfA hf1 hf2 hf3 hz hz1 hz2 hz3 hq hf hx hm hon heb HKQ;generalize mtSt s x=rS at *
 generalize (((mtS1 s x).z09 (aKey 29 x) (mtN s x)).del (aKey 30 x)).del (aKey 31 x)=S4 at *
 generalize ((mtS1 s x).z09 (aKey 29 x) (mtN s x)).del (aKey 30 x)=S3 at *
 generalize (mtS1 s x).z09 (aKey 29 x) (mtN s x)=S2 at *
 generalize mtS1 s x=S1 at *
 generalize mtN s x=nw at *
 generalize z3o (mtA s x) 33 [x.1,x.2.1]=sP at *
 generalize mtA s x=sA at *
 generalize sumW (cur s x) (pend s x).2.1=sm at *
 generalize sumB (cur s x) (pend s x).2.1=sb at *
 generalize z1b (cur s x) (pend s x).2.1=ll at *
 generalize z1b (s.amt (aAll x)) (pend s x).2.1=le at *
 generalize s.amt (aAll x)=eA at *
 generalize cur s x=cu at *
 generalize (pend s x).2.2=bb at *
 generalize (pend s x).2.1=pa at *
 generalize (pend s x).1=wy at *
 generalize aAll x=kA at *
 generalize aKey 29 x=k29 at *
 generalize aKey 30 x=k30 at *
 generalize aKey 31 x=k31 at *
 go_enter Tryz.func23,Tryz.ntmps23;go_upto_region 1 with fail;generalize w.alloc (aO x)=w1 at *
 obtain⟨g,hg⟩:∃ g,g=w.heap.size:=⟨_,rfl⟩;rw[<- hg]at HB ⊢;clear hg;obtain⟨i0,i1,i2,i3⟩:=z0g (x:=x) (HB.out.row (g:=g) (o:=aO x) (by simp));go_wp2_with fail;refine zm (HPD.out _ _ HB.out) ?_;rintro e w2 ⟨rfl,hB2⟩;have hB3:=hB2.alloc (uO pa);clear HPD HB hB2 i0 i1 i2 i3;go_upto_region 2 with fail;generalize w2.alloc (uO pa)=w3 at *
 generalize w2.heap.size=g6 at *
 obtain⟨i0,i1,i2,i3⟩:=z0g (x:=x) (hB3.row (g:=g) (o:=aO x) (by simp));have HB3:=zh hB3;clear hB3;go_wp2_with fail;refine zm (HCU.out _ _ HB3.out) ?_;rintro e w4 ⟨rfl,hB4⟩;have HL8:=zh (And.intro (z02 (hB4.row (g:=g6) (o:=uO pa) (by simp))) (z02 (hB4.row (g:=g) (o:=aO x) (by simp))));have hB5:=hB4.alloc (uO cu);clear HCU HB3 hB4 i0 i1 i2 i3;go_upto_region 3 with fail;generalize w4.alloc (uO cu)=w5 at *
 generalize w4.heap.size=g8 at *
 have HB5:=zh hB5;clear hB5
 go_upto_block 0 with fail
 by_cases h0:wy=0
 ·subst h0;have hr:=HLAW.out.1 rfl;have HR:Hid (QOn w h rS w5):=by rw[hr];exact HV.done HB5.out
  clear hr HLAW;go_wp2_with fail;go_ret;exact⟨rfl,HR.out⟩
 ·have hr:=HLAW.out.2.1 h0;have hb0:((wy:Int)==0)=false:=by simpa using (by omega:¬ (wy:Int)=0)
  have hb0':(wy==0)=false:=by simpa using h0
  have HRS:=zh hr;have HH0:=zh h0;clear hr
  go_cut [] (fun wc=>HV h w S1 [(g8,uO nw),(g6,uO pa),(g,aO x)] wc)
  case first =>
   by_cases h1:wy=1
   ·have hb1:((wy:Int)==1)=true:=by simp[h1]
    have hb1':(wy==1)=true:=by simp[h1]
    have HRR:=zh (HLAW.out.2.2.1 h1);obtain⟨c0,c1,c2,c3,_⟩:=row4 (HB5.out.row (g:=g8) (o:=uO cu) (by simp));obtain⟨v0,v1,v2,v3,_⟩:=row4 (HB5.out.row (g:=g6) (o:=uO pa) (by simp));clear HLAW h1 h0 HPO HQU HSA HAM HAL HL2 HLS HK29 HK30 HK31 HS29 HD30 HD31 HRS HH0;go_wp2_with fail;refine zm (HAD.out _ _ HB5.out) ?_;rintro e w6 ⟨rfl,hB6⟩;clear c0 c1 c2 c3 v0 v1 v2 v3;obtain⟨c0,c1,c2,c3,_⟩:=row4 (hB6.row (g:=g8) (o:=uO cu) (by simp))
    have HR:Hid (HV h w s [(g8,uO sm),(g6,uO pa),(g,aO x)] ((((w6.setCell ⟨g8,0,none⟩ (.int .u64 sm.1)).setCell ⟨g8,1,none⟩ (.int .u64 sm.2.1)).setCell ⟨g8,2,none⟩ (.int .u64 sm.2.2.1)).setCell ⟨g8,3,none⟩ (.int .u64 sm.2.2.2))):=QV.put4 hB6 sm (y:=cu) (by simp) _ (fun y hy=>by
     obtain⟨l1,l2⟩:=HL8.out;simp only[List.mem_cons,List.not_mem_nil,or_false]at hy;rcases hy with rfl | rfl
     ·exact⟨by simp,Nat.ne_of_lt l1⟩
     ·exact⟨by simp,Nat.ne_of_lt l2⟩)
    clear hB6;go_wp2_with fail
    go_meet
    case rel =>
     rw[HRR.out.1,HRR.out.2];exact HR.out
   ·have hb1:((wy:Int)==1)=false:=by simpa using (by omega:¬ (wy:Int)=1)
    have hb1':(wy==1)=false:=by simpa using h1
    have HRR:=zh (HLAW.out.2.2.2 h1);obtain⟨c0,c1,c2,c3,_⟩:=row4 (HB5.out.row (g:=g8) (o:=uO cu) (by simp));obtain⟨v0,v1,v2,v3,_⟩:=row4 (HB5.out.row (g:=g6) (o:=uO pa) (by simp));clear HLAW h1 h0 HAD HK29 HK30 HK31 HS29 HD30 HD31 HRS HH0;go_wp2_with fail;refine zm (HLS.out _ _ HB5.out) ?_;rintro e w6 ⟨rfl,hB6⟩;clear c0 c1 c2 c3 v0 v1 v2 v3;obtain⟨c0,c1,c2,c3,_⟩:=row4 (hB6.row (g:=g8) (o:=uO cu) (by simp))
    have hR:HV h w s [(g8,uO ll),(g6,uO pa),(g,aO x)] ((((w6.setCell ⟨g8,0,none⟩ (.int .u64 ll.1)).setCell ⟨g8,1,none⟩ (.int .u64 ll.2.1)).setCell ⟨g8,2,none⟩ (.int .u64 ll.2.2.1)).setCell ⟨g8,3,none⟩ (.int .u64 ll.2.2.2)):=QV.put4 hB6 ll (y:=cu) (by simp) _ (fun y hy=>by
     obtain⟨l1,l2⟩:=HL8.out;simp only[List.mem_cons,List.not_mem_nil,or_false]at hy;rcases hy with rfl | rfl
     ·exact⟨by simp,Nat.ne_of_lt l1⟩
     ·exact⟨by simp,Nat.ne_of_lt l2⟩)
    clear hB6;go_upto_region 5 with fail;generalize (((w6.setCell ⟨g8,0,none⟩ (.int .u64 ll.1)).setCell ⟨g8,1,none⟩ (.int .u64 ll.2.1)).setCell ⟨g8,2,none⟩ (.int .u64 ll.2.2.1)).setCell ⟨g8,3,none⟩ (.int .u64 ll.2.2.2)=w7 at *
    have HP0:Hid (PpPh h w s sA [(g8,uO ll),(g6,uO pa),(g,aO x)] 0 w7.drew):=hR.drew;clear hR c0 c1 c2 c3;refine z06 [[],[],[1],[],[],[4],[3,5],[],[6,7],[0,2,6,8]]
     [.pointer h.ptr,idV x,.string kA,.pointer h.ptr,idV x,.string kA,uV eA,uV pa,uV le,.tuple #[]]
     [6,9] (PpPh h w s sA [(g8,uO ll),(g6,uO pa),(g,aO x)]) _ (by kernel_rfl) (by kernel_rfl) (by kernel_rfl)
     (fun vs=>by simp only[z14,z1a,List.setIfInBounds_toArray,List.set_cons_zero,List.set_cons_succ];exact rfl)
     (by simp only[List.getD_cons_zero,List.getD_cons_succ];exact rfl) HP0.out ?_ ?_
    ·exact⟨
     fun _ _ _ _ hP _=>z0a rfl (.inl rfl) rfl ⟨rfl,hP⟩,
     fun _ _ _ _ hP _=>z1u rfl rfl rfl (PpPh.row (g:=g) (o:=aO x) hP (by simp)) ⟨rfl,hP⟩,
     fun _ _ w1 hA hP _=>z0m rfl rfl rfl (by kernel_rfl) (rgL1 hA.1) ((HAL.out w1).mono fun _ _ hh=>And.intro hh.1 (PpPh.below hP hh.2)) fun _ hP2=>⟨rfl,hP2⟩,
     fun _ _ _ _ hP _=>z0a rfl (.inl rfl) rfl ⟨rfl,hP⟩,
     fun _ _ _ _ hP _=>z1u rfl rfl rfl (PpPh.row (g:=g) (o:=aO x) hP (by simp)) ⟨rfl,hP⟩,
     fun _ _ w1 hA hP _=>z0m rfl rfl rfl (by kernel_rfl) (rgL1 hA.1) ((HAL.out w1).mono fun _ _ hh=>And.intro hh.1 (PpPh.below hP hh.2)) fun _ hP2=>⟨rfl,hP2⟩,
     fun _ _ _ hA hP hq=>by cases hq 0 rfl;exact z0m rfl rfl rfl (by kernel_rfl) (rgL2 hA.1 hA.2.1) (HAM.out _ _ hP) fun _ hP2=>⟨rfl,hP2⟩,
     fun _ _ _ _ hP _=>z0p rfl rfl rfl (PpPh.row (g:=g6) (o:=uO pa) hP (by simp)) ⟨rfl,hP⟩,
     fun _ _ w1 hA hP _=>z0m rfl rfl rfl (by kernel_rfl) (rgL2 hA.1 hA.2.1) ((HL2.out w1).mono fun _ _ hh=>And.intro hh.1 (PpPh.below hP hh.2)) fun _ hP2=>⟨rfl,hP2⟩,
     fun _ _ _ hA hP hq=>by cases hq 1 rfl;exact z0m rfl rfl rfl (by kernel_rfl) (rgL3 hA.1 hA.2.1 hA.2.2.2.1) (HSA.out _ _ hP) fun _ hP2=>⟨rfl,hP2⟩,
     trivial⟩
    ·intro WT hWT;have hVT:HV h w sA [(g8,uO ll),(g6,uO pa),(g,aO x)] WT:=hWT;obtain⟨i0,i1,i2,i3⟩:=z0g (x:=x) (hVT.row (g:=g) (o:=aO x) (by simp));have HVT:=zh hVT;clear hVT hWT HP0;go_wp2_with fail;refine zm (HQU.out _) ?_;rintro e wq ⟨rfl,rfl⟩;clear i0 i1 i2 i3;go_wp2_with fail;refine zm (HPO.out _ _ HVT.out) ?_;rintro e wp ⟨⟨vp,okp,rfl⟩,hVp⟩;have HR:=zh hVp;clear hVp HVT;go_wp2_with fail
     go_meet
     case rel =>
      rw[HRR.out.1,HRR.out.2];exact HR.out
  case rest =>
   have HT0:Hid (SqPh h w S1 S2 [(g8,uO nw),(g6,uO pa),(g,aO x)] 0 wc.drew):=QV.drew hcut;clear HLAW h0 HPO HQU HSA HAM HAL HL2 HLS HAD HB5 hcut;go_upto_region 11 with fail;refine z06 [[],[],[1],[],[0,2,3]]
    [.pointer h.ptr,idV x,.string k29,uV nw,.tuple #[]]
    [4] (SqPh h w S1 S2 [(g8,uO nw),(g6,uO pa),(g,aO x)]) _ (by kernel_rfl) (by kernel_rfl) (by kernel_rfl)
    (fun vs=>by simp only[z14,z1a,List.setIfInBounds_toArray,List.set_cons_zero,List.set_cons_succ];exact rfl)
    (by simp only[List.getD_cons_zero,List.getD_cons_succ];exact rfl) HT0.out ?_ ?_
   ·exact⟨
    fun _ _ _ _ hP _=>z0a rfl (.inl rfl) rfl ⟨rfl,hP⟩,
    fun _ _ _ _ hP _=>z1u rfl rfl rfl (SqPh.row (g:=g) (o:=aO x) hP (by simp)) ⟨rfl,hP⟩,
    fun _ _ w1 hA hP _=>z0m rfl rfl rfl (by kernel_rfl) (rgL2 hA.1 rfl) ((HK29.out w1).mono fun _ _ hh=>And.intro hh.1 (SqPh.below hP hh.2)) fun _ hP2=>⟨rfl,hP2⟩,
    fun _ _ _ _ hP _=>z0p rfl rfl rfl (SqPh.row (g:=g8) (o:=uO nw) hP (by simp)) ⟨rfl,hP⟩,
    fun _ _ _ hA hP hq=>by cases hq 0 rfl;exact z0m rfl rfl rfl (by kernel_rfl) (rgL3 hA.1 hA.2.1 hA.2.2.1) (HS29.out _ _ hP) fun _ hP2=>⟨rfl,hP2⟩,
    trivial⟩
   ·intro WT hWT;have hVT:HV h w S2 [(g8,uO nw),(g6,uO pa),(g,aO x)] WT:=hWT;obtain⟨i0,i1,i2,i3⟩:=z0g (x:=x) (hVT.row (g:=g) (o:=aO x) (by simp));have HVT:=zh hVT;clear hVT hWT HT0;go_wp2_with fail;refine zm (HK30.out _ _ _ HVT.out) ?_;rintro e wa ⟨rfl,hVa⟩;have HVa:=zh hVa;clear hVa HVT i0 i1 i2 i3;go_wp2_with fail;refine zm (HD30.out _ _ HVa.out) ?_;rintro e wb ⟨⟨d1,rfl⟩,hVb⟩;obtain⟨i0,i1,i2,i3⟩:=z0g (x:=x) (hVb.row (g:=g) (o:=aO x) (by simp));have HVb:=zh hVb;clear hVb HVa;go_wp2_with fail;refine zm (HK31.out _ _ _ HVb.out) ?_;rintro e wf ⟨rfl,hVc⟩;have HVc:=zh hVc;clear hVc HVb i0 i1 i2 i3;go_wp2_with fail;refine zm (HD31.out _ _ HVc.out) ?_;rintro e wd ⟨⟨d2,rfl⟩,hVd⟩;have HR:Hid (QOn w h S4 wd):=HV.done hVd
    clear hVd HVc;go_wp2_with fail;go_ret;exact⟨by rw[decide_eq_false HH0.out];rfl,by rw[HRS.out];exact HR.out⟩
abbrev plO(a b:Int):Obj:=.cells #[.int .i64 a,.int .i64 b] 276
theorem zpm(k:ByteArray)(hk:k.size<1000000000000)(y:Nat × Nat)(hn:zd2 k=some y)(w:World):Calls Tryz.prog 255 #[.string k] w fun e w'=>e= .returned (.tuple #[.agg #[.int .i64 y.1,.int .i64 y.2],.bool true])/\Below w.heap.size w w':=by
 have hb0:=z00 (Below.refl _ w) (plO 0 0);have HP:Hid (Calls Tryz.prog 159 #[.string k] (w.alloc (plO 0 0)) fun e w3=>∃ (t:Int) (g c:Nat),e= .returned (.tuple #[.int .i64 t,.slice (some ⟨g,0,none⟩) 2 c,.bool true])/\w3.cell? ⟨g,0,none⟩=some (.int .i64 y.1)/\w3.cell? ⟨g,1,none⟩=some (.int .i64 y.2)/\Below w.heap.size w w3/\w3.heap[w.heap.size]?=some (plO 0 0)/\w.heap.size≠g):=
  (parse_any k hk (w.alloc (plO 0 0))).mono fun e w3 hr=>by
   unfold zd2 at hn;cases hp:z2c k with
   | none=>rw[hp]at hn;cases hn
   | some p =>
    obtain⟨t,ns⟩:=p;rw[hp]at hn hr
    match ns,hn with
    | [m1,m2],hn =>
     cases hn;obtain⟨hb,v,he,ho,hg⟩:=hr;obtain⟨g,c,rfl,c0,c1⟩:=z7h ho;refine⟨t,g,c,he,c0,c1,z0b hb0 hb,(hb.block _ (by simp)).trans (heap_alloc_new w _),?_⟩;have:=hg g rfl;simp at this;omega
 clear hn hb0;obtain⟨y1,y2⟩:=y;dsimp only at HP ⊢;go_enter Tryz.func255,Tryz.ntmps255;go_wp2_with fail;refine zm HP.out ?_;rintro e w3 ⟨t,g,c,rfl,c0,c1,hb,hr,hne⟩;have q0:w3.cell? ⟨w.heap.size,0,none⟩=some (.int .i64 0):=by rw[cell_of_row _ _ _ _ _ _ hr];rfl
 have q1:w3.cell? ⟨w.heap.size,1,none⟩=some (.int .i64 0):=by rw[cell_of_row _ _ _ _ _ _ hr];rfl
 have z0:∀ o,w3.frozen? ⟨w.heap.size,o,none⟩=false:=fun o=>frozen_of_row _ _ _ _ _ hr
 have f0:=z0 0;have f1:=z0 1;have HR:=zh hr;have HB:=zh hb;have hne2:=Ne.symm hne;clear z0 hr hb HP;go_wp2_with fail
 go_region
 all_goals
  go_wp2_with fail;refine bodyPost_ret (z03 rfl _ _ w.heap.size 276 #[.int .i64 y1,.int .i64 y2] (0,0) _ rfl ?_ Tryz.underlying276 rfl (by kernel_rfl)) rfl ?_
  ·show((w3.setCell ⟨w.heap.size,0,none⟩ (.int .i64 y1)).setCell ⟨w.heap.size,1,none⟩ (.int .i64 y2)).heap[w.heap.size]?=_
   exact z0d _ (z0d _ HR.out)
  ·exact⟨rfl,z0h ((HB.out.setCell (p:=⟨w.heap.size,0,none⟩) (Nat.le_refl _) _).setCell (p:=⟨w.heap.size,1,none⟩) (Nat.le_refl _) _)⟩
theorem zts(k:ByteArray)(hk:k.size<1000000000000)(hn:zd2 k=none)(w:World):Calls Tryz.prog 255 #[.string k] w fun e w'=>e= .returned (.tuple #[.agg #[.int .i64 0,.int .i64 0],.bool false])/\Below w.heap.size w w':=by
 have hb0:=z00 (Below.refl _ w) (plO 0 0);have HP:Hid (Calls Tryz.prog 159 #[.string k] (w.alloc (plO 0 0)) fun e w3=>(∃ (t:Int) (a:Option Addr) (m c:Nat) (ok:Bool),e= .returned (.tuple #[.int .i64 t,.slice a m c,.bool ok])/\((m:Int)==2)=false)/\Below w.heap.size w w3/\w3.heap[w.heap.size]?=some (plO 0 0)):=
  (parse_any k hk (w.alloc (plO 0 0))).mono fun e w3 hr=>⟨zef hr hn,z0b hb0 hr.1,(hr.1.block _ (by simp)).trans (heap_alloc_new w _)⟩
 clear hn hb0;go_enter Tryz.func255,Tryz.ntmps255;go_wp2_with fail;refine zm HP.out ?_;rintro e w3 ⟨⟨t,a,m,c,ok,rfl,hm⟩,hb,hr⟩;have q0:w3.cell? ⟨w.heap.size,0,none⟩=some (.int .i64 0):=by rw[cell_of_row _ _ _ _ _ _ hr];rfl
 have q1:w3.cell? ⟨w.heap.size,1,none⟩=some (.int .i64 0):=by rw[cell_of_row _ _ _ _ _ _ hr];rfl
 have f0:w3.frozen? ⟨w.heap.size,0,none⟩=false:=frozen_of_row _ _ _ _ _ hr;have f1:w3.frozen? ⟨w.heap.size,1,none⟩=false:=frozen_of_row _ _ _ _ _ hr;have HR:=zh hr;have HB:=zh hb;clear hr hb HP;cases ok with
 | true =>
  go_wp2_with fail;refine bodyPost_ret (z03 rfl _ _ w.heap.size 276 #[.int .i64 0,.int .i64 0] (0,0) _ rfl ?_ Tryz.underlying276 rfl (by kernel_rfl)) rfl ?_
  ·exact z0d _ (z0d _ HR.out)
  ·exact⟨rfl,(HB.out.setCell (p:=⟨w.heap.size,0,none⟩) (Nat.le_refl _) _).setCell (p:=⟨w.heap.size,1,none⟩) (Nat.le_refl _) _⟩
 | false =>
  go_wp2_with fail;refine bodyPost_ret (z03 rfl _ _ w.heap.size 276 #[.int .i64 0,.int .i64 0] (0,0) _ rfl ?_ Tryz.underlying276 rfl (by kernel_rfl)) rfl ?_
  ·exact z0d _ (z0d _ HR.out)
  ·exact⟨rfl,(HB.out.setCell (p:=⟨w.heap.size,0,none⟩) (Nat.le_refl _) _).setCell (p:=⟨w.heap.size,1,none⟩) (Nat.le_refl _) _⟩
open Go.Shelf
attribute [local go_sem] Oper.semAt_some
def z3i(x:Ent):Option (Int × Int):=match zd2 x.1 with
 | some y=>if (numsL x.2.data.toList).isSome then some ((y.1:Int),(y.2:Int))else none
 | none=>none
def dueE(p:ByteArray)(s:St):List (Int × Int):=(z0o p s.ents).filterMap z3i
abbrev DuR:=(Int × Int) × Value
def DaAt(n₀:Nat)(us:List Ent)(J:List DuR->World->Prop)(wc:World)(i:Nat)(wr:World):Prop:=(∃ ys:List DuR,ys.map Prod.fst=(us.take i).filterMap z3i/\J ys wr)/\KpR n₀ wc wr
theorem DaAt.skip{n₀:Nat}{us:List Ent}{J:List DuR->World->Prop}{wc:World}{i:Nat}{wr w':World}{B:Nat}(hJ:AbidesFrom B J)(h:DaAt n₀ us J wc i wr){x:Ent}(hx:us[i]?=some x)(hn:z3i x=none)(hb:Below wr.heap.size wr w')(hs:n₀<=wr.heap.size):DaAt n₀ us J wc (i+1) w':=by
 obtain⟨⟨ys,h1,h2⟩,h3⟩:=h;refine⟨⟨ys,?_,hJ _ _ _ none h2 (grown_below hb) (fun r e=>by cases e)⟩,h3.trans (KpR.of_below hb hs)⟩;rw[z5w _ _ _ _ hx,hn];simp only[Option.toList_none,List.append_nil];exact h1
theorem zth(l Bs Bp n₀:Nat)(q:Option Addr)(p:ByteArray)(s:St)(J Jx:List DuR->World->Prop)(W:World)(hJ:AbidesFrom W.heap.size J)
    (hlen:s.ents.length<1000000000000) (hkey:∀ x∈s.ents,x.1.size<1000000000000) (hval:∀ x∈s.ents,x.2.size<1000000000000)
    (hY:∀ pre x W1,J pre W1->pre.length<1000000000000->YieldAt Fence.wide 3 Tryz.prog l #[.agg #[.int .i64 x.1.1,.int .i64 x.1.2],x.2] W1 fun e W' =>
      (e= .returned (.bool true)/\J (pre ++ [x]) W'/\KpR n₀ W1 W')\/(e= .returned (.bool false)/\Jx (pre ++ [x]) W'))
    (hS:z1c n₀ W q s) (hn:n₀<=W.heap.size) (hBs:Boxed W Bs 39 (.pointer q)) (hBp:Boxed W Bp 9 (.string p)) (h0:J [] W) :
    CallsIn Fence.wide 4 Tryz.prog 254 (#[.func (.yield l) #[] #[]] ++ #[.pointer (some ⟨Bs,0,none⟩),.pointer (some ⟨Bp,0,none⟩)]) W fun e W'=>(∃ v,e= .returned v) /\
      ((∃ ys:List DuR,ys.map Prod.fst=dueE p s/\J ys W')\/(∃ pre,True/\Jx pre W')):=by
  have HU:Hid (Calls Tryz.prog 101 #[.pointer q,.string p] W fun e w2=>∃ a c,e= .returned (.slice a (z0o p s.ents).length c)/\Own w2 156 2 (.slice a (z0o p s.ents).length c) (z0o p s.ents).length (z1x (z0o p s.ents))/\Below W.heap.size W w2):=
    ((hS.below (Below.refl n₀ W)).under p).mono fun e w2 ⟨v,he,hO⟩=>by
      obtain⟨a,c,rfl,_⟩:=hO.1.pairs;exact⟨a,c,he,hO.1,hO.2.2⟩
  have hc1:=hBs.cell;have hc2:=hBp.cell;refine callsIn_of_wp Tryz.func254 rfl trivial ?_ rfl;simp only[Tryz.ntmps254,List.size_toArray,List.length_cons,List.length_nil,Nat.reduceAdd,Nat.reduceSub,Array.replicate_succ,Array.replicate_zero,List.push_toArray,List.append_toArray,List.nil_append,List.cons_append];have HL:Hid ((z0o p s.ents).length<1000000000000):=Nat.lt_of_le_of_lt (z6f _ _) hlen;have HK:Hid (∀ (i:Nat) (x:Ent),(z0o p s.ents)[i]?=some x->x.1.size<1000000000000/\x.2.size<1000000000000):=fun i x hx=>by
    have hm:x∈s.ents:=by have h:=List.mem_of_getElem? hx;unfold z0o at h;exact(List.mem_filter.1 h).1
    exact⟨hkey x hm,hval x hm⟩
  have HE:Hid (dueE p s=(z0o p s.ents).filterMap z3i):=rfl;generalize dueE p s=ES at *
  generalize z0o p s.ents=us at *
  clear hkey hval hlen
  gi_wp2_with (refine⟨trivial,?_⟩;gi_at_call 101;refine(callsIn_wide.2 HU.out).mono ?_;rintro e wc ⟨a,c,rfl,hO,hb2⟩)
  have hJc:J [] wc:=hJ _ _ _ none h0 (grown_below hb2) (fun r e=>by cases e);have HO:=zh hO;have hsz:=hb2.size;clear hO HU hBs hBp hS hc1 hc2 h0;have hA0:Hid (DaAt n₀ us J wc 0 wc):=⟨⟨[],by simp,hJc⟩,KpR.refl _ _⟩
  gi_loopw [14] (fun iv wr=>∃ i:Nat,iv= .int .i64 i/\i<=us.length/\DaAt n₀ us J wc i wr) (fun iv _=>us.length-(intOf iv).toNat)
  case atStart=>exact⟨0,rfl,by omega,hA0.out⟩
  case round =>
    obtain⟨i,rfl,hi,hAt⟩:=hrel;have HAt:=zh hAt;clear hAt hA0;have hnr:n₀<=wr.heap.size:=Nat.le_trans (Nat.le_trans hn hsz) HAt.out.2.1.size
    by_cases hlt:i<us.length
    · obtain⟨x,hx⟩:∃ x,us[i]?=some x:=⟨_,List.getElem?_eq_getElem hlt⟩
      obtain⟨a',c',e,hp⟩:=(HAt.out.2.own HO.out (by decide) (by decide)).pairs;cases e;obtain⟨g,rfl,hp1,hp2⟩:=hp.at0 i x hx;clear hp;obtain⟨hxk,hxv⟩:=HK.out i x hx;have hL:=HL.out;have hba:Below wr.heap.size wr (wr.alloc (.cells #[.string x.1,.string x.2] 156)):=(Below.refl _ wr).alloc (Nat.le_refl _) _;have hpr:(wr.alloc (.cells #[.string x.1,.string x.2] 156)).cell? ⟨wr.heap.size,1,none⟩=some (.string x.2):=by rw[cell_of_row _ _ _ _ _ _ (heap_alloc_new wr _)];rfl
      have hsw:wr.heap.size<(wr.alloc (.cells #[.string x.1,.string x.2] 156)).heap.size:=by simp
      cases hn2:zd2 x.1 with
      | none =>
        have hno:z3i x=none:=by unfold z3i;rw[hn2]
        have HRD:=zh (zts x.1 hxk hn2 (wr.alloc (.cells #[.string x.1,.string x.2] 156)))
        gi_upto_region 4 with(refine⟨trivial,?_⟩;gi_at_call 255;refine(callsIn_wide.2 HRD.out).mono ?_;rintro e w3 ⟨rfl,hb3⟩)
        have hb4:Below wr.heap.size wr (w3.alloc (plO 0 0)):=z00 (hba.trans (hb3.mono (by simp))) _;have c4:(w3.alloc (plO 0 0)).cell? ⟨wr.heap.size,1,none⟩=some (.string x.2):=by
          rw[(z00 (Below.refl w3.heap.size w3) (plO 0 0)).cell (p:=⟨wr.heap.size,1,none⟩) (Nat.lt_of_lt_of_le hsw hb3.size),hb3.cell (p:=⟨wr.heap.size,1,none⟩) hsw];exact hpr
        generalize w3.alloc (plO 0 0)=w4 at *
        have HNM:Hid (Calls Tryz.prog 147 #[.string x.2] w4 fun e w5=>(∃ ad m c ok,e= .returned (.tuple #[.slice ad m c,.bool ok]))/\DaAt n₀ us J wc (i+1) w5):=(za8 x.2 hxv w4).mono fun e w5 hr=>by
          refine⟨?_,HAt.out.skip hJ hx hno (z8x hb4 hr.1) hnr⟩;obtain⟨_,hr⟩:=hr;cases hl:numsL x.2.data.toList with
          | none=>rw[hl]at hr;exact⟨none,0,0,false,hr⟩
          | some ns =>
            rw[hl]at hr;obtain⟨v,he,ho,_⟩:=hr;obtain⟨ad,c,rfl,_⟩:=ho.form;exact⟨ad,_,c,true,he⟩
        clear hb4 hba hpr hsw HRD HAt hno hb3
        gi_wp2_with (refine⟨trivial,?_⟩;gi_at_call 147;refine(callsIn_wide.2 HNM.out).mono ?_;rintro e w5 ⟨⟨ad,m,c,ok,rfl⟩,hA5⟩)
        refine⟨fun _ hf=>(by cases hf),?_⟩
        gi_wp2
        exact⟨⟨i+1,by go_num,by omega,hA5⟩,by simp[intOf];omega⟩
      | some y =>
        have HRD:=zh (zpm x.1 hxk y hn2 (wr.alloc (.cells #[.string x.1,.string x.2] 156)));obtain⟨y1,y2⟩:=y
        gi_upto_region 4 with(refine⟨trivial,?_⟩;gi_at_call 255;refine(callsIn_wide.2 HRD.out).mono ?_;rintro e w3 ⟨rfl,hb3⟩)
        have hb4:Below wr.heap.size wr (w3.alloc (plO y1 y2)):=z00 (hba.trans (hb3.mono (by simp))) _;have c4:(w3.alloc (plO y1 y2)).cell? ⟨wr.heap.size,1,none⟩=some (.string x.2):=by
          rw[(z00 (Below.refl w3.heap.size w3) (plO y1 y2)).cell (p:=⟨wr.heap.size,1,none⟩) (Nat.lt_of_lt_of_le hsw hb3.size),hb3.cell (p:=⟨wr.heap.size,1,none⟩) hsw];exact hpr
        have hpl:=heap_alloc_new w3 (plO y1 y2);generalize hw4:w3.alloc (plO y1 y2)=w4 at *
        generalize w3.heap.size=gp at *
        clear hw4;cases hl:numsL x.2.data.toList with
        | none =>
          have hno:z3i x=none:=by unfold z3i;rw[hn2];simp[hl]
          have HNM:Hid (Calls Tryz.prog 147 #[.string x.2] w4 fun e w5=>e= .returned (.tuple #[.slice none 0 0,.bool false])/\DaAt n₀ us J wc (i+1) w5):=(za8 x.2 hxv w4).mono fun e w5 hr=>by
            obtain⟨hb5,hr⟩:=hr;rw[hl]at hr;exact⟨hr,HAt.out.skip hJ hx hno (z8x hb4 hb5) hnr⟩
          clear hb4 hba hpr hsw HRD HAt hno hb3 hpl
          gi_wp2_with (refine⟨trivial,?_⟩;gi_at_call 147;refine(callsIn_wide.2 HNM.out).mono ?_;rintro e w5 ⟨rfl,hA5⟩)
          refine⟨fun _ hf=>(by cases hf),?_⟩
          gi_wp2
          exact⟨⟨i+1,by go_num,by omega,hA5⟩,by simp[intOf];omega⟩
        | some ns =>
          have hyes:z3i x=some ((y1:Int),(y2:Int)):=by unfold z3i;rw[hn2];simp[hl]
          have hpl1:∀ ys:List DuR,ys.map Prod.fst=(us.take i).filterMap z3i->ys.length<1000000000000:=fun ys h=>by
            have h2:=z6q z3i (us.take i);have h3:(us.take i).length<=us.length:=by rw[List.length_take];omega
            have h4:=congrArg List.length h;rw[List.length_map]at h4;omega
          have HNM:Hid (Calls Tryz.prog 147 #[.string x.2] w4 fun e w5=>∃ ad m c,e= .returned (.tuple #[.slice ad m c,.bool true])/\(w5.cell? ⟨gp,0,none⟩=some (.int .i64 y1)/\w5.cell? ⟨gp,1,none⟩=some (.int .i64 y2)) /\
              YieldAt Fence.wide 3 Tryz.prog l #[.agg #[.int .i64 y1,.int .i64 y2],.slice ad m c] w5 fun e W'=>∃ r:Bool,e= .returned (.bool r)/\(r=true->DaAt n₀ us J wc (i+1) W')/\(r=false->∃ pre,Jx pre W')):=(za8 x.2 hxv w4).mono fun e w5 hr=>by
            obtain⟨hb5,hr⟩:=hr;rw[hl]at hr;obtain⟨v,he,ho,_⟩:=hr;obtain⟨ad,c,rfl,_⟩:=ho.form;have hr5:=(hb5.block _ (z02 hpl)).trans hpl;have hb5':=z8x hb4 hb5;obtain⟨⟨ys,hys,hJy⟩,hK⟩:=HAt.out;refine⟨ad,_,c,he,⟨by rw[cell_of_row _ _ _ _ _ _ hr5];rfl,by rw[cell_of_row _ _ _ _ _ _ hr5];rfl⟩,?_⟩;refine(hY ys (((y1:Int),(y2:Int)),.slice ad ns.length c) w5 (hJ _ _ _ none hJy (grown_below hb5') (fun r e=>by cases e)) (hpl1 ys hys)).mono fun e W' h => ?_
            rcases h with⟨rfl,hJ',hK'⟩ | ⟨rfl,hJx'⟩
            · refine⟨true,rfl,fun _=>⟨⟨_,?_,hJ'⟩,(hK.trans (KpR.of_below hb5' hnr)).trans hK'⟩,fun h=>(by cases h)⟩
              rw[List.map_append,hys,z5w _ _ _ _ hx,hyes];rfl
            · exact⟨false,rfl,fun h=>(by cases h),fun _=>⟨_,hJx'⟩⟩
          clear hb4 hba hpr hsw HRD HAt hyes hb3 hpl hpl1 hY
          gi_wp2_with (first
            | (refine⟨trivial,?_⟩;gi_at_call 147;refine(callsIn_wide.2 HNM.out).mono ?_;rintro e w5 ⟨ad,m,c,rfl,⟨k0,k1⟩,fn,tmps,assign,body,hy,hR⟩)
            | (refine hR.mono ?_;rintro e W3 ⟨r,rfl,hT,hF⟩))
          all_goals first
            | (intro f hf;cases hf;done)
            | (have hr:r=false:=by cases r<;>simp_all
               obtain⟨pre,hA3⟩:=hF hr;refine bodyPost_ret (results_none rfl _ _ _) rfl ?_
               exact⟨⟨_,rfl⟩,.inr ⟨_,trivial,hA3⟩⟩)
            | (have hr:r=true:=by cases r<;>simp_all
               have hA3:=hT hr
               exact⟨⟨i+1,by go_num,by omega,hA3⟩,by simp[intOf];omega⟩)
    · obtain rfl:i=us.length:=by omega
      obtain⟨⟨ys,hys,hend⟩,_⟩:=HAt.out;rw[List.take_length,<- HE.out]at hys;clear hi
      gi_wp2
      go_end0
      exact⟨⟨_,rfl⟩,.inl ⟨_,hys,hend⟩⟩
end Go.Proofs.YtnkilceibkkjlaaGreat
