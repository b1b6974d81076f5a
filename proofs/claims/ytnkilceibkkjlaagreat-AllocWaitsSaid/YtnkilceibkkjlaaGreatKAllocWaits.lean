/- What is proved here: AllocWaits' walk: true at every inpu -/
import Derived.Test.YtnkilceibkkjlaaGreatKAlWt
set_option maxRecDepth 100000
set_option maxHeartbeats 16000000
namespace Go.Proofs.YtnkilceibkkjlaaGreat
open Go.RowKit
theorem zsk{w:World}{g:Nat}{A:LAct}(h:w.heap[g]?=some (actO A)):∀ j v,A.L[j]?=some v->w.cell? ((⟨g,0,none⟩:Addr).add j)=some v:=fun j v hj=>by
 have e:(⟨g,0,none⟩:Addr).add j=⟨g,j,none⟩:=by
  by_cases h0:j=0
  ·subst h0;rfl
  ·simp[Addr.add,h0]
 rw[e,cell_of_row _ _ _ _ _ _ h];exact hj
theorem zgq{P:Program}{ops:Array Oper}{rest:List Oper}{op:Oper}{a:Act}{w:World}{Q:Exit->Act->World->Prop}(hgd:op.guard=none)(x:Operand)(ho:op.op= .move x)(h:wpList P ops Q rest (a.put op.dst (a.eval x)) w):wpList P ops Q (op::rest) a w:=
 wpList_plain hgd fun _ hK=>by
  unfold Oper.wp execOp
  simp only[ho,Sem.run_pure]
  exact hK _ _ h
theorem zye{wA w3:World}{q:Option Addr}{m n:Nat}{s t:St}(hg:AG (2*n) s)(hf:s.Fit (16*n))(hn:n<=60)(A:LAct)(hA:A.Ok) :
  ∃ (s1 s2 s3:St) (N:Nat) (E:Int) (c0 c1 c2:W4) (P:Nat × W4 × Nat) (b1 b2:Bool),c0.Ok/\P.2.1.Ok /\
  (∀ rs W,PT wA w3 q m s t rs W->Calls Tryz.prog 18 #[.pointer q,idV A.x] W fun e W'=>e= .returned (uV c0)/\PT wA w3 q m s t rs W') /\
  (∀ rs W,PT wA w3 q m s t rs W->Calls Tryz.prog 19 #[.pointer q,idV A.x,chV A.tt A.mx A.bk A.dl A.tl A.sl] W fun e W'=>e= .returned (.tuple #[.int .i64 N,.int .i64 E])/\PT wA w3 q m s1 t rs W') /\
  (∀ rs W,PT wA w3 q m s1 t rs W->Calls Tryz.prog 18 #[.pointer q,idV A.x] W fun e W'=>e= .returned (uV c1)/\PT wA w3 q m s1 t rs W') /\
  (∀ rs W,PT wA w3 q m s1 t rs W->Calls Tryz.prog 20 #[.pointer q,idV A.x] W fun e W'=>e= .returned (.tuple #[.int .i64 P.1,uV P.2.1,.int .i64 P.2.2])/\PT wA w3 q m s1 t rs W') /\
  (∀ rs W,PT wA w3 q m s1 t rs W->Calls Tryz.prog 23 #[.pointer q,idV A.x] W fun e W'=>e= .returned (.bool b1)/\PT wA w3 q m s2 t rs W') /\
  (∀ rs W,PT wA w3 q m s2 t rs W->Calls Tryz.prog 18 #[.pointer q,idV A.x] W fun e W'=>e= .returned (uV c2)/\PT wA w3 q m s2 t rs W') /\
  (∀ rs W,PT wA w3 q m s2 t rs W->Calls Tryz.prog 23 #[.pointer q,idV A.x] W fun e W'=>e= .returned (.bool b2)/\PT wA w3 q m s3 t rs W') /\
  (E≠0->c1=c0)/\(E=0->(N=0/\P.1=0/\c1=A.tt)\/(N≠0/\c1=c0/\P.2.2=N/\(P.1=1/\sumW c0 P.2.1=A.tt\/P.1=2/\subW c0 P.2.1=A.tt)/\c2=A.tt/\b1=true/\b2=false)):=by
 have hg1:=zrk hg (by omega) A.x A.tt A.mx A.bk A.dl A.tl A.sl;have hf1:=znd hf A.x A.tt A.mx A.bk A.dl A.tl A.sl;have hg2:=zy8 hg1 (by omega) A.x;have hf2:=zyv hf1 A.x;obtain⟨m1,m2⟩:=ztx hg (by omega) hA.x hA.tt A.mx A.bk A.dl A.tl A.sl
 refine⟨_,_,_,_,_,_,_,_,_,_,_,zu1 _ _,zda _ _,fun rs W h=>h.now hf (by omega) A.x hA.x,fun rs W h=>h.modify hf (by omega) hg (by omega) A hA,fun rs W h=>h.now hf1 (by omega) A.x hA.x,
  fun rs W h=>h.pend hf1 (by omega) A.x hA.x,fun rs W h=>h.zu7 hf1 (by omega) hg1 (by omega) A.x hA.x,fun rs W h=>h.now hf2 (by omega) A.x hA.x,fun rs W h=>h.zu7 hf2 (by omega) hg2 (by omega) A.x hA.x,m1,fun hE => ?_⟩
 rcases m2 hE with h | ⟨h1,h2,h3,h4,h5,h6⟩
 ·exact .inl h
 ·refine .inr ⟨h1,h2,h3,h4,h5,?_,?_⟩
  ·rcases h4 with⟨h,_⟩ | ⟨h,_⟩<;>rw[h]<;>rfl
  ·rw[h6];rfl
theorem zhs(w:World)(a:Option Addr)(c:Nat)(l:List LAct)(h:zl8 w a l)(A:LAct)(hA:A.Ok):Calls Tryz.prog 4 #[.slice a l.length c,.agg A.L] w fun e w'=>e= .returned (.bool true)/\Below w.heap.size w w':=by
 have HL:Hid (∀ W,Below w.heap.size w W->Calls Tryz.prog 14 #[] W fun e w'=>e= .returned (.bool true)/\Below w.heap.size w w'):=fun W hb=>(zfk W).mono fun e w' ⟨he,h1⟩=>⟨he,z0b hb h1⟩
 have H00:Hid (Below w.heap.size w (w.alloc (actO A))/\∀ W,Below (w.alloc (actO A)).heap.size (w.alloc (actO A)) W->Below w.heap.size w W/\W.heap[w.heap.size]?=some (actO A)):=by
  have h1:=z00 (Below.refl w.heap.size w) (actO A);exact⟨h1,fun W hb=>⟨z0b h1 hb,by rw[hb.block _ (by rw[World.size_alloc];omega)];exact heap_alloc_new w _⟩⟩
 have HN:=zh (at_new (w.alloc (actO A)));have HC:Hid (∀ wr k x,Below w.heap.size w wr->l[k]?=some x->∃ ad,a=some ad/\∀ j v,x.L[j]?=some v->wr.cell? ((ad.add (k*21)).add j)=some v):=fun wr k x hb hk=>by
  obtain⟨ad,e,h0⟩:=h.at0 k x hk;exact⟨ad,e,fun j v hj=>by rw[hb.cell (World.block_lt_of_cell? w _ (h0 j v hj))];exact h0 j v hj⟩
 have HOK:Hid (∀ (k:Nat) (x:LAct),l[k]?=some x->x.Ok):=fun k x hk=>h.ok x (List.mem_of_getElem? hk)
 have HG:Hid (∀ k,k<l.length->∃ x,l[k]?=some x):=fun k hk=>⟨_,List.getElem?_eq_getElem hk⟩
 have HEQ:Hid (∀ u:W4,∀ w,(Op.equalIn 10000 24 (uV u) (uV u)).run Tryz.prog w= .ok true w):=fun u w=>by
  have:=eqU u u w
  rwa [decide_eq_true rfl]at this
 clear h;generalize l.length=n at *
 go_enter Tryz.func4,Tryz.ntmps4;go_upto_region 1 with fail;generalize w.alloc (.cells A.L 38)=wA at *
 by_cases h60:60<n
 ·have hd:decide ((60:Int)<(n:Int))=true:=decide_eq_true (by omega);have HL1:=zh (HL.out _ H00.out.1);clear HC HOK HG HEQ HN H00 HL;go_wp2_with (go_at_call 14;refine HL1.out.mono ?_;rintro e wb ⟨rfl,h1⟩);go_ret;exact⟨rfl,h1⟩
 ·have hd:decide ((60:Int)<(n:Int))=false:=decide_eq_false (by omega);go_wp2_with fail;refine zm HN.out ?_;rintro e w2 ⟨q,rfl,hS0⟩;have H0:=zh (hS0 _ rfl);clear hS0 HN;go_upto_region 5 with fail;generalize w2.alloc (.cells #[.slice none 0 0,.slice none 0 0] 45)=w3 at *
  generalize w2.heap.size=m at *
  go_wp2_with fail
  go_loopw [27] (fun i wr=>∃ (k:Nat) (s t:St),i= .int .i64 k/\k<=n/\AQ s/\AT wA w3 q m k s t [] wr) (fun i _=>n-(intOf i).toNat)
  case atStart=>exact⟨0,_,_,rfl,by omega,AQ.empty,H0.out⟩
  case round =>
   obtain⟨k,s,t,rfl,hk,hQ,hA1⟩:=hrel;have HA:=zh hA1;have HQ:=zh hQ;clear hA1 hQ H0
   by_cases hlt:k<n
   ·obtain⟨x,hx⟩:=HG.out k hlt;obtain⟨ad,rfl,qs⟩:=HC.out wr k _ (H00.out.2 _ HA.out.z2o).1 hx;have hxo:=HOK.out k x hx;have HQS:=zh qs;clear qs;have HN:=zh (heap_alloc_new wr (.cells #[.int .i64 0,.int .i64 0,.int .i64 0,.int .i64 0,.int .i64 0,.int .u64 0,.int .u64 0,.int .u64 0,.int .u64 0,.int .u64 0,.int .u64 0,.int .u64 0,.int .u64 0,.int .i64 0,.int .i64 0,.int .i64 0,.bool false,.int .u64 0,.int .u64 0,.int .u64 0,.int .u64 0] 38));have HX5:=zh (zsq x);go_upto_region 7 with fail;go_upto_region 8 with(first | (with_reducible refine za6 (op:=⟨some 30,.load _ _,_,_,_,_⟩) rfl 38 (.tmp 29) rfl (ad.add (k*21)) ?y1 x.L HQS.out _ Tryz.underlying38 ?y2 ?y3 ?y4)|(with_reducible refine wpList_store_row (o:=⟨none,.store _ _ _,_,_,_,_⟩) rfl 38 (.tmp 8) (.tmp 30) rfl wr.heap.size x.L ?x1 ?x2 38 #[.int .i64 0,.int .i64 0,.int .i64 0,.int .i64 0,.int .i64 0,.int .u64 0,.int .u64 0,.int .u64 0,.int .u64 0,.int .u64 0,.int .u64 0,.int .u64 0,.int .u64 0,.int .i64 0,.int .i64 0,.int .i64 0,.bool false,.int .u64 0,.int .u64 0,.int .u64 0,.int .u64 0] HN.out ?x3 ?x4 HX5.out ?x5))
    case y1=>rfl
    case y2=>rfl
    case y3=>show _=some 21;kernel_rfl
    case x1=>rfl
    case x2=>rfl
    case x3=>show _=some 21;kernel_rfl
    case x4=>rfl
    rw[World.setRow_alloc_new];simp only[Act.put];have hA2:=HA.out.alloc (actO x);have hQ1:=HQ.out.act HA.out.hg (by omega) x;clear HX5 HN HQS HA HQ;generalize wr.alloc (.cells x.L 38)=w4 at *
    generalize wr.heap.size=gs at *
    have HQ2:=zh (zsk (hA2.row (g:=gs) (o:=actO x) (by simp)));have hAC:=AT.act hA2 (by omega) x hxo;obtain⟨s1,hs1⟩:∃ s1,s1=z6g s x:=⟨_,rfl⟩;obtain⟨t1,ht1⟩:∃ t1,t1=z6v t x:=⟨_,rfl⟩;rw[<- hs1,<- ht1]at hAC;rw[<- hs1]at hQ1;have HAC:=zh hAC;have HQ1:=zh hQ1;clear hs1 ht1 hAC hA2 hQ1;go_upto_region 8 with fail;refine wp_region_lit ?_;refine zgq rfl (.tmp 5) rfl ?_;refine zgq rfl (.tmp 6) rfl ?_;simp only[Act.put];refine za6 rfl 38 (.tmp 8) rfl ⟨gs,0,none⟩ ?z1 x.L HQ2.out _ Tryz.underlying38 ?z2 ?z3 ?z4
    case z1=>rfl
    case z2=>rfl
    case z3=>show _=some 21;kernel_rfl
    simp only[Act.put];go_wp2_with fail;refine zm HAC.out ?_;rintro e w5 ⟨rfl,hA5⟩;have HR:=zh (hA5.less (rs':=[]) (by simp));clear hA5 HAC HQ2;go_wp2_with fail;go_roundw
    case rel=>exact⟨k+1,s1,t1,by go_num,by omega,HQ1.out,HR.out⟩
    case measure=>simp[intOf];omega
   ·obtain rfl:k=n:=by omega
    have hP0:PT wA w3 q m s t [] wr:=HA.out.pv;have HWT:=zh (hP0.waits HA.out.fs (by omega) A.x.1 A.x.2.1 (hA.x _ (by simp)) (hA.x _ (by simp)));have hd8:decide ((8:Int)<(((ends s 33 [A.x.1,A.x.2.1]).2-(ends s 33 [A.x.1,A.x.2.1]).1:Nat):Int))=false:=decide_eq_false (by have:=HQ.out A.x.1 A.x.2.1;omega);obtain⟨s1,s2,s3,N,E,c0,c1,c2,⟨p1,p2,p3⟩,b1,b2,hc0,hp2,hN0,hMD,hN1,hPE,hM1,hN2,hM2,hE0,hE1⟩:=zye (wA:=wA) (w3:=w3) (q:=q) (m:=m) (t:=t) HA.out.hg HA.out.fs (by omega) A hA;have HAO:=zh hA;have HN0:=zh hN0;have HMD:=zh hMD;have HN1:=zh hN1;have HPE:=zh hPE;have HM1:=zh hM1;have HN2:=zh hN2;have HM2:=zh hM2;have HE0:=zh hE0;have HE1:=zh hE1;have HOC:=zh hc0;have HOP:=zh hp2;clear hN0 hMD hN1 hPE hM1 hN2 hM2 hE0 hE1 hc0 hp2 HG HC HOK HQ hd;generalize (ends s 33 [A.x.1,A.x.2.1]).2-(ends s 33 [A.x.1,A.x.2.1]).1=d8 at *
    obtain⟨_,⟨x0,x1,x2,x3⟩,_⟩:=z8i (H00.out.2 _ hP0.z2o).2;clear hP0 HA hA;go_wp2_with fail;refine zm HWT.out ?_;rintro e w5 ⟨rfl,hP5⟩;clear x0 x1 x2 x3;obtain⟨_,⟨x0,x1,x2,x3⟩,_⟩:=z8i (H00.out.2 _ hP5.z2o).2;have HC5:=zh (HN0.out _ _ hP5);clear hP5 HWT;go_wp2_with fail;refine zm HC5.out ?_;rintro e w6 ⟨rfl,hP6⟩;have HP7:=zh (hP6.alloc (uO c0));clear hP6 HC5 x0 x1 x2 x3 hd8;go_upto_region 13 with fail;generalize w6.alloc (uO c0)=w7 at *
    generalize w6.heap.size=g9 at *
    obtain⟨_,⟨x0,x1,x2,x3⟩,⟨t0,t1,t2,t3⟩,⟨y0,y1,y2,y3⟩,⟨z0,z1,z2,z3⟩,_⟩:=z8i (H00.out.2 _ HP7.out.z2o).2;have HC7:=zh (HMD.out _ _ HP7.out);clear HP7;go_wp2_with fail;refine zm HC7.out ?_;rintro e w8 ⟨rfl,hP8⟩;clear HC7 x0 x1 x2 x3 t0 t1 t2 t3 y0 y1 y2 y3 z0 z1 z2 z3;obtain⟨_,⟨x0,x1,x2,x3⟩,_⟩:=z8i (H00.out.2 _ hP8.z2o).2;have HC8:=zh (HN1.out _ _ hP8);clear hP8;go_wp2_with fail;refine zm HC8.out ?_;rintro e w9 ⟨rfl,hP9⟩;have HP10:=zh (hP9.alloc (uO c1));clear hP9 HC8 x0 x1 x2 x3;go_upto_region 15 with fail;generalize w9.alloc (uO c1)=w10 at *
    generalize w9.heap.size=g12 at *
    obtain⟨_,⟨x0,x1,x2,x3⟩,_⟩:=z8i (H00.out.2 _ HP10.out.z2o).2;have HC10:=zh (HPE.out _ _ HP10.out);clear HP10;go_wp2_with fail;refine zm HC10.out ?_;rintro e w11 ⟨rfl,hP11⟩;have HP12:=zh (hP11.alloc (uO p2));clear hP11 HC10 x0 x1 x2 x3;go_upto_region 16 with fail;generalize w11.alloc (uO p2)=w12 at *
    generalize w11.heap.size=g14 at *
    obtain⟨u0,u1,u2,u3,_⟩:=row4 (HP12.out.row (g:=g9) (o:=uO c0) (by simp));obtain⟨v0,v1,v2,v3,_⟩:=row4 (HP12.out.row (g:=g12) (o:=uO c1) (by simp))
    by_cases hE:E=0
    ·subst hE;rcases HE1.out rfl with⟨hN,hp1,hc1⟩ | ⟨hN,hc1,hp3,hw,hc2,hb1,hb2⟩
     ·subst hN hc1;have hp1:p1=0:=hp1;subst hp1;obtain⟨_,_,⟨t0,t1,t2,t3⟩,_⟩:=z8i (H00.out.2 _ HP12.out.z2o).2;have hq:=HEQ.out A.tt;have HL1:=zh (HL.out _ (H00.out.2 _ HP12.out.z2o).1);clear HP12 HL HEQ H00 HN0 HMD HN1 HPE HM1 HN2 HM2 HE0 HE1 HOC HOP HAO u0 u1 u2 u3;go_wp2_with fail;refine zm HL1.out ?_;rintro e w13 ⟨rfl,h1⟩;have HB:=zh h1;clear h1 HL1;go_wp2_with fail;go_ret;exact⟨rfl,HB.out⟩
     ·subst hc1 hc2 hb1 hb2;have hp3:p3=N:=hp3;subst hp3;have hq:=HEQ.out c1;have hn1:(p3==0)=false:=beq_eq_false_iff_ne.2 hN;have hn2:((p3:Int)==0)=false:=beq_eq_false_iff_ne.2 (by omega);have HO2:=zh HP12.out.z2o;obtain⟨r0,r1,r2,r3,_⟩:=row4 (HP12.out.row (g:=g14) (o:=uO p2) (by simp));rcases hw with⟨hp1,hs⟩ | ⟨hp1,hs⟩
      ·have hp1:p1=1:=hp1;subst hp1;have hs:toW (uN c1+uN p2)=A.tt:=hs;have HAD:Hid (∀ W,Calls Tryz.prog 21 #[uV c1,uV p2] W fun e w'=>e= .returned (.tuple #[uV A.tt,.bool (toB (uN c1+uN p2))])/\Below W.heap.size W w'):=fun W=>by
        rw[<- hs];exact zl6 c1 p2 HOC.out HOP.out W
       have HC12:=zh (HP12.out.plain (HAD.out _));clear HP12 HAD hs;generalize toB (uN c1+uN p2)=bb at *
       go_wp2_with fail;refine zm HC12.out ?_;rintro e w13 ⟨rfl,hP13⟩;have HP14:=zh (hP13.alloc (uO A.tt));clear HC12 hP13 u0 u1 u2 u3 v0 v1 v2 v3 r0 r1 r2 r3 hq HO2;go_upto_region 23 with fail;generalize w13.alloc (uO A.tt)=w14 at *
       generalize w13.heap.size=g16 at *
       have HPD:=zh HP14.out.drew;clear HP14;go_upto_region 25 with fail;refine z06 [[],[],[1],[2],[0,3],[4],[5],[5],[5,7],[5,6,8],[5,9],[9,10],[11],[11],[11,13],[9,11,12,14],[11],[11,16],[11,17],[11,15,18],[11,19],[9,15,20],[21],[21],[21,23],[9,15,21,22,24],[21,25],[21,26],[9,15,25,27],[9,15,25,28],[28,29],[30]]
        [uV A.tt,.pointer (some ⟨w.heap.size,5,none⟩),.pointer (some ⟨w.heap.size,5,none⟩),uV A.tt,.bool true,.bool true,.pointer q,.pointer (some ⟨w.heap.size,1,none⟩),idV A.x,.bool true,.bool true,.bool true,.pointer q,.pointer (some ⟨w.heap.size,1,none⟩),idV A.x,uV A.tt,.pointer (some ⟨w.heap.size,5,none⟩),.pointer (some ⟨w.heap.size,5,none⟩),uV A.tt,.bool true,.bool true,.bool true,.pointer q,.pointer (some ⟨w.heap.size,1,none⟩),idV A.x,.bool false,.bool true,.bool true,.bool true,.bool true,.bool true,.bool true]
        [9,15,25,29] (WPh wA w3 q m s1 s2 s3 t [(g16,uO A.tt),(g14,uO p2),(g12,uO c1),(g9,uO c1)]) _ (by kernel_rfl) (by kernel_rfl) (by kernel_rfl)
        (fun vs=>by simp only[z14,z1a,List.setIfInBounds_toArray,List.set_cons_zero,List.set_cons_succ];exact rfl)
        (by simp only[List.getD_cons_zero,List.getD_cons_succ];exact rfl) HPD.out ?_ ?_
       ·exact⟨
        fun _ _ _ _ hP _=>z0p rfl rfl rfl (hP.row (by simp)) ⟨rfl,hP⟩,
        fun _ _ _ _ hP _=>zg2 rfl rfl rfl ⟨rfl,hP⟩,
        fun _ _ _ hA hP _=>zkx rfl rfl hA.1 ⟨rfl,hP⟩,
        fun _ _ _ hA hP _=>zbe rfl rfl hA.1 (zrz (H00.out.2 _ hP.z2o).2) ⟨rfl,hP⟩,
        fun _ _ _ hA hP _=>zgk rfl rfl hA.1 hA.2.1 ⟨rfl,hP⟩,
        fun _ _ _ hA hP _=>z0a rfl (.inl rfl) hA.1 ⟨rfl,hP⟩,
        fun _ _ _ hA hP _=>z0a (z0l rfl rfl rfl hA.1) (.inl rfl) rfl ⟨rfl,hP⟩,
        fun _ _ _ hA hP _=>zdl (z0l rfl rfl rfl hA.1) rfl rfl ⟨rfl,hP⟩,
        fun _ _ _ hA hP _=>z4k (z0l rfl rfl rfl hA.1) rfl hA.2.1 (H00.out.2 _ hP.z2o).2 ⟨rfl,hP⟩,
        fun _ _ _ hA hP hq=>by cases hq 0 rfl;exact z0m (z0l rfl rfl rfl hA.1) rfl rfl (by kernel_rfl) (rgL2 hA.2.1 hA.2.2.1) (HM1.out _ _ hP) fun _ hP2=>⟨rfl,hP2⟩,
        fun _ _ _ hA hP _=>z7r rfl rfl hA.1 hA.2.1 ⟨rfl,hP⟩,
        fun _ _ _ hA hP _=>z0a rfl (.inl rfl) hA.2.1 ⟨rfl,hP⟩,
        fun _ _ _ hA hP _=>z0a (z0l rfl rfl rfl hA.1) (.inl rfl) rfl ⟨rfl,hP⟩,
        fun _ _ _ hA hP _=>zdl (z0l rfl rfl rfl hA.1) rfl rfl ⟨rfl,hP⟩,
        fun _ _ _ hA hP _=>z4k (z0l rfl rfl rfl hA.1) rfl hA.2.1 (H00.out.2 _ hP.z2o).2 ⟨rfl,hP⟩,
        fun _ _ _ hA hP hq=>by cases hq 1 rfl;exact z0m (z0l rfl rfl rfl hA.2.1) rfl rfl (by kernel_rfl) (rgL2 hA.2.2.1 hA.2.2.2.1) (HN2.out _ _ hP) fun _ hP2=>⟨rfl,hP2⟩,
        fun _ _ _ hA hP _=>zg2 (z0l rfl rfl rfl hA.1) rfl rfl ⟨rfl,hP⟩,
        fun _ _ _ hA hP _=>zkx (z0l rfl rfl rfl hA.1) rfl hA.2.1 ⟨rfl,hP⟩,
        fun _ _ _ hA hP _=>zbe (z0l rfl rfl rfl hA.1) rfl hA.2.1 (zrz (H00.out.2 _ hP.z2o).2) ⟨rfl,hP⟩,
        fun _ _ _ hA hP _=>zgk (z0l rfl rfl rfl hA.1) rfl hA.2.1 hA.2.2.1 ⟨rfl,hP⟩,
        fun _ _ _ hA hP _=>z7r rfl rfl hA.1 hA.2.1 ⟨rfl,hP⟩,
        fun _ _ _ hA hP _=>z0a rfl (.inl rfl) hA.2.2.1 ⟨rfl,hP⟩,
        fun _ _ _ hA hP _=>z0a (z0l rfl rfl rfl hA.1) (.inl rfl) rfl ⟨rfl,hP⟩,
        fun _ _ _ hA hP _=>zdl (z0l rfl rfl rfl hA.1) rfl rfl ⟨rfl,hP⟩,
        fun _ _ _ hA hP _=>z4k (z0l rfl rfl rfl hA.1) rfl hA.2.1 (H00.out.2 _ hP.z2o).2 ⟨rfl,hP⟩,
        fun _ _ _ hA hP hq=>by cases hq 2 rfl;exact z0m (z0l rfl rfl rfl hA.2.2.1) rfl rfl (by kernel_rfl) (rgL2 hA.2.2.2.1 hA.2.2.2.2.1) (HM2.out _ _ hP) fun _ hP2=>⟨rfl,hP2⟩,
        fun _ _ _ hA hP _=>zuj (z0l rfl rfl rfl hA.1) rfl hA.2.1 ⟨rfl,hP⟩,
        fun _ _ _ hA hP _=>z7r rfl rfl hA.1 hA.2.1 ⟨rfl,hP⟩,
        fun _ _ _ hA hP _=>z0a rfl (.inl rfl) hA.2.2.2.1 ⟨rfl,hP⟩,
        fun _ _ _ hA hP hq=>by cases hq 3 rfl;exact z0m (z0l rfl rfl rfl hA.2.2.2.1) rfl rfl (by kernel_rfl) rfl (PT.plain hP (zfk _)) fun _ hP2=>⟨rfl,hP2⟩,
        fun _ _ _ hA hP _=>z7r rfl rfl hA.1 hA.2.1 ⟨rfl,hP⟩,
        fun _ _ _ hA hP _=>z0a rfl (.inr rfl) hA.1 ⟨rfl,hP⟩,
        trivial⟩
       intro w15 hW;have HB:=zh (H00.out.2 _ (WPh.z2o (p:=4) hW)).1;clear hW HPD H00 HN0 HMD HN1 HPE HM1 HN2 HM2 HE0 HE1 HOC HOP HAO HL HEQ;go_wp2_with fail;go_ret;exact⟨rfl,HB.out⟩
      ·have hp1:p1=2:=hp1;subst hp1;have HAD:Hid (∀ W,Calls Tryz.prog 21 #[uV c1,uV p2] W fun e w'=>e= .returned (.tuple #[uV (toW (uN c1+uN p2)),.bool (toB (uN c1+uN p2))])/\Below W.heap.size W w'):=fun W=>zl6 c1 p2 HOC.out HOP.out W
       have HSB:Hid (∀ W,Calls Tryz.prog 22 #[uV c1,uV p2] W fun e w'=>e= .returned (.tuple #[uV A.tt,.bool (subB c1 p2)])/\Below W.heap.size W w'):=fun W=>by
        rw[<- hs];exact za5 c1 p2 HOC.out HOP.out W
       have HC12:=zh (HP12.out.plain (HAD.out _));clear HP12 HAD hs;generalize toW (uN c1+uN p2)=su at *
       generalize toB (uN c1+uN p2)=bb at *
       generalize subB c1 p2=sb at *
       go_wp2_with fail;refine zm HC12.out ?_;rintro e w13 ⟨rfl,hP13⟩;have HNE:Hid (g14≠w13.heap.size/\g12≠w13.heap.size/\g9≠w13.heap.size):=⟨Nat.ne_of_lt (z02 (hP13.row (g:=g14) (o:=uO p2) (by simp))),Nat.ne_of_lt (z02 (hP13.row (g:=g12) (o:=uO c1) (by simp))),Nat.ne_of_lt (z02 (hP13.row (g:=g9) (o:=uO c1) (by simp)))⟩;have HP14:=zh (hP13.alloc (uO su));clear HC12 hP13 u0 u1 u2 u3 v0 v1 v2 v3 r0 r1 r2 r3 hq HO2;go_upto_region 24 with fail;generalize w13.alloc (uO su)=w14 at *
       generalize w13.heap.size=g16 at *
       obtain⟨u0,u1,u2,u3,_⟩:=row4 (HP14.out.row (g:=g9) (o:=uO c1) (by simp));obtain⟨r0,r1,r2,r3,_⟩:=row4 (HP14.out.row (g:=g14) (o:=uO p2) (by simp));have HC14:=zh (HP14.out.plain (HSB.out _));clear HP14 HSB;go_wp2_with fail;refine zm HC14.out ?_;rintro e w15 ⟨rfl,hP15⟩;clear HC14 u0 u1 u2 u3 r0 r1 r2 r3;obtain⟨u0,u1,u2,u3,uf⟩:=row4 (hP15.row (g:=g16) (o:=uO su) (by simp))
       have HPD:=zh (PT.drew (hP15.put4 (g:=g16) (y:=su) A.tt (by simp) [(g14,uO p2),(g12,uO c1),(g9,uO c1)] (by
        intro y hy;simp only[List.mem_cons,List.not_mem_nil,or_false]at hy;rcases hy with rfl | rfl | rfl
        ·exact⟨by simp,HNE.out.1⟩
        ·exact⟨by simp,HNE.out.2.1⟩
        ·exact⟨by simp,HNE.out.2.2⟩)))
       clear hP15;go_upto_region 25 with fail;generalize (((w15.setCell ⟨g16,0,none⟩ (.int .u64 A.tt.1)).setCell ⟨g16,1,none⟩ (.int .u64 A.tt.2.1)).setCell ⟨g16,2,none⟩ (.int .u64 A.tt.2.2.1)).setCell ⟨g16,3,none⟩ (.int .u64 A.tt.2.2.2)=w16 at *
       clear u0 u1 u2 u3 uf;refine z06 [[],[],[1],[2],[0,3],[4],[5],[5],[5,7],[5,6,8],[5,9],[9,10],[11],[11],[11,13],[9,11,12,14],[11],[11,16],[11,17],[11,15,18],[11,19],[9,15,20],[21],[21],[21,23],[9,15,21,22,24],[21,25],[21,26],[9,15,25,27],[9,15,25,28],[28,29],[30]]
        [uV A.tt,.pointer (some ⟨w.heap.size,5,none⟩),.pointer (some ⟨w.heap.size,5,none⟩),uV A.tt,.bool true,.bool true,.pointer q,.pointer (some ⟨w.heap.size,1,none⟩),idV A.x,.bool true,.bool true,.bool true,.pointer q,.pointer (some ⟨w.heap.size,1,none⟩),idV A.x,uV A.tt,.pointer (some ⟨w.heap.size,5,none⟩),.pointer (some ⟨w.heap.size,5,none⟩),uV A.tt,.bool true,.bool true,.bool true,.pointer q,.pointer (some ⟨w.heap.size,1,none⟩),idV A.x,.bool false,.bool true,.bool true,.bool true,.bool true,.bool true,.bool true]
        [9,15,25,29] (WPh wA w3 q m s1 s2 s3 t [(g16,uO A.tt),(g14,uO p2),(g12,uO c1),(g9,uO c1)]) _ (by kernel_rfl) (by kernel_rfl) (by kernel_rfl)
        (fun vs=>by simp only[z14,z1a,List.setIfInBounds_toArray,List.set_cons_zero,List.set_cons_succ];exact rfl)
        (by simp only[List.getD_cons_zero,List.getD_cons_succ];exact rfl) HPD.out ?_ ?_
       ·exact⟨
        fun _ _ _ _ hP _=>z0p rfl rfl rfl (hP.row (by simp)) ⟨rfl,hP⟩,
        fun _ _ _ _ hP _=>zg2 rfl rfl rfl ⟨rfl,hP⟩,
        fun _ _ _ hA hP _=>zkx rfl rfl hA.1 ⟨rfl,hP⟩,
        fun _ _ _ hA hP _=>zbe rfl rfl hA.1 (zrz (H00.out.2 _ hP.z2o).2) ⟨rfl,hP⟩,
        fun _ _ _ hA hP _=>zgk rfl rfl hA.1 hA.2.1 ⟨rfl,hP⟩,
        fun _ _ _ hA hP _=>z0a rfl (.inl rfl) hA.1 ⟨rfl,hP⟩,
        fun _ _ _ hA hP _=>z0a (z0l rfl rfl rfl hA.1) (.inl rfl) rfl ⟨rfl,hP⟩,
        fun _ _ _ hA hP _=>zdl (z0l rfl rfl rfl hA.1) rfl rfl ⟨rfl,hP⟩,
        fun _ _ _ hA hP _=>z4k (z0l rfl rfl rfl hA.1) rfl hA.2.1 (H00.out.2 _ hP.z2o).2 ⟨rfl,hP⟩,
        fun _ _ _ hA hP hq=>by cases hq 0 rfl;exact z0m (z0l rfl rfl rfl hA.1) rfl rfl (by kernel_rfl) (rgL2 hA.2.1 hA.2.2.1) (HM1.out _ _ hP) fun _ hP2=>⟨rfl,hP2⟩,
        fun _ _ _ hA hP _=>z7r rfl rfl hA.1 hA.2.1 ⟨rfl,hP⟩,
        fun _ _ _ hA hP _=>z0a rfl (.inl rfl) hA.2.1 ⟨rfl,hP⟩,
        fun _ _ _ hA hP _=>z0a (z0l rfl rfl rfl hA.1) (.inl rfl) rfl ⟨rfl,hP⟩,
        fun _ _ _ hA hP _=>zdl (z0l rfl rfl rfl hA.1) rfl rfl ⟨rfl,hP⟩,
        fun _ _ _ hA hP _=>z4k (z0l rfl rfl rfl hA.1) rfl hA.2.1 (H00.out.2 _ hP.z2o).2 ⟨rfl,hP⟩,
        fun _ _ _ hA hP hq=>by cases hq 1 rfl;exact z0m (z0l rfl rfl rfl hA.2.1) rfl rfl (by kernel_rfl) (rgL2 hA.2.2.1 hA.2.2.2.1) (HN2.out _ _ hP) fun _ hP2=>⟨rfl,hP2⟩,
        fun _ _ _ hA hP _=>zg2 (z0l rfl rfl rfl hA.1) rfl rfl ⟨rfl,hP⟩,
        fun _ _ _ hA hP _=>zkx (z0l rfl rfl rfl hA.1) rfl hA.2.1 ⟨rfl,hP⟩,
        fun _ _ _ hA hP _=>zbe (z0l rfl rfl rfl hA.1) rfl hA.2.1 (zrz (H00.out.2 _ hP.z2o).2) ⟨rfl,hP⟩,
        fun _ _ _ hA hP _=>zgk (z0l rfl rfl rfl hA.1) rfl hA.2.1 hA.2.2.1 ⟨rfl,hP⟩,
        fun _ _ _ hA hP _=>z7r rfl rfl hA.1 hA.2.1 ⟨rfl,hP⟩,
        fun _ _ _ hA hP _=>z0a rfl (.inl rfl) hA.2.2.1 ⟨rfl,hP⟩,
        fun _ _ _ hA hP _=>z0a (z0l rfl rfl rfl hA.1) (.inl rfl) rfl ⟨rfl,hP⟩,
        fun _ _ _ hA hP _=>zdl (z0l rfl rfl rfl hA.1) rfl rfl ⟨rfl,hP⟩,
        fun _ _ _ hA hP _=>z4k (z0l rfl rfl rfl hA.1) rfl hA.2.1 (H00.out.2 _ hP.z2o).2 ⟨rfl,hP⟩,
        fun _ _ _ hA hP hq=>by cases hq 2 rfl;exact z0m (z0l rfl rfl rfl hA.2.2.1) rfl rfl (by kernel_rfl) (rgL2 hA.2.2.2.1 hA.2.2.2.2.1) (HM2.out _ _ hP) fun _ hP2=>⟨rfl,hP2⟩,
        fun _ _ _ hA hP _=>zuj (z0l rfl rfl rfl hA.1) rfl hA.2.1 ⟨rfl,hP⟩,
        fun _ _ _ hA hP _=>z7r rfl rfl hA.1 hA.2.1 ⟨rfl,hP⟩,
        fun _ _ _ hA hP _=>z0a rfl (.inl rfl) hA.2.2.2.1 ⟨rfl,hP⟩,
        fun _ _ _ hA hP hq=>by cases hq 3 rfl;exact z0m (z0l rfl rfl rfl hA.2.2.2.1) rfl rfl (by kernel_rfl) rfl (PT.plain hP (zfk _)) fun _ hP2=>⟨rfl,hP2⟩,
        fun _ _ _ hA hP _=>z7r rfl rfl hA.1 hA.2.1 ⟨rfl,hP⟩,
        fun _ _ _ hA hP _=>z0a rfl (.inr rfl) hA.1 ⟨rfl,hP⟩,
        trivial⟩
       intro w17 hW;have HB:=zh (H00.out.2 _ (WPh.z2o (p:=4) hW)).1;clear hW HPD H00 HN0 HMD HN1 HPE HM1 HN2 HM2 HE0 HE1 HOC HOP HAO HL HEQ;go_wp2_with fail;go_ret;exact⟨rfl,HB.out⟩
    ·obtain rfl:=HE0.out hE;have hE2:(E != 0)=true:=bne_iff_ne.2 hE;have hq:=HEQ.out c1;have HL1:=zh (HL.out _ (H00.out.2 _ HP12.out.z2o).1);clear HP12 HL HEQ H00 HN0 HMD HN1 HPE HM1 HN2 HM2 HE0 HE1 HOC HOP HAO;go_wp2_with fail;refine zm HL1.out ?_;rintro e w13 ⟨rfl,h1⟩;have HB:=zh h1;clear h1 HL1;go_wp2_with fail;go_ret;exact⟨rfl,HB.out⟩
end Go.Proofs.YtnkilceibkkjlaaGreat
namespace Go.Proofs.YtnkilceibkkjlaaGreat.allocWaits
open Go.ChangeShapes Go.WideShapes Go.ChangeAt Go.RowKit
set_option linter.unusedVariables false
theorem params:Tryz.f4.params=#[32,38]:=rfl
theorem lifted(os:Os)(started:os.Started)(H:Type)(enc:TypeId × Value->H) :
  ReturnsInHanded {} Tryz.checked os 4 .any (Rows.allocWaitsSpec.pre6 enc Tryz.prog Tryz.f4 Rows.allocWaitsRow.domain false) (Rows.allocWaitsSpec.post enc Tryz.prog Tryz.f4 false true false false):=by
 refine returnsInHanded_of_change (C:=Tryz.checked) own started (by kernel_rfl) Tryz.func4
  (ChangeSpec.witness6 (enc:=enc) (C:=Tryz.checked) false ⟨#[],#[.slice none 0 0,.agg #[.int .i64 0,.int .i64 0,.int .i64 0,.int .i64 0,.int .i64 0,.int .u64 0,.int .u64 0,.int .u64 0,.int .u64 0,.int .u64 0,.int .u64 0,.int .u64 0,.int .u64 0,.int .i64 0,.int .i64 0,.int .i64 0,.bool false,.int .u64 0,.int .u64 0,.int .u64 0,.int .u64 0]],[]⟩ 8 (by kernel_rfl) (by kernel_rfl) (by kernel_rfl) (by kernel_rfl)) ?_
 intro W base args ds gs before hval0 hW hcnd _;have hval:∀ (j:Nat) t v,Tryz.f4.params[j]?=some t->args[j]?=some v->Value.okWide Tryz.prog W .any base t v:=hval0;have hW':=hW;obtain⟨p,q,hA0,hV,rfl,hfz,hnd⟩:=hW;have hA:DataW.TrodAll enc Tryz.prog W 0 (fun _=>true) true Tryz.f4.params.toList args.toList ds p:=hA0;rw[params]at hA hval;obtain⟨v0,vs0,d0,ds0,p0,q0,hargs,rfl,rfl,h0,r0⟩:=trodAll_cons hA;obtain⟨v1,vs1,d1,ds1,p1,q1,rfl,rfl,rfl,h1,r1⟩:=trodAll_cons r0;obtain⟨rfl,rfl,rfl⟩:=trodAll_nil r1;obtain rfl:args=#[v0,v1]:=by cases args;simp_all
 obtain⟨rfl,rfl⟩:=trodVars_none hV;obtain⟨l0,a0,c0,rfl,hl0⟩:=zie (hval 0 32 v0 rfl rfl) h0;obtain⟨A1,rfl,hA1⟩:=zmi (hval 1 38 v1 rfl rfl) h1;clear hA0 hval0;refine(zhs W a0 c0 l0 hl0 A1 hA1).mono fun e W' ⟨he,hg⟩ => ?_
 subst he;exact⟨_,rfl,znu laid (tb:=4) (by kernel_rfl) rfl (ztp (by kernel_rfl)) rfl hW' rfl hg⟩
theorem over:Rows.allocWaitsRow.holds Tryz.pinned (OpenSpec.ofChange Rows.allocWaitsSpec):=
 OpenClaim.holds_of_wide 4 Tryz.f4 rfl rfl rfl rfl rfl rfl rfl ⟨rfl,rfl,rfl,rfl,rfl⟩ rfl rfl rfl rfl rfl (by kernel_rfl) Tryz.func4 (by kernel_rfl)
  (of_decide_eq_true (by kernel_rfl)) (by unfold Func.isWrapper;first | (rw[if_pos (by decide +kernel)];kernel_rfl)|(rw[if_neg (by decide +kernel)];exact⟨rfl,rfl⟩))
  (fun os started H enc _=>lifted os started H enc)
theorem proved:Rows.AllocWaitsSaid:=
 over
#print axioms proved
end Go.Proofs.YtnkilceibkkjlaaGreat.allocWaits
