/- What is proved here: alloc's grow, over a store behind a  -/
import Derived.Test.YtnkilceibkkjlaaGreatJAlW
set_option maxRecDepth 100000
set_option maxHeartbeats 16000000
namespace Go.Proofs.YtnkilceibkkjlaaGreat
open Go.RowKit
abbrev chO(a b:W4)(x y z:Int)(t:Bool):Obj:=.cells (chL a b x y z t) 36
structure zny (W:World) (g:Nat) (a b:W4) (x y z:Int) (t:Bool):Prop where
 a0:W.cell? ⟨g,0,none⟩=some (.int .u64 a.1)
 a1:W.cell? ⟨g,1,none⟩=some (.int .u64 a.2.1)
 a2:W.cell? ⟨g,2,none⟩=some (.int .u64 a.2.2.1)
 a3:W.cell? ⟨g,3,none⟩=some (.int .u64 a.2.2.2)
 b0:W.cell? ⟨g,4,none⟩=some (.int .u64 b.1)
 b1:W.cell? ⟨g,5,none⟩=some (.int .u64 b.2.1)
 b2:W.cell? ⟨g,6,none⟩=some (.int .u64 b.2.2.1)
 b3:W.cell? ⟨g,7,none⟩=some (.int .u64 b.2.2.2)
 x8:W.cell? ⟨g,8,none⟩=some (.int .i64 x)
 y9:W.cell? ⟨g,9,none⟩=some (.int .i64 y)
 za:W.cell? ⟨g,10,none⟩=some (.int .i64 z)
 tb:W.cell? ⟨g,11,none⟩=some (.bool t)
theorem z3i{W:World}{g:Nat}{a b:W4}{x y z:Int}{t:Bool}(h:W.heap[g]?=some (chO a b x y z t)):zny W g a b x y z t:=by
 constructor<;>(rw[cell_of_row _ _ _ _ _ _ h];rfl)
theorem zpb{ops:Array Oper}{o:Oper}{a:Act}{w:World}{K:Value->World->Prop}{x:Operand}{g:Nat}(hg:Region.wanted o (yielded ops a.tmps)=true)(ho:o.op= .fieldAddr 36 x 0)(hx:a.eval x= .pointer (some ⟨g,0,none⟩))(hk:K (.pointer (some ⟨g,0,none⟩)) w):rgDo Tryz.prog ops o a w K:=by
 refine z0o hg ?_ hk;unfold execOp;simp only[ho,hx]
 go_simp
theorem zg0{ops:Array Oper}{o:Oper}{a:Act}{w:World}{K:Value->World->Prop}{x:Operand}{g:Nat}{tt mx:W4}{bk dl tl:Int}{sl:Bool}(hg:Region.wanted o (yielded ops a.tmps)=true)(ho:o.op= .load 24 x)(hx:a.eval x= .pointer (some ⟨g,0,none⟩))(hr:w.heap[g]?=some (chO tt mx bk dl tl sl))(hk:K (uV tt) w):rgDo Tryz.prog ops o a w K:=
 zlo hg ho hx ⟨(z3i hr).a0,(z3i hr).a1,(z3i hr).a2,(z3i hr).a3⟩ hk
def grA(s:St)(x:I4)(y:W4):W4:=sumW (s.amt (aAll x)) y
def z8n(s:St)(x:I4)(mx y:W4):Bool:=!sumB (s.amt (aAll x)) y||decide (0<uCmp (grA s x y) mx)
def grS1(s:St)(x:I4)(y:W4):St:=s.z0d (aAll x) (grA s x y)
def grN(s:St)(x:I4)(mx y:W4)(bk dl:Nat):Nat:=if z8n s x mx y then 0 else if dl=0 then 0 else bk+dl
def grE(s:St)(x:I4)(mx y:W4)(bk dl:Nat):Int:=if z8n s x mx y then 13 else if dl=0 then 0 else z4g (bk+dl)
def grSt(s:St)(x:I4)(tt mx y:W4)(bk dl:Nat):St:=if z8n s x mx y then s else if dl=0 then(grS1 s x y).z0d (aKey 29 x) tt else z1i (grS1 s x y) x 1 y (bk+dl)
theorem zz7(w:World)(h:Hand)(s:St)(f bk dl:Nat)(tl:Int)(x:I4)(tt mx y:W4)(sl:Bool)(hon:h.on=true)(hx:∀ n∈x.l,0<=n/\n<9223372036854775808)(hmx:mx.Ok)(hyo:y.Ok)(hq:QSt w h s)(hf:s.Fit f)(hm:f<10000000)(hbk:bk<=1099511627776)(hdl:dl<=1099511627776)
  (hkey:∀ z∈(z14 (grS1 s x y) x 1 y (bk+dl)).ents,z.1.size<1000000000000) (h27:(z2d (z14 (grS1 s x y) x 1 y (bk+dl)) (bk+dl) x.l).int K27<1000000000000) :
  Calls Tryz.prog 70 #[idV x,.pointer h.ptr,chV tt mx bk dl tl sl,uV y] w fun e w'=>e= .returned (.tuple #[.int .i64 (grN s x mx y bk dl),.int .i64 (grE s x mx y bk dl)])/\QOn w h (grSt s x tt mx y bk dl) w':=by
 have hxo:x.Ok:=fun n hn=>(hx n hn).2
 have hB:=(((HV.start hq).alloc (aO x)).alloc (chO tt mx bk dl tl sl)).alloc (uO y);simp only[World.size_alloc]at hB;have hst:∀ s1 s2:St,h.st s1 s2=s2:=fun s1 s2=>by unfold Hand.st;rw[hon];rfl
 have hf1:(grS1 s x y).Fit (f+2):=hf.z0d _ _;have hz:s.size<1000000000000:=Nat.lt_of_le_of_lt hf.size (by omega);have hz1:(grS1 s x y).size<1000000000000:=Nat.lt_of_le_of_lt hf1.size (by omega);have HAL:Hid (∀ W,Calls Tryz.prog 82 #[idV x] W fun e w'=>e= .returned (.string (aAll x))/\Below W.heap.size W w'):=fun W=>zbn x hxo W
 have HAM:Hid (∀ rs W,HV h w s rs W->Calls Tryz.prog 64 #[.pointer h.ptr,.string (aAll x)] W fun e w'=>e= .returned (uV (s.amt (aAll x)))/\Below W.heap.size W w'):=fun rs W hV=>hV.camt hf (by omega) (aAll x)
 have HAD:Hid (∀ W,Calls Tryz.prog 79 #[uV (s.amt (aAll x)),uV y] W fun e w'=>e= .returned (.tuple #[uV (grA s x y),.bool (sumB (s.amt (aAll x)) y)])/\Below W.heap.size W w'):=fun W=>zft _ _ (zb9 _ _) hyo W
 have HCM:Hid (∀ rs W,HV h w s rs W->Calls Tryz.prog 58 #[uV (grA s x y),uV mx] W fun e w'=>e= .returned (.int .i64 (uCmp (grA s x y) mx))/\HV h w s rs w'):=fun rs W hV=>(z5e _ mx (zi7 _) hmx W).mono fun e w' ⟨he,hb⟩=>⟨he,hV.below hb⟩
 have HSA:Hid (∀ rs W,HV h w s rs W->Calls Tryz.prog 81 #[.pointer h.ptr,.string (aAll x),uV (grA s x y)] W fun e w'=>e= .returned (.tuple #[])/\HV h w (grS1 s x y) rs w'):=fun rs W hV=>by
  have:=hV.cset hz (aAll x) (grA s x y);rw[hst]at this;exact this
 have HK29:Hid (∀ W,Calls Tryz.prog 65 #[idV x,.int .i64 29] W fun e w'=>e= .returned (.string (aKey 29 x))/\Below W.heap.size W w'):=fun W=>z5u 29 (by decide) (by decide) x hxo W
 have HS29:Hid (∀ rs W,HV h w (grS1 s x y) rs W->Calls Tryz.prog 81 #[.pointer h.ptr,.string (aKey 29 x),uV tt] W fun e w'=>e= .returned (.tuple #[])/\HV h w ((grS1 s x y).z0d (aKey 29 x) tt) rs w'):=fun rs W hV=>by
  have:=hV.cset hz1 (aKey 29 x) tt;rw[hst]at this;exact this
 have HWT:Hid (∀ rs W,HV h w (grS1 s x y) rs W->Calls Tryz.prog 143 #[idV x,.pointer h.ptr,.int .i64 1,uV y,.int .i64 ((bk+dl:Nat):Int)] W fun e w'=>e= .returned (.int .i64 (z4g (bk+dl)))/\HV h w (z1i (grS1 s x y) x 1 y (bk+dl)) rs w'):=fun rs W hV =>
  QV.call hV fun L' h1=>zuo W ⟨h.ptr,h.on,L'⟩ (grS1 s x y) (f+2) 1 (bk+dl) x y hon hx h1 hf1 (by omega) (by decide) (by omega) hkey h27
 have hlaw:(z8n s x mx y=true->grN s x mx y bk dl=0/\grE s x mx y bk dl=13/\grSt s x tt mx y bk dl=s)/\(z8n s x mx y=false->dl=0->grN s x mx y bk dl=0/\grE s x mx y bk dl=0/\grSt s x tt mx y bk dl=(grS1 s x y).z0d (aKey 29 x) tt)/\(z8n s x mx y=false->dl≠0->((grN s x mx y bk dl:Nat):Int)=((bk+dl:Nat):Int)/\grE s x mx y bk dl=z4g (bk+dl)/\grSt s x tt mx y bk dl=z1i (grS1 s x y) x 1 y (bk+dl)):=by
  unfold grN grE grSt;refine⟨fun hb => ?_,fun hb h0 => ?_,fun hb h0 => ?_⟩
  ·rw[if_pos hb,if_pos hb,if_pos hb];exact⟨rfl,rfl,rfl⟩
  ·simp[hb,h0]
  ·simp[hb,h0]
 have HLAW:=zh hlaw;have HBAD:Hid (z8n s x mx y=(!sumB (s.amt (aAll x)) y||decide (0<uCmp (grA s x y) mx))):=rfl;have hsum:wrap64 ((bk:Int)+(dl:Int))=((bk+dl:Nat):Int):=by unfold wrap64;omega
 have HB:=zh hB;have hdn:∀ h0:dl≠0,(((dl:Nat):Int)==0)=false:=fun h0=>beq_eq_false_iff_ne.2 (by omega)
 have HDN:=zh hdn;clear hlaw hB hst hf1 hz hz1 hq hf hx hxo hmx hyo hm hon hbk hdl hkey h27 hdn;generalize grN s x mx y bk dl=rN at *
 generalize grE s x mx y bk dl=rE at *
 generalize grSt s x tt mx y bk dl=rS at *
 generalize z1i (grS1 s x y) x 1 y (bk+dl)=sW at *
 generalize z4g (bk+dl)=we at *
 generalize ((bk+dl:Nat):Int)=bd at *
 generalize (grS1 s x y).z0d (aKey 29 x) tt=s29 at *
 generalize grS1 s x y=s1 at *
 generalize z8n s x mx y=bad at *
 generalize uCmp (grA s x y) mx=rc at *
 generalize sumB (s.amt (aAll x)) y=sb at *
 generalize grA s x y=sm at *
 generalize s.amt (aAll x)=eA at *
 generalize aAll x=kA at *
 generalize aKey 29 x=k29 at *
 go_enter Tryz.func70,Tryz.ntmps70;go_upto_region 1 with fail;generalize ((w.alloc (aO x)).alloc (chO tt mx bk dl tl sl)).alloc (uO y)=wA at *
 obtain⟨g,hg⟩:∃ g,g=w.heap.size:=⟨_,rfl⟩;rw[<- hg]at HB ⊢;clear hg;have HB0:=zh (z0i (Below.refl wA.heap.size wA));refine z1e [[],[],[1],[0,1,2],[],[0,1,2,3,4],[0,1,2,3,4,5],[0,1,2,3,4,5,6],[0,1,2,3,4,5,6],[],[0,1,2,3,4,5,6,7,9],[0,1,2,3,4,5,6,7,8,9,10]]
  [rgC (Below wA.heap.size wA),rgV 0 (.pointer h.ptr),rgV 1 (idV x),rgV 2 (.string kA),rgV 3 (uV eA),rgV 4 (uV y),rgV 5 (.tuple #[uV sm,.bool sb]),rgV 6 (.tuple #[uV sm,.bool sb]),rgV 7 (uV sm),rgV 8 (.bool sb),rgP 9 (wA.heap.size),rgV 11 (.bool sb),rgS 9 10 (sm)] _ (by kernel_rfl) (by kernel_rfl) (by kernel_rfl)
  (fun vs=>by simp only[z0z,z1b,List.setIfInBounds_toArray,List.set_cons_zero,List.set_cons_succ];exact rfl)
  ⟨fun _ _ _ hb h=>z09 h hb,z0h,z0h,z0h,z0h,z0h,z0h,z0h,z0h,z0h,zb0,z0h,zb8,trivial⟩ ?_ ?_ ?_
 ·refine z3k rfl HB0.out ?_;iterate 12 refine z4o rfl ?_
  exact trivial
 ·refine⟨?_,?_,?_,?_,?_,?_,?_,?_,?_,?_,?_,?_,trivial⟩
  ·intro vs w2 hA K hK;obtain⟨_,_⟩:=hA;refine z0c rfl (.inl rfl) rfl (hK _ _ (.inl zb) ?_);exact z06 1
  ·intro vs w2 hA K hK;obtain⟨hC,_⟩:=hA;refine z1x rfl rfl rfl ((HB.out.below hC).row (g:=g) (o:=aO x) (by simp)) (hK _ _ (.inl zb) ?_);exact z06 2
  ·intro vs w2 hA K hK;obtain⟨_,e1,_⟩:=hA;refine z5j rfl rfl rfl (by kernel_rfl) (show [vs 1]=_ from by rw[rg1 e1]) (zm (HAL.out _) ?_);rintro e w2 ⟨rfl,hb⟩;refine⟨_,rfl,hK _ _ (.inl hb) ?_⟩;exact z06 3
  ·intro vs w2 hA K hK;obtain⟨hC,e0,_,e2,_⟩:=hA;refine z5j rfl rfl rfl (by kernel_rfl) (show [vs 0,vs 2]=_ from by rw[rg1 e0,rg1 e2]) (zm (HAM.out _ _ (HB.out.below hC)) ?_);rintro e w2 ⟨rfl,hb⟩;refine⟨_,rfl,hK _ _ (.inl hb) ?_⟩;exact z06 4
  ·intro vs w2 hA K hK;obtain⟨hC,_⟩:=hA;refine z0q rfl rfl rfl ((HB.out.below hC).u4 (g:=g+1+1) (x:=y) (by simp)) (hK _ _ (.inl zb) ?_);exact z06 5
  ·intro vs w2 hA K hK;obtain⟨_,_,_,_,e3,e4,_⟩:=hA;refine z5j rfl rfl rfl (by kernel_rfl) (show [vs 3,vs 4]=_ from by rw[rg1 e3,rg1 e4]) (zm (HAD.out _) ?_);rintro e w2 ⟨rfl,hb⟩;refine⟨_,rfl,hK _ _ (.inl hb) ?_⟩;exact z06 6
  ·intro vs w2 hA K hK;obtain⟨_,_,_,_,_,_,e5,_⟩:=hA;refine z0c rfl (.inl rfl) (rg1 e5) (hK _ _ (.inl zb) ?_);exact z06 7
  ·intro vs w2 hA K hK;obtain⟨_,_,_,_,_,_,_,e6,_⟩:=hA;refine z0w rfl rfl (rg1 e6) rfl (hK _ _ (.inl zb) ?_);exact z06 8
  ·intro vs w2 hA K hK;obtain⟨_,_,_,_,_,_,_,e6,_⟩:=hA;refine z0w rfl rfl (rg1 e6) rfl (hK _ _ (.inl zb) ?_);exact z06 9
  ·intro vs w2 hA K hK;obtain⟨hC,_⟩:=hA;refine z4w rfl rfl (hK _ _ (.inl (z00 zb _)) ?_);iterate 10 refine z0u rfl ?_
   refine z19 rfl (fun _=>⟨_,_,rfl,hC.size,heap_alloc_new _ _⟩) ?_;iterate 2 refine z0u rfl ?_
   exact trivial
  ·intro vs w2 hA K hK;obtain⟨hC,_,_,_,_,_,_,_,e7,⟨_,_,e9,h9,g9⟩,_⟩:=hA;refine z2w rfl rfl (rg1 e9) (rg1 e7) g9 (hK _ _ (.inr ?_) ?_)
   ·refine z0n rfl (fun hC _=>bput hC h9) ?_;iterate 9 refine z0n rfl (fun h _=>h) ?_
    refine z0n rfl (fun h _=>z6a h) ?_;iterate 2 refine z3a rfl ?_
    exact trivial
   ·iterate 12 refine z0u rfl ?_
    refine z19 rfl (fun _=>⟨_,_,by show [vs 9,undef]=_;rw[rg1 e9],setRow_heap _ _ _ _ _ _ g9⟩) ?_;exact trivial
  ·intro vs w2 hA K hK;obtain⟨_,_,_,_,_,_,_,_,_,e8,_,_,_⟩:=hA;refine z0c rfl (.inr rfl) (rg1 e8) (hK _ _ (.inl zb) ?_);exact z06 11
 ·intro vs w2 hA;obtain⟨hC,e0,e1,e2,e3,e4,e5,e6,e7,e8,⟨p9,_,e9,h9,g9⟩,e11,s10,_⟩:=hA;have e0:=rg1 e0;have e1:=rg1 e1;have e2:=rg1 e2;have e3:=rg1 e3;have e4:=rg1 e4;have e5:=rg1 e5;have e6:=rg1 e6;have e7:=rg1 e7;have e8:=rg1 e8;have e9:=rg1 e9;have e11:=rg1 e11;have s10:=zaz s10 e9;simp only[e0,e1,e2,e3,e4,e5,e6,e7,e8,e9,e11];have HB2:=zh (HB.out.add1 hC h9 s10);clear e0 e1 e2 e3 e4 e5 e6 e7 e8 e11 g9 s10 h9 hC HAM HAD HB0 HB;cases sb with
  | false =>
   have hL:=HLAW.out.1 (by rw[HBAD.out];rfl);have HL:=zh hL;clear hL HLAW HBAD HCM HSA HK29 HS29 HWT HAL;go_wp2_with fail;exact bodyPost_ret_by (results_tmp2 rfl _ _ _) rfl ⟨by rw[HL.out.1,HL.out.2.1];rfl,by rw[HL.out.2.2];exact HV.done HB2.out⟩
  | true =>
   obtain⟨m0,m1,m2,m3,_⟩:=row4 (HB2.out.u4 (g:=p9) (x:=sm) (by simp));obtain⟨a0,a1,a2,a3,b0,b1,b2,b3,x8,y9,za,tb⟩:=z3i (HB2.out.row (g:=g+1) (o:=chO tt mx bk dl tl sl) (by simp));go_wp2_with fail;refine zm (HCM.out _ _ HB2.out) ?_;rintro e w3 ⟨rfl,hB3⟩;clear m0 m1 m2 m3 a0 a1 a2 a3 b0 b1 b2 b3 x8 y9 za tb HCM HB2
   by_cases hrc:0<rc
   ·have hgt:decide ((0:Int)<rc)=true:=decide_eq_true hrc;have HL:=zh (HLAW.out.1 (by rw[HBAD.out,hgt];rfl));have HB3:=zh hB3;clear HLAW HBAD hB3;go_wp2_with fail;exact bodyPost_ret_by (results_tmp2 rfl _ _ _) rfl ⟨by rw[HL.out.1,HL.out.2.1];rfl,by rw[HL.out.2.2];exact HV.done HB3.out⟩
   ·have hgt:decide ((0:Int)<rc)=false:=decide_eq_false hrc;have HL:=zh (HLAW.out.2 |>.imp (fun k=>k (by rw[HBAD.out,hgt];rfl)) (fun k=>k (by rw[HBAD.out,hgt];rfl)));have HB3:=zh hB3;clear HLAW HBAD hB3;go_upto_region 4 with fail;have HP0:Hid (SqPh h w s s1 [(p9,uO sm),(g+1+1,uO y),(g+1,chO tt mx bk dl tl sl),(g,aO x)] 0 w3.drew):=HB3.out.drew;clear HB3;refine z05 [[],[],[1],[],[0,2,3]]
     [.pointer h.ptr,idV x,.string kA,uV sm,.tuple #[]]
     [4] (SqPh h w s s1 [(p9,uO sm),(g+1+1,uO y),(g+1,chO tt mx bk dl tl sl),(g,aO x)]) _ (by kernel_rfl) (by kernel_rfl) (by kernel_rfl)
     (fun vs=>by simp only[z0z,z1b,List.setIfInBounds_toArray,List.set_cons_zero,List.set_cons_succ];exact rfl)
     (by simp only[List.getD_cons_zero,List.getD_cons_succ];exact rfl) HP0.out ?_ ?_
    ·exact⟨
     fun _ _ _ _ hP _=>z0c rfl (.inl rfl) rfl ⟨rfl,hP⟩,
     fun _ _ _ _ hP _=>z1x rfl rfl rfl (SqPh.row (g:=g) (o:=aO x) hP (by simp)) ⟨rfl,hP⟩,
     fun _ _ w1 hA hP _=>z0m rfl rfl rfl (by kernel_rfl) (rgL1 hA.1) ((HAL.out w1).mono fun _ _ hh=>And.intro hh.1 (SqPh.below hP hh.2)) fun _ hP2=>⟨rfl,hP2⟩,
     fun _ _ _ _ hP _=>z0q rfl rfl rfl (SqPh.row (g:=p9) (o:=uO sm) hP (by simp)) ⟨rfl,hP⟩,
     fun _ _ _ hA hP hq=>by cases hq 0 rfl;exact z0m rfl rfl rfl (by kernel_rfl) (rgL3 hA.1 hA.2.1 hA.2.2.1) (HSA.out _ _ hP) fun _ hP2=>⟨rfl,hP2⟩,
     trivial⟩
    ·intro W4 hW4;have hV4:HV h w s1 [(p9,uO sm),(g+1+1,uO y),(g+1,chO tt mx bk dl tl sl),(g,aO x)] W4:=hW4;obtain⟨a0,a1,a2,a3,b0,b1,b2,b3,x8,y9,za,tb⟩:=z3i (hV4.row (g:=g+1) (o:=chO tt mx bk dl tl sl) (by simp));have HV4:=zh hV4;clear hW4 hV4 HP0 HSA HAL b0 b1 b2 b3 za tb
     by_cases h0:dl=0
     ·have hd0:(((dl:Nat):Int)==0)=true:=by rw[h0];rfl
      have HLL:=zh (HL.out.1 h0);clear HL h0 HDN hsum HWT;go_upto_region 6 with fail;have HP1:Hid (SqPh h w s1 s29 [(p9,uO sm),(g+1+1,uO y),(g+1,chO tt mx bk dl tl sl),(g,aO x)] 0 W4.drew):=HV4.out.drew;clear HV4 a0 a1 a2 a3 x8 y9;refine z05 [[],[],[1],[],[3],[0,2,4]]
       [.pointer h.ptr,idV x,.string k29,.pointer (some ⟨g+1,0,none⟩),uV tt,.tuple #[]]
       [5] (SqPh h w s1 s29 [(p9,uO sm),(g+1+1,uO y),(g+1,chO tt mx bk dl tl sl),(g,aO x)]) _ (by kernel_rfl) (by kernel_rfl) (by kernel_rfl)
       (fun vs=>by simp only[z0z,z1b,List.setIfInBounds_toArray,List.set_cons_zero,List.set_cons_succ];exact rfl)
       (by simp only[List.getD_cons_zero,List.getD_cons_succ];exact rfl) HP1.out ?_ ?_
      ·exact⟨
       fun _ _ _ _ hP _=>z0c rfl (.inl rfl) rfl ⟨rfl,hP⟩,
       fun _ _ _ _ hP _=>z1x rfl rfl rfl (SqPh.row (g:=g) (o:=aO x) hP (by simp)) ⟨rfl,hP⟩,
       fun _ _ w1 hA hP _=>z0m rfl rfl rfl (by kernel_rfl) (rgL2 hA.1 rfl) ((HK29.out w1).mono fun _ _ hh=>And.intro hh.1 (SqPh.below hP hh.2)) fun _ hP2=>⟨rfl,hP2⟩,
       fun _ _ _ _ hP _=>zpb rfl rfl rfl ⟨rfl,hP⟩,
       fun _ _ _ hA hP _=>zg0 rfl rfl hA.1 (SqPh.row (g:=g+1) (o:=chO tt mx bk dl tl sl) hP (by simp)) ⟨rfl,hP⟩,
       fun _ _ _ hA hP hq=>by cases hq 0 rfl;exact z0m rfl rfl rfl (by kernel_rfl) (rgL3 hA.1 hA.2.1 hA.2.2.1) (HS29.out _ _ hP) fun _ hP2=>⟨rfl,hP2⟩,
       trivial⟩
      ·intro W5 hW5;have HR:Hid (QOn w h s29 W5):=HV.done (rs:=[(p9,uO sm),(g+1+1,uO y),(g+1,chO tt mx bk dl tl sl),(g,aO x)]) hW5
       clear hW5 HP1 HK29 HS29;go_wp2_with fail;exact bodyPost_ret_by (results_tmp2 rfl _ _ _) rfl ⟨by rw[HLL.out.1,HLL.out.2.1];rfl,by rw[HLL.out.2.2];exact HR.out⟩
     ·have hd0:=HDN.out h0;have HLL:=zh (HL.out.2 h0);obtain⟨i0,i1,i2,i3⟩:=z0a (x:=x) (HV4.out.row (g:=g) (o:=aO x) (by simp));obtain⟨y0,y1,y2,y3,_⟩:=row4 (HV4.out.u4 (g:=g+1+1) (x:=y) (by simp));clear HL h0 HDN HK29 HS29;go_wp2_with fail;refine zm (HWT.out _ _ HV4.out) ?_;rintro e W5 ⟨rfl,hV5⟩;have HR:=zh (HV.done hV5);clear hV5 HV4 HWT;go_wp2_with fail;exact bodyPost_ret_by (results_tmp2 rfl _ _ _) rfl ⟨by rw[HLL.out.1,HLL.out.2.1];rfl,by rw[HLL.out.2.2];exact HR.out⟩
theorem zxz{ops:Array Oper}{o:Oper}{a:Act}{w:World}{K:Value->World->Prop}{x:Operand}{g:Nat}(hg:Region.wanted o (yielded ops a.tmps)=true)(ho:o.op= .fieldAddr 34 x 2)(hx:a.eval x= .pointer (some ⟨g,0,none⟩))(hk:K (.pointer (some ⟨g,2,none⟩)) w):rgDo Tryz.prog ops o a w K:=by
 refine z0o hg ?_ hk;unfold execOp;simp only[ho,hx]
 go_simp
theorem zzf{ops:Array Oper}{o:Oper}{a:Act}{w:World}{K:Value->World->Prop}{x:Operand}{g:Nat}(hg:Region.wanted o (yielded ops a.tmps)=true)(ho:o.op= .fieldAddr 34 x 3)(hx:a.eval x= .pointer (some ⟨g,0,none⟩))(hk:K (.pointer (some ⟨g,3,none⟩)) w):rgDo Tryz.prog ops o a w K:=by
 refine z0o hg ?_ hk;unfold execOp;simp only[ho,hx]
 go_simp
def shW(sl:Bool)(tl:Nat):Bool:=sl&&decide (0<tl)
def shPE(s:St)(x:I4):Int:=z9y s 33 [x.1,x.2.1] 8
def shP(s:St)(x:I4):St:=z3q s 33 [x.1,x.2.1] 8 [x.2.2.1,x.2.2.2]
def shSE(s:St)(x:I4)(y:W4):Int:=z3c (s.amt (aAll x)) y
def shS1(s:St)(x:I4)(y:W4):St:=if shSE s x y=0 then s.z0d (aAll x) (subW (s.amt (aAll x)) y)else s
def shN(s:St)(x:I4)(bk tl:Nat)(sl:Bool):Nat:=if shW sl tl then(if shPE s x=0 then bk+tl else 0)else 0
def shE(s:St)(x:I4)(y:W4)(bk tl:Nat)(sl:Bool):Int:=if shW sl tl then(if shPE s x=0 then z4g (bk+tl)else shPE s x)else shSE s x y
def shSt(s:St)(x:I4)(tt y:W4)(bk tl:Nat)(sl:Bool):St:=if shW sl tl then(if shPE s x=0 then z1i (shP s x) x 2 y (bk+tl)else shP s x)else(if shSE s x y=0 then(shS1 s x y).z0d (aKey 29 x) tt else shS1 s x y)
theorem zn4{s:St}{f:Nat}(hf:s.Fit f)(t:Nat)(l:List Int)(a b:Int):(z2c s t l a b).Fit (f+2):=by
 unfold z2c;refine hf.put _ ?_;split
 ·exact z16 _ (by simp)
 ·exact z16 _ (by simp)
theorem zez{s:St}{f:Nat}(hf:s.Fit f)(t:Nat)(l:List Int)(most:Nat)(r:List Int)(hr:r.length<=100000):(z3q s t l most r).Fit (f+4):=by
 unfold z3q;split
 ·exact hf.mono (by omega)
 ·exact zn4 (hf.put _ (z16 _ hr)) _ _ _ _
def ShI(h:Hand)(w wA:World)(x:I4)(s1:St)(rs:List (Nat × Obj))(b2 b7 b8:Bool)(v2 v7:Value)(W:World):Prop:=
 (b8=false->Below wA.heap.size wA W/\(b2=true->∃ q,v2= .slice (some ⟨q,0,none⟩) 2 2/\wA.heap.size<=q/\W.heap[q]?=some (q2O x))/\(b7=true->∃ q,v7= .slice (some ⟨q,0,none⟩) 2 2/\wA.heap.size<=q/\W.heap[q]?=some (.cells #[.int .i64 x.2.2.1,.int .i64 x.2.2.2] 3)))/\(b8=true->HV h w s1 rs W)
theorem ShI.to{h:Hand}{w wA W W':World}{x:I4}{s1:St}{rs:List (Nat × Obj)}{b2 b7 b8 c2 c7:Bool}{v2 v7 u2 u7:Value}(hI:ShI h w wA x s1 rs b2 b7 b8 v2 v7 W)(h8:b8=false)(hb:Below W.heap.size W W')(k2:c2=true->(b2=true/\u2=v2)\/∃ q,u2= .slice (some ⟨q,0,none⟩) 2 2/\wA.heap.size<=q/\W'.heap[q]?=some (q2O x))
  (k7:c7=true->(b7=true/\u7=v7)\/∃ q,u7= .slice (some ⟨q,0,none⟩) 2 2/\wA.heap.size<=q/\W'.heap[q]?=some (.cells #[.int .i64 x.2.2.1,.int .i64 x.2.2.2] 3)):ShI h w wA x s1 rs c2 c7 b8 u2 u7 W':=by
 refine⟨fun _ => ?_,fun e=>by rw[h8]at e;cases e⟩;obtain⟨h1,h2,h7⟩:=hI.1 h8;refine⟨z09 h1 hb,fun e => ?_,fun e => ?_⟩
 ·rcases k2 e with⟨e2,rfl⟩ | k
  ·obtain⟨q,e1,e3,e4⟩:=h2 e2;exact⟨q,e1,e3,(hb.block q (z01 e4)).trans e4⟩
  ·exact k
 ·rcases k7 e with⟨e2,rfl⟩ | k
  ·obtain⟨q,e1,e3,e4⟩:=h7 e2;exact⟨q,e1,e3,(hb.block q (z01 e4)).trans e4⟩
  ·exact k
theorem lie2{w:World}{g:Nat}{a b:Int}(h:w.heap[g]?=some (.cells #[.int .i64 a,.int .i64 b] 3 (0,0))):zcj w g [a,b]:=fun j z hj=>by
 rw[cell_of_row _ _ _ _ _ _ h]
 match j,hj with
 | 0,hj=>cases hj;rfl
 | 1,hj=>cases hj;rfl
theorem zs8(w:World)(h:Hand)(s:St)(f bk tl:Nat)(dl:Int)(x:I4)(tt mx y:W4)(sl:Bool)(hon:h.on=true)(hx:∀ n∈x.l,0<=n/\n<9223372036854775808)(hyo:y.Ok)(hq:QSt w h s)(hf:s.Fit f)(hm:f<10000000)(hbk:bk<=1099511627776)(htl:tl<=1099511627776)
  (heb:(ends s 33 [x.1,x.2.1]).2<4611686018427387904) (hkey:∀ z∈(z14 (shP s x) x 2 y (bk+tl)).ents,z.1.size<1000000000000) (h27:(z2d (z14 (shP s x) x 2 y (bk+tl)) (bk+tl) x.l).int K27<1000000000000) :
  Calls Tryz.prog 72 #[idV x,.pointer h.ptr,chV tt mx bk dl tl sl,uV y] w fun e w'=>e= .returned (.tuple #[.int .i64 (shN s x bk tl sl),.int .i64 (shE s x y bk tl sl)])/\QOn w h (shSt s x tt y bk tl sl) w':=by
 have hxo:x.Ok:=fun n hn=>(hx n hn).2
 have hB:=(((HV.start hq).alloc (aO x)).alloc (chO tt mx bk dl tl sl)).alloc (uO y);simp only[World.size_alloc]at hB;have hst:∀ s1 s2:St,h.st s1 s2=s2:=fun s1 s2=>by unfold Hand.st;rw[hon];rfl
 have hfP:(shP s x).Fit (f+4):=zez hf _ _ _ _ (by simp);have hf1:(shS1 s x y).Fit (f+2):=by
  unfold shS1;split
  ·exact hf.z0d _ _
  ·exact hf.mono (by omega)
 have hz1:(shS1 s x y).size<1000000000000:=Nat.lt_of_le_of_lt hf1.size (by omega)
 have hl2:IdOk [x.1,x.2.1]:=⟨by simp,fun n hn=>hxo n (by
  simp only[List.mem_cons,List.not_mem_nil,or_false]at hn ⊢
  rcases hn with rfl | rfl<;>simp)⟩
 have hl0:∀ n∈[x.1,x.2.1],0<=n:=fun n hn=>(hx n (by
  simp only[List.mem_cons,List.not_mem_nil,or_false]at hn ⊢
  rcases hn with rfl | rfl<;>simp)).1
 have hr0:∀ n∈[x.2.2.1,x.2.2.2],0<=n/\n<9223372036854775808:=fun n hn=>hx n (by
  simp only[List.mem_cons,List.not_mem_nil,or_false]at hn ⊢
  rcases hn with rfl | rfl<;>simp)
 have HAL:Hid (∀ W,Calls Tryz.prog 82 #[idV x] W fun e w'=>e= .returned (.string (aAll x))/\Below W.heap.size W w'):=fun W=>zbn x hxo W
 have HQU:Hid (∀ W,Calls Tryz.prog 84 #[idV x] W fun e w'=>e= .returned (.slice (some ⟨W.heap.size+1,0,none⟩) 2 2)/\w'=(W.alloc (aO x)).alloc (q2O x)):=fun W=>zec x W
 have HPU:Hid (∀ rs wA W q2 q7,HV h w s rs wA->Below wA.heap.size wA W->wA.heap.size<=q2->W.heap[q2]?=some (q2O x)->wA.heap.size<=q7->W.heap[q7]?=some (.cells #[.int .i64 x.2.2.1,.int .i64 x.2.2.2] 3)->Calls Tryz.prog 145 #[.pointer h.ptr,.int .i64 33,.slice (some ⟨q2,0,none⟩) 2 2,.int .i64 8,.slice (some ⟨q7,0,none⟩) 2 2] W fun e w'=>e= .returned (.int .i64 (shPE s x))/\HV h w (shP s x) rs w'):=fun rs wA W q2 q7 hV hb h2 r2 h7 r7=>by
  have hV2:HV h w s ([(q2,q2O x),(q7,.cells #[.int .i64 x.2.2.1,.int .i64 x.2.2.2] 3)]++rs) W:=hV.addl hb _ (fun g o hm=>by
   simp only[List.mem_cons,List.not_mem_nil,or_false,Prod.mk.injEq]at hm;rcases hm with⟨rfl,rfl⟩ | ⟨rfl,rfl⟩
   ·exact⟨h2,r2⟩
   ·exact⟨h7,r7⟩)
  refine(QV.zma hV2 (s':=shP s x) (f:=145) (args:=#[.pointer h.ptr,.int .i64 33,.slice (some ⟨q2,0,none⟩) 2 2,.int .i64 8,.slice (some ⟨q7,0,none⟩) 2 2]) (E:=fun e=>e= .returned (.int .i64 (shPE s x))) fun L' h1 hn => ?_).mono fun e w' ⟨he,hV3⟩=>⟨he,hV3.less fun y hy=>by simp[hy]⟩
  exact zsp 33 (by decide) (by decide) W ⟨h.ptr,h.on,L'⟩ s f (some ⟨q2,0,none⟩) 2 [x.1,x.2.1] 8 q7 2 [x.2.2.1,x.2.2.2] hon h1 hf (by omega) (zkf r2) hl2 hl0 (fun k hk=>by
   have hk':q2=k:=by simpa [Value.ownBlock]using hk
   subst hk'
   exact hn _ (q2O x) (by simp)) (lie2 r7) (hn _ (.cells #[.int .i64 x.2.2.1,.int .i64 x.2.2.2] 3) (by simp)) (by simp) (by simp) hr0 (by decide) heb
 have HWT:Hid (∀ rs W,HV h w (shP s x) rs W->Calls Tryz.prog 143 #[idV x,.pointer h.ptr,.int .i64 2,uV y,.int .i64 ((bk+tl:Nat):Int)] W fun e w'=>e= .returned (.int .i64 (z4g (bk+tl)))/\HV h w (z1i (shP s x) x 2 y (bk+tl)) rs w'):=fun rs W hV =>
  QV.call hV fun L' h1=>zuo W ⟨h.ptr,h.on,L'⟩ (shP s x) (f+4) 2 (bk+tl) x y hon hx h1 hfP (by omega) (by decide) (by omega) hkey h27
 have HSB:Hid (∀ rs W,HV h w s rs W->Calls Tryz.prog 88 #[.pointer h.ptr,.string (aAll x),uV y] W fun e w'=>e= .returned (.int .i64 (shSE s x y))/\HV h w (shS1 s x y) rs w'):=fun rs W hV=>by
  have:=hV.csub hf (by omega) (aAll x) hyo;unfold Hand.ze7 at this;rw[hst]at this;exact this
 have HK29:Hid (∀ W,Calls Tryz.prog 65 #[idV x,.int .i64 29] W fun e w'=>e= .returned (.string (aKey 29 x))/\Below W.heap.size W w'):=fun W=>z5u 29 (by decide) (by decide) x hxo W
 have HS29:Hid (∀ rs W,HV h w (shS1 s x y) rs W->Calls Tryz.prog 81 #[.pointer h.ptr,.string (aKey 29 x),uV tt] W fun e w'=>e= .returned (.tuple #[])/\HV h w ((shS1 s x y).z0d (aKey 29 x) tt) rs w'):=fun rs W hV=>by
  have:=hV.cset hz1 (aKey 29 x) tt;rw[hst]at this;exact this
 have HLAW:Hid ((shW sl tl=true->(shPE s x=0->((shN s x bk tl sl:Nat):Int)=((bk+tl:Nat):Int)/\shE s x y bk tl sl=z4g (bk+tl)/\shSt s x tt y bk tl sl=z1i (shP s x) x 2 y (bk+tl))/\(shPE s x≠0->shN s x bk tl sl=0/\shE s x y bk tl sl=shPE s x/\shSt s x tt y bk tl sl=shP s x)) /\
   (shW sl tl=false->(shSE s x y=0->shN s x bk tl sl=0/\shE s x y bk tl sl=0/\shSt s x tt y bk tl sl=(shS1 s x y).z0d (aKey 29 x) tt)/\(shSE s x y≠0->shN s x bk tl sl=0/\shE s x y bk tl sl=shSE s x y/\shSt s x tt y bk tl sl=shS1 s x y))):=by
  unfold shN shE shSt;refine⟨fun hb=>⟨fun h0 => ?_,fun h0 => ?_⟩,fun hb=>⟨fun h0 => ?_,fun h0 => ?_⟩⟩<;>simp[hb,h0]
 have HWW:Hid (shW sl tl=(sl&&decide (0<tl))):=rfl;have hsum:wrap64 ((bk:Int)+(tl:Int))=((bk+tl:Nat):Int):=by unfold wrap64;omega
 have HB:=zh hB;clear hB hst hfP hf1 hz1 hl2 hl0 hr0 hq hf hx hxo hyo hm hon hbk htl hkey h27 heb;generalize shN s x bk tl sl=rN at *
 generalize shE s x y bk tl sl=rE at *
 generalize shSt s x tt y bk tl sl=rS at *
 generalize z1i (shP s x) x 2 y (bk+tl)=sW at *
 generalize z4g (bk+tl)=we at *
 generalize ((bk+tl:Nat):Int)=bd at *
 generalize (shS1 s x y).z0d (aKey 29 x) tt=s29 at *
 generalize shS1 s x y=s1 at *
 generalize shSE s x y=se at *
 generalize shPE s x=pe at *
 generalize shP s x=sP at *
 generalize shW sl tl=wb at *
 generalize aAll x=kA at *
 generalize aKey 29 x=k29 at *
 go_enter Tryz.func72,Tryz.ntmps72;go_upto_region 1 with fail;generalize ((w.alloc (aO x)).alloc (chO tt mx bk dl tl sl)).alloc (uO y)=wA at *
 obtain⟨g,hg⟩:∃ g,g=w.heap.size:=⟨_,rfl⟩;rw[<- hg]at HB ⊢;clear hg;obtain⟨a0,a1,a2,a3,b0,b1,b2,b3,x8,y9,za,tb⟩:=z3i (HB.out.row (g:=g+1) (o:=chO tt mx bk dl tl sl) (by simp))
 by_cases hsw:sl=true/\0<tl
 ·obtain⟨hsl,htl⟩:=hsw;rw[hsl]at tb;have hgt:decide ((0:Int)<(tl:Int))=true:=decide_eq_true (by omega);have hgn:(0<tl)=True:=eq_true htl;have hgd:decide (0<tl)=true:=decide_eq_true htl;have HL:=zh (HLAW.out.1 (by rw[HWW.out,hsl,decide_eq_true htl];rfl));clear HLAW HWW htl HSB HK29 HS29 HAL;go_upto_region 2 with fail;have H0:Hid (ShI h w wA x sP [(g+1+1,uO y),(g+1,chO tt mx bk dl tl sl),(g,aO x)] false false false undef undef wA.drew):=⟨fun _=>⟨z0i zb,fun e=>(by cases e),fun e=>(by cases e)⟩,fun e=>(by cases e)⟩;have HRW:Hid (∀ W,Below wA.heap.size wA W->W.heap[g]?=some (aO x)):=fun W hb=>(HB.out.below hb).row (by simp)
  refine z8q [[],[],[1],[],[3],[],[5],[3,4,5,6],[0,1,2,3,4,5,6,7],[0,1,2,3,4,5,6,7,8]]
   [.pointer h.ptr,idV x,undef,.pointer (some ⟨g,2,none⟩),.int .i64 x.2.2.1,.pointer (some ⟨g,3,none⟩),.int .i64 x.2.2.2,undef,.int .i64 pe,.int .i64 pe] [2,7]
   (fun L vs W=>ShI h w wA x sP [(g+1+1,uO y),(g+1,chO tt mx bk dl tl sl),(g,aO x)] (L 2) (L 7) (L 8) (vs 2) (vs 7) W) _ (by kernel_rfl) (by kernel_rfl) (by kernel_rfl)
   (fun vs=>by simp only[z0z,z1b,List.setIfInBounds_toArray,List.set_cons_zero,List.set_cons_succ];exact rfl)
   (fun vs=>by exact rfl) H0.out ?_ ?_
  ·refine⟨?_,?_,?_,?_,?_,?_,?_,?_,?_,?_,trivial⟩
   ·intro L vs W hA hI hp hk hq;exact z0c rfl (.inl rfl) rfl ⟨rfl,hI⟩
   ·intro L vs W hA hI hp hk hq;exact z1x rfl rfl rfl (HRW.out W (hI.1 (hq 8 rfl)).1) ⟨rfl,hI⟩
   ·intro L vs W hA hI hp hk hq;obtain⟨e1,_⟩:=hA;have e1:vs 1=idV x:=e1;have h8:L 8=false:=hq 8 rfl;refine z5j rfl rfl rfl (by kernel_rfl) (show [vs 1]=_ from by rw[e1]) (zm (HQU.out W) ?_);rintro e w2 ⟨rfl,rfl⟩;have hb:=z00 (z00 (Below.refl W.heap.size W) (aO x)) (q2O x);have hn:=heap_alloc_new (W.alloc (aO x)) (q2O x);rw[World.size_alloc]at hn;exact⟨_,rfl,trivial,hI.to h8 hb (fun _ => .inr ⟨_,rfl,Nat.le_trans (hI.1 h8).1.size (Nat.le_succ _),hn⟩) (fun e => .inl ⟨e,rfl⟩)⟩
   ·intro L vs W hA hI hp hk hq;exact zxz rfl rfl rfl ⟨rfl,hI⟩
   ·intro L vs W hA hI hp hk hq;obtain⟨e3,_⟩:=hA;have e3:vs 3= .pointer (some ⟨g,2,none⟩):=e3;exact zl1 rfl rfl e3 (z0a (HRW.out W (hI.1 (hq 8 rfl)).1)).2.2.1 ⟨rfl,hI⟩
   ·intro L vs W hA hI hp hk hq;exact zzf rfl rfl rfl ⟨rfl,hI⟩
   ·intro L vs W hA hI hp hk hq;obtain⟨e5,_⟩:=hA;have e5:vs 5= .pointer (some ⟨g,3,none⟩):=e5;exact zl1 rfl rfl e5 (z0a (HRW.out W (hI.1 (hq 8 rfl)).1)).2.2.2 ⟨rfl,hI⟩
   ·intro L vs W hA hI hp hk hq;obtain⟨_,e4,_,e6,_⟩:=hA;have e4:vs 4= .int .i64 x.2.2.1:=e4;have e6:vs 6= .int .i64 x.2.2.2:=e6;have h8:L 8=false:=hq 8 rfl;exact zrv rfl rfl e4 e6 ⟨trivial,hI.to h8 (z00 (Below.refl _ W) _) (fun e => .inl ⟨e,rfl⟩) (fun _ => .inr ⟨_,rfl,(hI.1 h8).1.size,heap_alloc_new W _⟩)⟩
   ·intro L vs W hA hI hp hk hq;have h8:L 8=false:=hk;obtain⟨hb,k2,k7⟩:=hI.1 h8;obtain⟨q2,e2,z2,r2⟩:=k2 (hp 2 rfl);obtain⟨q7,e7,z7,r7⟩:=k7 (hp 7 rfl);obtain⟨e0,_⟩:=hA;have e0:vs 0= .pointer h.ptr:=e0;refine z5j rfl rfl rfl (by kernel_rfl) (show [vs 0,.int .i64 33,vs 2,.int .i64 8,vs 7]=_ from by rw[e0,e2,e7]) (zm (HPU.out [(g+1+1,uO y),(g+1,chO tt mx bk dl tl sl),(g,aO x)] wA W q2 q7 HB.out hb z2 r2 z7 r7) ?_);rintro e w2 ⟨rfl,hV⟩;exact⟨_,rfl,rfl,fun e=>absurd (show true=false from e) (by decide),fun _=>hV⟩
   ·intro L vs W hA hI hp hk hq;obtain⟨_,_,_,_,_,_,_,_,e8,_⟩:=hA;have e8:vs 8= .int .i64 pe:=e8;exact z0c rfl (.inr rfl) e8 ⟨rfl,hI⟩
  ·intro L vs W5 hI hL;have hV5:HV h w sP [(g+1+1,uO y),(g+1,chO tt mx bk dl tl sl),(g,aO x)] W5:=hI.2 (hL 8 (by decide));have HV5:=zh hV5;clear hV5 hI hL H0 HPU HQU HRW HB a0 a1 a2 a3 b0 b1 b2 b3 x8 y9 za tb hsl hgt
   by_cases he:pe=0
   ·have hb1:(pe==0)=true:=by simpa using he
    have HLL:=zh (HL.out.1 he);obtain⟨a0,a1,a2,a3,b0,b1,b2,b3,x8,y9,za,tb⟩:=z3i (HV5.out.row (g:=g+1) (o:=chO tt mx bk dl tl sl) (by simp));obtain⟨i0,i1,i2,i3⟩:=z0a (x:=x) (HV5.out.row (g:=g) (o:=aO x) (by simp));obtain⟨y0,y1,y2,y3,_⟩:=row4 (HV5.out.u4 (g:=g+1+1) (x:=y) (by simp));clear HL he;go_wp2_with fail;refine zm (HWT.out _ _ HV5.out) ?_;rintro e W6 ⟨rfl,hV6⟩;have HR:=zh (HV.done hV6);clear hV6 HV5 HWT;go_wp2_with fail;exact bodyPost_ret_by (results_tmp2 rfl _ _ _) rfl ⟨by rw[HLL.out.1,HLL.out.2.1];rfl,by rw[HLL.out.2.2];exact HR.out⟩
   ·have hb1:(pe==0)=false:=by simpa using he
    have HLL:=zh (HL.out.2 he);have HR:=zh (HV.done HV5.out);clear HL he HV5 HWT hsum;go_wp2_with fail;exact bodyPost_ret_by (results_tmp2 rfl _ _ _) rfl ⟨by rw[HLL.out.1,HLL.out.2.1];rfl,by rw[HLL.out.2.2];exact HR.out⟩
 ·by_cases hsl:sl=true
  ·have htl:¬ 0<tl:=fun h=>hsw ⟨hsl,h⟩
   rw[hsl]at tb;have hgt:decide ((0:Int)<(tl:Int))=false:=decide_eq_false (by omega);have hgn:(0<tl)=False:=eq_false htl;have hgd:decide (0<tl)=false:=decide_eq_false htl;clear hsw;have HL:=zh (HLAW.out.2 (by rw[HWW.out,decide_eq_false htl,Bool.and_false]));clear HLAW HWW HWT HPU HQU hsum;go_upto_region 7 with fail;have HP0:Hid (SqPh h w s s1 [(g+1+1,uO y),(g+1,chO tt mx bk dl tl sl),(g,aO x)] 0 wA.drew):=HB.out.drew;clear HB a0 a1 a2 a3 b0 b1 b2 b3 x8 y9 za tb;refine z05 [[],[],[1],[],[0,2,3],[4]]
    [.pointer h.ptr,idV x,.string kA,uV y,.int .i64 se,.int .i64 se]
    [4] (SqPh h w s s1 [(g+1+1,uO y),(g+1,chO tt mx bk dl tl sl),(g,aO x)]) _ (by kernel_rfl) (by kernel_rfl) (by kernel_rfl)
    (fun vs=>by simp only[z0z,z1b,List.setIfInBounds_toArray,List.set_cons_zero,List.set_cons_succ];exact rfl)
    (by simp only[List.getD_cons_zero,List.getD_cons_succ];exact rfl) HP0.out ?_ ?_
   ·exact⟨
    fun _ _ _ _ hP _=>z0c rfl (.inl rfl) rfl ⟨rfl,hP⟩,
    fun _ _ _ _ hP _=>z1x rfl rfl rfl (SqPh.row (g:=g) (o:=aO x) hP (by simp)) ⟨rfl,hP⟩,
    fun _ _ w1 hA hP _=>z0m rfl rfl rfl (by kernel_rfl) (rgL1 hA.1) ((HAL.out w1).mono fun _ _ hh=>And.intro hh.1 (SqPh.below hP hh.2)) fun _ hP2=>⟨rfl,hP2⟩,
    fun _ _ _ _ hP _=>z0q rfl rfl rfl (SqPh.row (g:=g+1+1) (o:=uO y) hP (by simp)) ⟨rfl,hP⟩,
    fun _ _ _ hA hP hq=>by cases hq 0 rfl;exact z0m rfl rfl rfl (by kernel_rfl) (rgL3 hA.1 hA.2.1 hA.2.2.1) (HSB.out _ _ hP) fun _ hP2=>⟨rfl,hP2⟩,
    fun _ _ _ hA hP _=>z0c rfl (.inr rfl) hA.1 ⟨rfl,hP⟩,
    trivial⟩
   ·intro W4 hW4;have HV4:Hid (HV h w s1 [(g+1+1,uO y),(g+1,chO tt mx bk dl tl sl),(g,aO x)] W4):=hW4;clear hW4 HP0 HSB HAL
    by_cases he:se=0
    ·have hb1:(se==0)=true:=by simpa using he
     have HLL:=zh (HL.out.1 he);clear HL he;go_upto_region 10 with fail;have HP1:Hid (SqPh h w s1 s29 [(g+1+1,uO y),(g+1,chO tt mx bk dl tl sl),(g,aO x)] 0 W4.drew):=HV4.out.drew;clear HV4;refine z05 [[],[],[1],[],[3],[0,2,4]]
      [.pointer h.ptr,idV x,.string k29,.pointer (some ⟨g+1,0,none⟩),uV tt,.tuple #[]]
      [5] (SqPh h w s1 s29 [(g+1+1,uO y),(g+1,chO tt mx bk dl tl sl),(g,aO x)]) _ (by kernel_rfl) (by kernel_rfl) (by kernel_rfl)
      (fun vs=>by simp only[z0z,z1b,List.setIfInBounds_toArray,List.set_cons_zero,List.set_cons_succ];exact rfl)
      (by simp only[List.getD_cons_zero,List.getD_cons_succ];exact rfl) HP1.out ?_ ?_
     ·exact⟨
      fun _ _ _ _ hP _=>z0c rfl (.inl rfl) rfl ⟨rfl,hP⟩,
      fun _ _ _ _ hP _=>z1x rfl rfl rfl (SqPh.row (g:=g) (o:=aO x) hP (by simp)) ⟨rfl,hP⟩,
      fun _ _ w1 hA hP _=>z0m rfl rfl rfl (by kernel_rfl) (rgL2 hA.1 rfl) ((HK29.out w1).mono fun _ _ hh=>And.intro hh.1 (SqPh.below hP hh.2)) fun _ hP2=>⟨rfl,hP2⟩,
      fun _ _ _ _ hP _=>zpb rfl rfl rfl ⟨rfl,hP⟩,
      fun _ _ _ hA hP _=>zg0 rfl rfl hA.1 (SqPh.row (g:=g+1) (o:=chO tt mx bk dl tl sl) hP (by simp)) ⟨rfl,hP⟩,
      fun _ _ _ hA hP hq=>by cases hq 0 rfl;exact z0m rfl rfl rfl (by kernel_rfl) (rgL3 hA.1 hA.2.1 hA.2.2.1) (HS29.out _ _ hP) fun _ hP2=>⟨rfl,hP2⟩,
      trivial⟩
     ·intro W5 hW5;have HR:Hid (QOn w h s29 W5):=HV.done (rs:=[(g+1+1,uO y),(g+1,chO tt mx bk dl tl sl),(g,aO x)]) hW5
      clear hW5 HP1 HK29 HS29;go_wp2_with fail;exact bodyPost_ret_by (results_tmp2 rfl _ _ _) rfl ⟨by rw[HLL.out.1,HLL.out.2.1];rfl,by rw[HLL.out.2.2];exact HR.out⟩
    ·have hb1:(se==0)=false:=by simpa using he
     have HLL:=zh (HL.out.2 he);have HR:=zh (HV.done HV4.out);clear HL he HV4 HK29 HS29;go_wp2_with fail;exact bodyPost_ret_by (results_tmp2 rfl _ _ _) rfl ⟨by rw[HLL.out.1,HLL.out.2.1];rfl,by rw[HLL.out.2.2];exact HR.out⟩
  ·have hsl2:sl=false:=by simpa using hsl
   rw[hsl2]at tb;clear hsw hsl;have HL:=zh (HLAW.out.2 (by rw[HWW.out,hsl2,Bool.false_and]));clear HLAW HWW HWT HPU HQU hsum;go_upto_region 7 with fail;have HP0:Hid (SqPh h w s s1 [(g+1+1,uO y),(g+1,chO tt mx bk dl tl sl),(g,aO x)] 0 wA.drew):=HB.out.drew;clear HB a0 a1 a2 a3 b0 b1 b2 b3 x8 y9 za tb;refine z05 [[],[],[1],[],[0,2,3],[4]]
    [.pointer h.ptr,idV x,.string kA,uV y,.int .i64 se,.int .i64 se]
    [4] (SqPh h w s s1 [(g+1+1,uO y),(g+1,chO tt mx bk dl tl sl),(g,aO x)]) _ (by kernel_rfl) (by kernel_rfl) (by kernel_rfl)
    (fun vs=>by simp only[z0z,z1b,List.setIfInBounds_toArray,List.set_cons_zero,List.set_cons_succ];exact rfl)
    (by simp only[List.getD_cons_zero,List.getD_cons_succ];exact rfl) HP0.out ?_ ?_
   ·exact⟨
    fun _ _ _ _ hP _=>z0c rfl (.inl rfl) rfl ⟨rfl,hP⟩,
    fun _ _ _ _ hP _=>z1x rfl rfl rfl (SqPh.row (g:=g) (o:=aO x) hP (by simp)) ⟨rfl,hP⟩,
    fun _ _ w1 hA hP _=>z0m rfl rfl rfl (by kernel_rfl) (rgL1 hA.1) ((HAL.out w1).mono fun _ _ hh=>And.intro hh.1 (SqPh.below hP hh.2)) fun _ hP2=>⟨rfl,hP2⟩,
    fun _ _ _ _ hP _=>z0q rfl rfl rfl (SqPh.row (g:=g+1+1) (o:=uO y) hP (by simp)) ⟨rfl,hP⟩,
    fun _ _ _ hA hP hq=>by cases hq 0 rfl;exact z0m rfl rfl rfl (by kernel_rfl) (rgL3 hA.1 hA.2.1 hA.2.2.1) (HSB.out _ _ hP) fun _ hP2=>⟨rfl,hP2⟩,
    fun _ _ _ hA hP _=>z0c rfl (.inr rfl) hA.1 ⟨rfl,hP⟩,
    trivial⟩
   ·intro W4 hW4;have HV4:Hid (HV h w s1 [(g+1+1,uO y),(g+1,chO tt mx bk dl tl sl),(g,aO x)] W4):=hW4;clear hW4 HP0 HSB HAL
    by_cases he:se=0
    ·have hb1:(se==0)=true:=by simpa using he
     have HLL:=zh (HL.out.1 he);clear HL he;go_upto_region 10 with fail;have HP1:Hid (SqPh h w s1 s29 [(g+1+1,uO y),(g+1,chO tt mx bk dl tl sl),(g,aO x)] 0 W4.drew):=HV4.out.drew;clear HV4;refine z05 [[],[],[1],[],[3],[0,2,4]]
      [.pointer h.ptr,idV x,.string k29,.pointer (some ⟨g+1,0,none⟩),uV tt,.tuple #[]]
      [5] (SqPh h w s1 s29 [(g+1+1,uO y),(g+1,chO tt mx bk dl tl sl),(g,aO x)]) _ (by kernel_rfl) (by kernel_rfl) (by kernel_rfl)
      (fun vs=>by simp only[z0z,z1b,List.setIfInBounds_toArray,List.set_cons_zero,List.set_cons_succ];exact rfl)
      (by simp only[List.getD_cons_zero,List.getD_cons_succ];exact rfl) HP1.out ?_ ?_
     ·exact⟨
      fun _ _ _ _ hP _=>z0c rfl (.inl rfl) rfl ⟨rfl,hP⟩,
      fun _ _ _ _ hP _=>z1x rfl rfl rfl (SqPh.row (g:=g) (o:=aO x) hP (by simp)) ⟨rfl,hP⟩,
      fun _ _ w1 hA hP _=>z0m rfl rfl rfl (by kernel_rfl) (rgL2 hA.1 rfl) ((HK29.out w1).mono fun _ _ hh=>And.intro hh.1 (SqPh.below hP hh.2)) fun _ hP2=>⟨rfl,hP2⟩,
      fun _ _ _ _ hP _=>zpb rfl rfl rfl ⟨rfl,hP⟩,
      fun _ _ _ hA hP _=>zg0 rfl rfl hA.1 (SqPh.row (g:=g+1) (o:=chO tt mx bk dl tl sl) hP (by simp)) ⟨rfl,hP⟩,
      fun _ _ _ hA hP hq=>by cases hq 0 rfl;exact z0m rfl rfl rfl (by kernel_rfl) (rgL3 hA.1 hA.2.1 hA.2.2.1) (HS29.out _ _ hP) fun _ hP2=>⟨rfl,hP2⟩,
      trivial⟩
     ·intro W5 hW5;have HR:Hid (QOn w h s29 W5):=HV.done (rs:=[(g+1+1,uO y),(g+1,chO tt mx bk dl tl sl),(g,aO x)]) hW5
      clear hW5 HP1 HK29 HS29;go_wp2_with fail;exact bodyPost_ret_by (results_tmp2 rfl _ _ _) rfl ⟨by rw[HLL.out.1,HLL.out.2.1];rfl,by rw[HLL.out.2.2];exact HR.out⟩
    ·have hb1:(se==0)=false:=by simpa using he
     have HLL:=zh (HL.out.2 he);have HR:=zh (HV.done HV4.out);clear HL he HV4 HK29 HS29;go_wp2_with fail;exact bodyPost_ret_by (results_tmp2 rfl _ _ _) rfl ⟨by rw[HLL.out.1,HLL.out.2.1];rfl,by rw[HLL.out.2.2];exact HR.out⟩
end Go.Proofs.YtnkilceibkkjlaaGreat
