/- What is proved here: alloc's grow, over a store behind a  -/
import Derived.Test.YtnkilceibkkjlaaGreatKAlW
set_option maxRecDepth 100000
set_option maxHeartbeats 16000000
namespace Go.Proofs.YtnkilceibkkjlaaGreat
open Go.RowKit
abbrev chO(a b:W4)(x y z:Int)(t:Bool):Obj:=.cells (chL a b x y z t) 36
structure zn1 (W:World) (g:Nat) (a b:W4) (x y z:Int) (t:Bool):Prop where
 a0:W.cell? ⟨g,0,none⟩=some (.int .u64 a.1)
 a1:W.cell? ⟨g,1,none⟩=some (.int .u64 a.2.1)
 a2:W.cell? ⟨g,2,none⟩=some (.int .u64 a.2.2.1)
 a3:W.cell? ⟨g,3,none⟩=some (.int .u64 a.2.2.2)
 b0:W.cell? ⟨g,4,none⟩=some (.int .u64 b.1)
 b1:W.cell? ⟨g,5,none⟩=some (.int .u64 b.2.1)
 b2:W.cell? ⟨g,6,none⟩=some (.int .u64 b.2.2.1)
 b3:W.cell? ⟨g,7,none⟩=some (.int .u64 b.2.2.2)
 x8:W.cell? ⟨g,8,none⟩=some (.int .i64 x)
 y9:W.cell? ⟨g,9,none⟩=some (.int .i64 y)
 za:W.cell? ⟨g,10,none⟩=some (.int .i64 z)
 tb:W.cell? ⟨g,11,none⟩=some (.bool t)
theorem z3e{W:World}{g:Nat}{a b:W4}{x y z:Int}{t:Bool}(h:W.heap[g]?=some (chO a b x y z t)):zn1 W g a b x y z t:=by
 constructor<;>(rw[cell_of_row _ _ _ _ _ _ h];rfl)
theorem zp9{ops:Array Oper}{o:Oper}{a:Act}{w:World}{K:Value->World->Prop}{x:Operand}{g:Nat}(hg:Region.wanted o (yielded ops a.tmps)=true)(ho:o.op= .fieldAddr 36 x 0)(hx:a.eval x= .pointer (some ⟨g,0,none⟩))(hk:K (.pointer (some ⟨g,0,none⟩)) w):rgDo Tryz.prog ops o a w K:=by
 refine z0n hg ?_ hk;unfold execOp;simp only[ho,hx]
 go_simp
theorem zf7{ops:Array Oper}{o:Oper}{a:Act}{w:World}{K:Value->World->Prop}{x:Operand}{g:Nat}{tt mx:W4}{bk dl tl:Int}{sl:Bool}(hg:Region.wanted o (yielded ops a.tmps)=true)(ho:o.op= .load 24 x)(hx:a.eval x= .pointer (some ⟨g,0,none⟩))(hr:w.heap[g]?=some (chO tt mx bk dl tl sl))(hk:K (uV tt) w):rgDo Tryz.prog ops o a w K:=
 zle hg ho hx ⟨(z3e hr).a0,(z3e hr).a1,(z3e hr).a2,(z3e hr).a3⟩ hk
def grA(s:St)(x:I4)(y:W4):W4:=sumW (s.amt (aAll x)) y
def z7e(s:St)(x:I4)(mx y:W4):Bool:=!sumB (s.amt (aAll x)) y||decide (0<uCmp (grA s x y) mx)
def grS1(s:St)(x:I4)(y:W4):St:=s.z09 (aAll x) (grA s x y)
def grN(s:St)(x:I4)(mx y:W4)(bk dl:Nat):Nat:=if z7e s x mx y then 0 else if dl=0 then 0 else bk+dl
def grE(s:St)(x:I4)(mx y:W4)(bk dl:Nat):Int:=if z7e s x mx y then 13 else if dl=0 then 0 else z3h (bk+dl)
def grSt(s:St)(x:I4)(tt mx y:W4)(bk dl:Nat):St:=if z7e s x mx y then s else if dl=0 then(grS1 s x y).z09 (aKey 29 x) tt else z19 (grS1 s x y) x 1 y (bk+dl)
theorem zxs(w:World)(h:Hand)(s:St)(f bk dl:Nat)(tl:Int)(x:I4)(tt mx y:W4)(sl:Bool)(hon:h.on=true)(hx:∀ n∈x.l,0<=n/\n<9223372036854775808)(hmx:mx.Ok)(hyo:y.Ok)(hq:QSt w h s)(hf:s.Fit f)(hm:f<10000000)(hbk:bk<=1099511627776)(hdl:dl<=1099511627776)
  (hkey:∀ z∈(z0t (grS1 s x y) x 1 y (bk+dl)).ents,z.1.size<1000000000000) (h27:(z1z (z0t (grS1 s x y) x 1 y (bk+dl)) (bk+dl) x.l).int K27<1000000000000) :
  Calls Tryz.prog 70 #[idV x,.pointer h.ptr,chV tt mx bk dl tl sl,uV y] w fun e w'=>e= .returned (.tuple #[.int .i64 (grN s x mx y bk dl),.int .i64 (grE s x mx y bk dl)])/\QOn w h (grSt s x tt mx y bk dl) w':=by
 have hxo:x.Ok:=fun n hn=>(hx n hn).2
 have hB:=(((HV.start hq).alloc (aO x)).alloc (chO tt mx bk dl tl sl)).alloc (uO y);simp only[World.size_alloc]at hB;have hst:∀ s1 s2:St,h.st s1 s2=s2:=fun s1 s2=>by unfold Hand.st;rw[hon];rfl
 have hf1:(grS1 s x y).Fit (f+2):=hf.z09 _ _;have hz:s.size<1000000000000:=Nat.lt_of_le_of_lt hf.size (by omega);have hz1:(grS1 s x y).size<1000000000000:=Nat.lt_of_le_of_lt hf1.size (by omega);have HAL:Hid (∀ W,Calls Tryz.prog 82 #[idV x] W fun e w'=>e= .returned (.string (aAll x))/\Below W.heap.size W w'):=fun W=>zbn x hxo W
 have HAM:Hid (∀ rs W,HV h w s rs W->Calls Tryz.prog 64 #[.pointer h.ptr,.string (aAll x)] W fun e w'=>e= .returned (uV (s.amt (aAll x)))/\Below W.heap.size W w'):=fun rs W hV=>hV.camt hf (by omega) (aAll x)
 have HAD:Hid (∀ W,Calls Tryz.prog 79 #[uV (s.amt (aAll x)),uV y] W fun e w'=>e= .returned (.tuple #[uV (grA s x y),.bool (sumB (s.amt (aAll x)) y)])/\Below W.heap.size W w'):=fun W=>zqy _ _ (zb1 _ _) hyo W
 have HCM:Hid (∀ rs W,HV h w s rs W->Calls Tryz.prog 58 #[uV (grA s x y),uV mx] W fun e w'=>e= .returned (.int .i64 (uCmp (grA s x y) mx))/\HV h w s rs w'):=fun rs W hV=>(z4x _ mx (zhp _) hmx W).mono fun e w' ⟨he,hb⟩=>⟨he,hV.below hb⟩
 have HSA:Hid (∀ rs W,HV h w s rs W->Calls Tryz.prog 81 #[.pointer h.ptr,.string (aAll x),uV (grA s x y)] W fun e w'=>e= .returned (.tuple #[])/\HV h w (grS1 s x y) rs w'):=fun rs W hV=>by
  have:=hV.cset hz (aAll x) (grA s x y);rw[hst]at this;exact this
 have HK29:Hid (∀ W,Calls Tryz.prog 65 #[idV x,.int .i64 29] W fun e w'=>e= .returned (.string (aKey 29 x))/\Below W.heap.size W w'):=fun W=>z5v 29 (by decide) (by decide) x hxo W
 have HS29:Hid (∀ rs W,HV h w (grS1 s x y) rs W->Calls Tryz.prog 81 #[.pointer h.ptr,.string (aKey 29 x),uV tt] W fun e w'=>e= .returned (.tuple #[])/\HV h w ((grS1 s x y).z09 (aKey 29 x) tt) rs w'):=fun rs W hV=>by
  have:=hV.cset hz1 (aKey 29 x) tt;rw[hst]at this;exact this
 have HWT:Hid (∀ rs W,HV h w (grS1 s x y) rs W->Calls Tryz.prog 143 #[idV x,.pointer h.ptr,.int .i64 1,uV y,.int .i64 ((bk+dl:Nat):Int)] W fun e w'=>e= .returned (.int .i64 (z3h (bk+dl)))/\HV h w (z19 (grS1 s x y) x 1 y (bk+dl)) rs w'):=fun rs W hV =>
  QV.call hV fun L' h1=>zuf W ⟨h.ptr,h.on,L'⟩ (grS1 s x y) (f+2) 1 (bk+dl) x y hon hx h1 hf1 (by omega) (by decide) (by omega) hkey h27
 have hlaw:(z7e s x mx y=true->grN s x mx y bk dl=0/\grE s x mx y bk dl=13/\grSt s x tt mx y bk dl=s)/\(z7e s x mx y=false->dl=0->grN s x mx y bk dl=0/\grE s x mx y bk dl=0/\grSt s x tt mx y bk dl=(grS1 s x y).z09 (aKey 29 x) tt)/\(z7e s x mx y=false->dl≠0->((grN s x mx y bk dl:Nat):Int)=((bk+dl:Nat):Int)/\grE s x mx y bk dl=z3h (bk+dl)/\grSt s x tt mx y bk dl=z19 (grS1 s x y) x 1 y (bk+dl)):=by
  unfold grN grE grSt;refine⟨fun hb => ?_,fun hb h0 => ?_,fun hb h0 => ?_⟩
  ·rw[if_pos hb,if_pos hb,if_pos hb];exact⟨rfl,rfl,rfl⟩
  ·simp[hb,h0]
  ·simp[hb,h0]
 have HLAW:=zh hlaw;have HBAD:Hid (z7e s x mx y=(!sumB (s.amt (aAll x)) y||decide (0<uCmp (grA s x y) mx))):=rfl;have hsum:wrap64 ((bk:Int)+(dl:Int))=((bk+dl:Nat):Int):=by unfold wrap64;omega
 have HB:=zh hB;have hdn:∀ h0:dl≠0,(((dl:Nat):Int)==0)=false:=fun h0=>beq_eq_false_iff_ne.2 (by omega)
 have HDN:=zh hdn;clear hlaw hB hst hf1 hz hz1 hq hf hx hxo hmx hyo hm hon hbk hdl hkey h27 hdn;generalize grN s x mx y bk dl=rN at *
 generalize grE s x mx y bk dl=rE at *
 generalize grSt s x tt mx y bk dl=rS at *
 generalize z19 (grS1 s x y) x 1 y (bk+dl)=sW at *
 generalize z3h (bk+dl)=we at *
 generalize ((bk+dl:Nat):Int)=bd at *
 generalize (grS1 s x y).z09 (aKey 29 x) tt=s29 at *
 generalize grS1 s x y=s1 at *
 generalize z7e s x mx y=bad at *
 generalize uCmp (grA s x y) mx=rc at *
 generalize sumB (s.amt (aAll x)) y=sb at *
 generalize grA s x y=sm at *
 generalize s.amt (aAll x)=eA at *
 generalize aAll x=kA at *
 generalize aKey 29 x=k29 at *
 go_enter Tryz.func70,Tryz.ntmps70;go_upto_region 1 with fail;generalize ((w.alloc (aO x)).alloc (chO tt mx bk dl tl sl)).alloc (uO y)=wA at *
 obtain⟨g,hg⟩:∃ g,g=w.heap.size:=⟨_,rfl⟩;rw[<- hg]at HB ⊢;clear hg;have HB0:=zh (z0h (Below.refl wA.heap.size wA));refine z1g [[],[],[1],[0,1,2],[],[0,1,2,3,4],[0,1,2,3,4,5],[0,1,2,3,4,5,6],[0,1,2,3,4,5,6],[],[0,1,2,3,4,5,6,7,9],[0,1,2,3,4,5,6,7,8,9,10]]
  [rgC (Below wA.heap.size wA),rgV 0 (.pointer h.ptr),rgV 1 (idV x),rgV 2 (.string kA),rgV 3 (uV eA),rgV 4 (uV y),rgV 5 (.tuple #[uV sm,.bool sb]),rgV 6 (.tuple #[uV sm,.bool sb]),rgV 7 (uV sm),rgV 8 (.bool sb),rgP 9 (wA.heap.size),rgV 11 (.bool sb),rgS 9 10 (sm)] _ (by kernel_rfl) (by kernel_rfl) (by kernel_rfl)
  (fun vs=>by simp only[z14,z1a,List.setIfInBounds_toArray,List.set_cons_zero,List.set_cons_succ];exact rfl)
  ⟨fun _ _ _ hb h=>z0b h hb,z0e,z0e,z0e,z0e,z0e,z0e,z0e,z0e,z0e,zay,z0e,zb4,trivial⟩ ?_ ?_ ?_
 ·refine z3k rfl HB0.out ?_;iterate 12 refine z4l rfl ?_
  exact trivial
 ·refine⟨?_,?_,?_,?_,?_,?_,?_,?_,?_,?_,?_,?_,trivial⟩
  ·intro vs w2 hA K hK;obtain⟨_,_⟩:=hA;refine z0a rfl (.inl rfl) rfl (hK _ _ (.inl zb) ?_);exact z07 1
  ·intro vs w2 hA K hK;obtain⟨hC,_⟩:=hA;refine z1u rfl rfl rfl ((HB.out.below hC).row (g:=g) (o:=aO x) (by simp)) (hK _ _ (.inl zb) ?_);exact z07 2
  ·intro vs w2 hA K hK;obtain⟨_,e1,_⟩:=hA;refine z4w rfl rfl rfl (by kernel_rfl) (show [vs 1]=_ from by rw[rg1 e1]) (zm (HAL.out _) ?_);rintro e w2 ⟨rfl,hb⟩;refine⟨_,rfl,hK _ _ (.inl hb) ?_⟩;exact z07 3
  ·intro vs w2 hA K hK;obtain⟨hC,e0,_,e2,_⟩:=hA;refine z4w rfl rfl rfl (by kernel_rfl) (show [vs 0,vs 2]=_ from by rw[rg1 e0,rg1 e2]) (zm (HAM.out _ _ (HB.out.below hC)) ?_);rintro e w2 ⟨rfl,hb⟩;refine⟨_,rfl,hK _ _ (.inl hb) ?_⟩;exact z07 4
  ·intro vs w2 hA K hK;obtain⟨hC,_⟩:=hA;refine z0p rfl rfl rfl ((HB.out.below hC).u4 (g:=g+1+1) (x:=y) (by simp)) (hK _ _ (.inl zb) ?_);exact z07 5
  ·intro vs w2 hA K hK;obtain⟨_,_,_,_,e3,e4,_⟩:=hA;refine z4w rfl rfl rfl (by kernel_rfl) (show [vs 3,vs 4]=_ from by rw[rg1 e3,rg1 e4]) (zm (HAD.out _) ?_);rintro e w2 ⟨rfl,hb⟩;refine⟨_,rfl,hK _ _ (.inl hb) ?_⟩;exact z07 6
  ·intro vs w2 hA K hK;obtain⟨_,_,_,_,_,_,e5,_⟩:=hA;refine z0a rfl (.inl rfl) (rg1 e5) (hK _ _ (.inl zb) ?_);exact z07 7
  ·intro vs w2 hA K hK;obtain⟨_,_,_,_,_,_,_,e6,_⟩:=hA;refine z0x rfl rfl (rg1 e6) rfl (hK _ _ (.inl zb) ?_);exact z07 8
  ·intro vs w2 hA K hK;obtain⟨_,_,_,_,_,_,_,e6,_⟩:=hA;refine z0x rfl rfl (rg1 e6) rfl (hK _ _ (.inl zb) ?_);exact z07 9
  ·intro vs w2 hA K hK;obtain⟨hC,_⟩:=hA;refine z4n rfl rfl (hK _ _ (.inl (z00 zb _)) ?_);iterate 10 refine z0v rfl ?_
   refine z18 rfl (fun _=>⟨_,_,rfl,hC.size,heap_alloc_new _ _⟩) ?_;iterate 2 refine z0v rfl ?_
   exact trivial
  ·intro vs w2 hA K hK;obtain⟨hC,_,_,_,_,_,_,_,e7,⟨_,_,e9,h9,g9⟩,_⟩:=hA;refine z2v rfl rfl (rg1 e9) (rg1 e7) g9 (hK _ _ (.inr ?_) ?_)
   ·refine z0k rfl (fun hC _=>bput hC h9) ?_;iterate 9 refine z0k rfl (fun h _=>h) ?_
    refine z0k rfl (fun h _=>z5y h) ?_;iterate 2 refine z2y rfl ?_
    exact trivial
   ·iterate 12 refine z0v rfl ?_
    refine z18 rfl (fun _=>⟨_,_,by show [vs 9,undef]=_;rw[rg1 e9],setRow_heap _ _ _ _ _ _ g9⟩) ?_;exact trivial
  ·intro vs w2 hA K hK;obtain⟨_,_,_,_,_,_,_,_,_,e8,_,_,_⟩:=hA;refine z0a rfl (.inr rfl) (rg1 e8) (hK _ _ (.inl zb) ?_);exact z07 11
 ·intro vs w2 hA;obtain⟨hC,e0,e1,e2,e3,e4,e5,e6,e7,e8,⟨p9,_,e9,h9,g9⟩,e11,s10,_⟩:=hA;have e0:=rg1 e0;have e1:=rg1 e1;have e2:=rg1 e2;have e3:=rg1 e3;have e4:=rg1 e4;have e5:=rg1 e5;have e6:=rg1 e6;have e7:=rg1 e7;have e8:=rg1 e8;have e9:=rg1 e9;have e11:=rg1 e11;have s10:=zb6 s10 e9;simp only[e0,e1,e2,e3,e4,e5,e6,e7,e8,e9,e11];have HB2:=zh (HB.out.add1 hC h9 s10);clear e0 e1 e2 e3 e4 e5 e6 e7 e8 e11 g9 s10 h9 hC HAM HAD HB0 HB;cases sb with
  | false =>
   have hL:=HLAW.out.1 (by rw[HBAD.out];rfl);have HL:=zh hL;clear hL HLAW HBAD HCM HSA HK29 HS29 HWT HAL;go_wp2_with fail;exact bodyPost_ret_by (results_tmp2 rfl _ _ _) rfl ⟨by rw[HL.out.1,HL.out.2.1];rfl,by rw[HL.out.2.2];exact HV.done HB2.out⟩
  | true =>
   obtain⟨m0,m1,m2,m3,_⟩:=row4 (HB2.out.u4 (g:=p9) (x:=sm) (by simp));obtain⟨a0,a1,a2,a3,b0,b1,b2,b3,x8,y9,za,tb⟩:=z3e (HB2.out.row (g:=g+1) (o:=chO tt mx bk dl tl sl) (by simp));go_wp2_with fail;refine zm (HCM.out _ _ HB2.out) ?_;rintro e w3 ⟨rfl,hB3⟩;clear m0 m1 m2 m3 a0 a1 a2 a3 b0 b1 b2 b3 x8 y9 za tb HCM HB2
   by_cases hrc:0<rc
   ·have hgt:decide ((0:Int)<rc)=true:=decide_eq_true hrc;have HL:=zh (HLAW.out.1 (by rw[HBAD.out,hgt];rfl));have HB3:=zh hB3;clear HLAW HBAD hB3;go_wp2_with fail;exact bodyPost_ret_by (results_tmp2 rfl _ _ _) rfl ⟨by rw[HL.out.1,HL.out.2.1];rfl,by rw[HL.out.2.2];exact HV.done HB3.out⟩
   ·have hgt:decide ((0:Int)<rc)=false:=decide_eq_false hrc;have HL:=zh (HLAW.out.2 |>.imp (fun k=>k (by rw[HBAD.out,hgt];rfl)) (fun k=>k (by rw[HBAD.out,hgt];rfl)));have HB3:=zh hB3;clear HLAW HBAD hB3;go_upto_region 4 with fail;have HP0:Hid (SqPh h w s s1 [(p9,uO sm),(g+1+1,uO y),(g+1,chO tt mx bk dl tl sl),(g,aO x)] 0 w3.drew):=HB3.out.drew;clear HB3;refine z06 [[],[],[1],[],[0,2,3]]
     [.pointer h.ptr,idV x,.string kA,uV sm,.tuple #[]]
     [4] (SqPh h w s s1 [(p9,uO sm),(g+1+1,uO y),(g+1,chO tt mx bk dl tl sl),(g,aO x)]) _ (by kernel_rfl) (by kernel_rfl) (by kernel_rfl)
     (fun vs=>by simp only[z14,z1a,List.setIfInBounds_toArray,List.set_cons_zero,List.set_cons_succ];exact rfl)
     (by simp only[List.getD_cons_zero,List.getD_cons_succ];exact rfl) HP0.out ?_ ?_
    ·exact⟨
     fun _ _ _ _ hP _=>z0a rfl (.inl rfl) rfl ⟨rfl,hP⟩,
     fun _ _ _ _ hP _=>z1u rfl rfl rfl (SqPh.row (g:=g) (o:=aO x) hP (by simp)) ⟨rfl,hP⟩,
     fun _ _ w1 hA hP _=>z0m rfl rfl rfl (by kernel_rfl) (rgL1 hA.1) ((HAL.out w1).mono fun _ _ hh=>And.intro hh.1 (SqPh.below hP hh.2)) fun _ hP2=>⟨rfl,hP2⟩,
     fun _ _ _ _ hP _=>z0p rfl rfl rfl (SqPh.row (g:=p9) (o:=uO sm) hP (by simp)) ⟨rfl,hP⟩,
     fun _ _ _ hA hP hq=>by cases hq 0 rfl;exact z0m rfl rfl rfl (by kernel_rfl) (rgL3 hA.1 hA.2.1 hA.2.2.1) (HSA.out _ _ hP) fun _ hP2=>⟨rfl,hP2⟩,
     trivial⟩
    ·intro W4 hW4;have hV4:HV h w s1 [(p9,uO sm),(g+1+1,uO y),(g+1,chO tt mx bk dl tl sl),(g,aO x)] W4:=hW4;obtain⟨a0,a1,a2,a3,b0,b1,b2,b3,x8,y9,za,tb⟩:=z3e (hV4.row (g:=g+1) (o:=chO tt mx bk dl tl sl) (by simp));have HV4:=zh hV4;clear hW4 hV4 HP0 HSA HAL b0 b1 b2 b3 za tb
     by_cases h0:dl=0
     ·have hd0:(((dl:Nat):Int)==0)=true:=by rw[h0];rfl
      have HLL:=zh (HL.out.1 h0);clear HL h0 HDN hsum HWT;go_upto_region 6 with fail;have HP1:Hid (SqPh h w s1 s29 [(p9,uO sm),(g+1+1,uO y),(g+1,chO tt mx bk dl tl sl),(g,aO x)] 0 W4.drew):=HV4.out.drew;clear HV4 a0 a1 a2 a3 x8 y9;refine z06 [[],[],[1],[],[3],[0,2,4]]
       [.pointer h.ptr,idV x,.string k29,.pointer (some ⟨g+1,0,none⟩),uV tt,.tuple #[]]
       [5] (SqPh h w s1 s29 [(p9,uO sm),(g+1+1,uO y),(g+1,chO tt mx bk dl tl sl),(g,aO x)]) _ (by kernel_rfl) (by kernel_rfl) (by kernel_rfl)
       (fun vs=>by simp only[z14,z1a,List.setIfInBounds_toArray,List.set_cons_zero,List.set_cons_succ];exact rfl)
       (by simp only[List.getD_cons_zero,List.getD_cons_succ];exact rfl) HP1.out ?_ ?_
      ·exact⟨
       fun _ _ _ _ hP _=>z0a rfl (.inl rfl) rfl ⟨rfl,hP⟩,
       fun _ _ _ _ hP _=>z1u rfl rfl rfl (SqPh.row (g:=g) (o:=aO x) hP (by simp)) ⟨rfl,hP⟩,
       fun _ _ w1 hA hP _=>z0m rfl rfl rfl (by kernel_rfl) (rgL2 hA.1 rfl) ((HK29.out w1).mono fun _ _ hh=>And.intro hh.1 (SqPh.below hP hh.2)) fun _ hP2=>⟨rfl,hP2⟩,
       fun _ _ _ _ hP _=>zp9 rfl rfl rfl ⟨rfl,hP⟩,
       fun _ _ _ hA hP _=>zf7 rfl rfl hA.1 (SqPh.row (g:=g+1) (o:=chO tt mx bk dl tl sl) hP (by simp)) ⟨rfl,hP⟩,
       fun _ _ _ hA hP hq=>by cases hq 0 rfl;exact z0m rfl rfl rfl (by kernel_rfl) (rgL3 hA.1 hA.2.1 hA.2.2.1) (HS29.out _ _ hP) fun _ hP2=>⟨rfl,hP2⟩,
       trivial⟩
      ·intro W5 hW5;have HR:Hid (QOn w h s29 W5):=HV.done (rs:=[(p9,uO sm),(g+1+1,uO y),(g+1,chO tt mx bk dl tl sl),(g,aO x)]) hW5
       clear hW5 HP1 HK29 HS29;go_wp2_with fail;exact bodyPost_ret_by (results_tmp2 rfl _ _ _) rfl ⟨by rw[HLL.out.1,HLL.out.2.1];rfl,by rw[HLL.out.2.2];exact HR.out⟩
     ·have hd0:=HDN.out h0;have HLL:=zh (HL.out.2 h0);obtain⟨i0,i1,i2,i3⟩:=z0g (x:=x) (HV4.out.row (g:=g) (o:=aO x) (by simp));obtain⟨y0,y1,y2,y3,_⟩:=row4 (HV4.out.u4 (g:=g+1+1) (x:=y) (by simp));clear HL h0 HDN HK29 HS29;go_wp2_with fail;refine zm (HWT.out _ _ HV4.out) ?_;rintro e W5 ⟨rfl,hV5⟩;have HR:=zh (HV.done hV5);clear hV5 HV4 HWT;go_wp2_with fail;exact bodyPost_ret_by (results_tmp2 rfl _ _ _) rfl ⟨by rw[HLL.out.1,HLL.out.2.1];rfl,by rw[HLL.out.2.2];exact HR.out⟩
end Go.Proofs.YtnkilceibkkjlaaGreat
