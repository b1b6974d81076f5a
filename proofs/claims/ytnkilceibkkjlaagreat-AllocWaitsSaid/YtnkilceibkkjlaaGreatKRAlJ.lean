/- What is proved here: the reference's Modify. Conditions:  -/
import Derived.Test.YtnkilceibkkjlaaGreatKRAlH
import Derived.Test.YtnkilceibkkjlaaGreatKAlO
set_option maxRecDepth 100000
set_option maxHeartbeats 16000000
namespace Go.Proofs.YtnkilceibkkjlaaGreat
open Go.RowKit
theorem FV.zzu{b:Nat}{w W:World}{L:List Nat}{s:St}{rs:List (Nat × Obj)}{m:Nat}(hq:FV b w L s rs W)(hz:s.size<1000000000000)(hmp:m<=s.past.length):Calls Tryz.prog 133 #[.pointer (some ⟨b,0,none⟩),.int .i64 m] W fun e W'=>e= .returned (.bool true)/\FV b w L (s.undo m) rs W':=
 QV.call hq fun L' h1=>(zqd W b s L' m h1 hmp (fun k=>Nat.lt_of_le_of_lt (zal k) hz)).mono fun _ _ ⟨he,h2⟩=>⟨he,h2⟩
theorem FV.past{b:Nat}{w W:World}{L:List Nat}{s:St}{rs:List (Nat × Obj)}(hq:FV b w L s rs W):∃ a c,W.cell? ⟨b,1,none⟩=some (.slice a s.past.length c):=ROn.past (FV.done hq)
theorem zwt{x:I4}(h:x.1<1\/x.2.1<1\/x.2.2.1<0\/x.2.2.2<0):aGd x=false:=by
 unfold aGd;simp only[Bool.and_eq_false_iff,decide_eq_false_iff_not];omega
theorem ztj{x:I4}(h:¬ x.1<1/\¬ x.2.1<1/\¬ x.2.2.1<0/\¬ x.2.2.2<0):aGd x=true:=by
 unfold aGd;simp only[Bool.and_eq_true,decide_eq_true_eq];omega
theorem ziu{a b c:Int}(h:blkB a=true\/blkB b=true\/blkB c=true):z3j [a,b,c]=false:=by
 unfold z3j;simp only[List.any_cons,List.any_nil,Bool.or_false,Bool.not_eq_false',Bool.or_eq_true];exact h
theorem zt1{a b c:Int}(h:blkB a=false/\blkB b=false/\blkB c=false):z3j [a,b,c]=true:=by
 unfold z3j;simp only[List.any_cons,List.any_nil,Bool.or_false,Bool.not_eq_true',Bool.or_eq_false_iff];exact h
theorem zlo(n:Int):(blkB n=true/\(decide (n<0)=true\/(decide (n<0)=false/\decide (1099511627776<n)=true)))\/(blkB n=false/\decide (n<0)=false/\decide (1099511627776<n)=false):=by
 unfold blkB;cases decide (n<0)<;>cases decide (1099511627776<n)<;>simp
theorem zw9{tt c:W4}(ht:tt.Ok)(hc:c.Ok):(subB tt c&&decide (subW tt c=(0,0,0,0)))=decide (tt=c):=by
 by_cases h:tt=c
 ·subst h;have e1:subB tt tt=true:=by unfold subB;simp
  have e2:subW tt tt=(0,0,0,0):=by unfold subW;rw[if_pos (Nat.le_refl _),Nat.sub_self];rfl
  rw[e1,e2];simp
 ·rw[decide_eq_false h]
  by_cases hle:uN c<=uN tt
  ·have e2:¬ subW tt c=(0,0,0,0):=fun e=>h (z6c ht hc (by
    have h1:uN (subW tt c)=uN tt-uN c:=by
     unfold subW;rw[if_pos hle,z5f (by have:=z2i ht;omega)]
    rw[e]at h1;have h0:uN ((0,0,0,0):W4)=0:=rfl
    omega))
   rw[decide_eq_false e2,Bool.and_false]
  ·have e1:subB tt c=false:=by unfold subB;rw[decide_eq_false hle]
   rw[e1];rfl
def ze4(bk dl tl:Int):Nat->Int
 | 0=>bk
 | 1=>dl
 | _=>tl
theorem zxe(bk dl tl:Int):∀ k,k<3->∀ w,(Instr.index 169 (.agg #[.int .i64 bk,.int .i64 dl,.int .i64 tl]) (.int .i64 ((k:Nat):Int))).run Tryz.prog w= .ok (.int .i64 (ze4 bk dl tl k)) w
 | 0,_,w=>by kernel_rfl
 | 1,_,w=>by kernel_rfl
 | 2,_,w=>by kernel_rfl
theorem zsf{bk dl tl:Int}:∀ {k:Nat},blkB (ze4 bk dl tl k)=true->z3j [bk,dl,tl]=false
 | 0,h=>ziu (.inl h)
 | 1,h=>ziu (.inr (.inl h))
 | _+2,h=>ziu (.inr (.inr h))
structure zz4 (s:St) (x:I4) (tt:W4) (bk dl tl:Int):Prop where
 ng:z6k ((bk.toNat+dl.toNat:Nat):Int) (dueE (keyL 26 []) (z0t (grS1 s x (mdY s x tt)) x 1 (mdY s x tt) (bk.toNat+dl.toNat)))=dueN (z0t (grS1 s x (mdY s x tt)) x 1 (mdY s x tt) (bk.toNat+dl.toNat)) (bk.toNat+dl.toNat)
 ns:z6k ((bk.toNat+tl.toNat:Nat):Int) (dueE (keyL 26 []) (z0t (shP s x) x 2 (mdY s x tt) (bk.toNat+tl.toNat)))=dueN (z0t (shP s x) x 2 (mdY s x tt) (bk.toNat+tl.toNat)) (bk.toNat+tl.toNat)
theorem zps(w:World)(b:Nat)(L:List Nat)(s:St)(f:Nat)(bk dl tl:Int)(x:I4)(tt mx:W4)(sl:Bool)(hxo:x.Ok)(hto:tt.Ok)(hmx:mx.Ok)(hq:RRep w b s L)(hf:s.Fit f)(hm:f<10000000)(hok:aGd x=true->z3j [bk,dl,tl]=true->MdOk s x tt mx bk dl tl sl/\zz4 s x tt bk dl tl) :
  Calls Tryz.prog 60 #[.pointer (some ⟨b,0,none⟩),idV x,chV tt mx bk dl tl sl] w fun e w'=>e= .returned (.tuple #[.int .i64 (mdN s x tt mx bk dl tl sl),.int .i64 (mdE s x tt mx bk dl tl sl)])/\ROn w b L (mdSt s x tt mx bk dl tl sl) w':=by
 have hB:=((FV.start hq).alloc (riO x)).alloc (rchO tt mx bk dl tl sl);simp only[World.size_alloc]at hB;have hcu:(cur s x).Ok:=z4z _;have HCU:Hid (∀ rs W,FV b w L s rs W->Calls Tryz.prog 28 #[.pointer (some ⟨b,0,none⟩),idV x] W fun e w'=>e= .returned (uV (cur s x))/\FV b w L s rs w'):=fun rs W hV=>hV.cur hf (by omega) x hxo
 have HPD:Hid (∀ rs W,FV b w L s rs W->Calls Tryz.prog 32 #[.pointer (some ⟨b,0,none⟩),idV x] W fun e w'=>e= .returned (.tuple #[.int .i64 (pend s x).1,uV (pend s x).2.1,.int .i64 (pend s x).2.2])/\FV b w L s rs w'):=fun rs W hV=>hV.pend hf (by omega) x hxo
 have HWG:Hid (∀ rs W,FV b w L s rs W->Calls Tryz.prog 130 #[uV tt] W fun e w'=>e= .returned (.bool (decide (uCmp tt oneW<=0)))/\FV b w L s rs w'):=fun rs W hV=>hV.reads fun L' h1=>ze8 tt hto W
 have HSU:Hid (∀ rs W,FV b w L s rs W->Calls Tryz.prog 22 #[uV tt,uV (cur s x)] W fun e w'=>e= .returned (.tuple #[uV (subW tt (cur s x)),.bool (subB tt (cur s x))])/\FV b w L s rs w'):=fun rs W hV=>hV.reads fun L' h1=>za5 tt _ hto hcu W
 have HSD:Hid (∀ rs W,FV b w L s rs W->Calls Tryz.prog 22 #[uV (cur s x),uV tt] W fun e w'=>e= .returned (.tuple #[uV (subW (cur s x) tt),.bool (subB (cur s x) tt)])/\FV b w L s rs w'):=fun rs W hV=>hV.reads fun L' h1=>za5 _ tt hcu hto W
 have HGR:Hid (aGd x=true->z3j [bk,dl,tl]=true->mdUp s x tt=true->∀ rs W,FV b w L s rs W->Calls Tryz.prog 131 #[.pointer (some ⟨b,0,none⟩),idV x,chV tt mx bk dl tl sl,uV (mdY s x tt)] W fun e w'=>e= .returned (.tuple #[.int .i64 (mdTN s x tt mx bk dl tl sl),.int .i64 (mdTE s x tt mx bk dl tl sl)])/\FV b w L (mdTS s x tt mx bk dl tl sl) rs w'):=fun hg hb hu rs W hV=>by
  obtain⟨hk,hr⟩:=hok hg hb;have hr:=hr.ng;obtain⟨⟨k1,k2⟩,⟨k3,k4⟩,k5,k6⟩:=z8e hb;have e1:mdTN s x tt mx bk dl tl sl=grN s x mx (mdY s x tt) bk.toNat dl.toNat:=if_pos hu;have e2:mdTE s x tt mx bk dl tl sl=grE s x mx (mdY s x tt) bk.toNat dl.toNat:=if_pos hu;have e3:mdTS s x tt mx bk dl tl sl=grSt s x tt mx (mdY s x tt) bk.toNat dl.toNat:=if_pos hu;rw[e1,e2,e3];obtain⟨k,rfl⟩:∃ b:Nat,bk=b:=⟨bk.toNat,by omega⟩;obtain⟨d,rfl⟩:∃ b:Nat,dl=b:=⟨dl.toNat,by omega⟩;rw[Int.toNat_natCast,Int.toNat_natCast]at *
  refine QV.call hV fun L' h1 => ?_
  exact zvx W b L' s f k d tl x tt mx (mdY s x tt) sl (zcp hg hxo) hmx (zha _ _ _) h1 hf hm (by omega) (by omega) hk.kg hr hk.ng
 have HSH:Hid (aGd x=true->z3j [bk,dl,tl]=true->mdUp s x tt=false->∀ rs W,FV b w L s rs W->Calls Tryz.prog 132 #[.pointer (some ⟨b,0,none⟩),idV x,chV tt mx bk dl tl sl,uV (mdY s x tt)] W fun e w'=>e= .returned (.tuple #[.int .i64 (mdTN s x tt mx bk dl tl sl),.int .i64 (mdTE s x tt mx bk dl tl sl)])/\FV b w L (mdTS s x tt mx bk dl tl sl) rs w'):=fun hg hb hu rs W hV=>by
  obtain⟨hk,hr⟩:=hok hg hb;have hr:=hr.ns;obtain⟨⟨k1,k2⟩,⟨k3,k4⟩,k5,k6⟩:=z8e hb;have e1:mdTN s x tt mx bk dl tl sl=shN s x bk.toNat tl.toNat sl:=if_neg (by rw[hu];decide);have e2:mdTE s x tt mx bk dl tl sl=shE s x (mdY s x tt) bk.toNat tl.toNat sl:=if_neg (by rw[hu];decide);have e3:mdTS s x tt mx bk dl tl sl=shSt s x tt (mdY s x tt) bk.toNat tl.toNat sl:=if_neg (by rw[hu];decide);rw[e1,e2,e3];obtain⟨k,rfl⟩:∃ b:Nat,bk=b:=⟨bk.toNat,by omega⟩;obtain⟨d,rfl⟩:∃ b:Nat,tl=b:=⟨tl.toNat,by omega⟩;rw[Int.toNat_natCast,Int.toNat_natCast]at *
  refine QV.call hV fun L' h1 => ?_
  exact zq9 W b L' s f k d dl x tt mx (mdY s x tt) sl (zcp hg hxo) (zha _ _ _) h1 hf hm (by omega) (by omega) hk.eb hk.ks hr hk.ns
 have HUN:Hid (aGd x=true->z3j [bk,dl,tl]=true->∀ rs W,FV b w L (mdTS s x tt mx bk dl tl sl) rs W->Calls Tryz.prog 133 #[.pointer (some ⟨b,0,none⟩),.int .i64 s.past.length] W fun e w'=>e= .returned (.bool true)/\FV b w L ((mdTS s x tt mx bk dl tl sl).undo s.past.length) rs w'):=fun hg hb rs W hV=>hV.zzu (hok hg hb).1.sz (hok hg hb).1.pl
 have HLAW:Hid ((mdE0 s x tt bk dl tl≠0->mdN s x tt mx bk dl tl sl=0/\mdE s x tt mx bk dl tl sl=mdE0 s x tt bk dl tl/\mdSt s x tt mx bk dl tl sl=s)/\(mdE0 s x tt bk dl tl=0->(mdTE s x tt mx bk dl tl sl=0->mdN s x tt mx bk dl tl sl=mdTN s x tt mx bk dl tl sl/\mdE s x tt mx bk dl tl sl=0/\mdSt s x tt mx bk dl tl sl=mdTS s x tt mx bk dl tl sl) /\
   (mdTE s x tt mx bk dl tl sl≠0->mdN s x tt mx bk dl tl sl=0/\mdE s x tt mx bk dl tl sl=mdTE s x tt mx bk dl tl sl/\mdSt s x tt mx bk dl tl sl=(mdTS s x tt mx bk dl tl sl).undo s.past.length))):=by
  unfold mdN mdE mdSt;refine⟨fun h0=>by simp[h0],fun h0=>⟨fun h1=>by simp[h0,h1],fun h1=>by simp[h0,h1]⟩⟩
 have hyy:(mdUp s x tt&&decide (mdY s x tt=(0,0,0,0)))=decide (tt=cur s x):=by
  rw[<- zw9 hto hcu];show(subB tt (cur s x)&&_)=_
  by_cases hu:mdUp s x tt=true
  ·rw[show mdY s x tt=subW tt (cur s x)from if_pos hu]
  ·rw[show subB tt (cur s x)=false from by simpa [mdUp]using hu];rfl
 have HE0:Hid (mdE0 s x tt bk dl tl=if !(aGd x&&z3j [bk,dl,tl])then 2 else if !decide (uCmp tt oneW<=0)then 5 else if (pend s x).1≠0 then 16 else if decide (tt=cur s x)then 17 else 0):=by
  rw[<- hyy];rfl
 have HUP:Hid (subB tt (cur s x)=mdUp s x tt):=rfl;have HYU:Hid (mdUp s x tt=true->subW tt (cur s x)=mdY s x tt):=fun hu=>(if_pos hu).symm
 have HYD:Hid (mdUp s x tt=false->subW (cur s x) tt=mdY s x tt):=fun hu=>(if_neg (by rw[hu];decide)).symm
 have HPS:Hid (∀ rs W,FV b w L s rs W->∃ a c,W.cell? ⟨b,1,none⟩=some (.slice a s.past.length c)):=fun rs W hV=>hV.past
 have HAGB:Hid ((x.1<1\/x.2.1<1\/x.2.2.1<0\/x.2.2.2<0)->aGd x=false):=zwt;have HAGG:Hid (¬ x.1<1/\¬ x.2.1<1/\¬ x.2.2.1<0/\¬ x.2.2.2<0->aGd x=true):=ztj;have HBB:Hid (∀ k,blkB (ze4 bk dl tl k)=true->z3j [bk,dl,tl]=false):=fun k=>zsf
 have HBG:Hid ((∀ r,r<3->blkB (ze4 bk dl tl r)=false)->z3j [bk,dl,tl]=true):=fun h=>zt1 ⟨h 0 (by decide),h 1 (by decide),h 2 (by decide)⟩
 have HIX:=zh (zxe bk dl tl);have HEQ:Hid (∀ w,(Op.equalIn 10000 24 (.agg #[.int .u64 tt.1,.int .u64 tt.2.1,.int .u64 tt.2.2.1,.int .u64 tt.2.2.2]) (.agg #[.int .u64 (cur s x).1,.int .u64 (cur s x).2.1,.int .u64 (cur s x).2.2.1,.int .u64 (cur s x).2.2.2])).run Tryz.prog w= .ok (decide (tt=cur s x)) w):=fun w=>eqU tt (cur s x) w
 have hq0:Program.eqGuardType Tryz.prog Tryz.prog.depth 24=false:=by kernel_rfl
 have HB:=zh hB;clear hB hcu hq hf hxo hto hmx hm hok hyy;generalize mdN s x tt mx bk dl tl sl=rN at *
 generalize mdE s x tt mx bk dl tl sl=rE at *
 generalize mdSt s x tt mx bk dl tl sl=rS at *
 generalize (mdTS s x tt mx bk dl tl sl).undo s.past.length=sU at *
 generalize mdTS s x tt mx bk dl tl sl=sT at *
 generalize mdTE s x tt mx bk dl tl sl=te at *
 generalize mdTN s x tt mx bk dl tl sl=tn at *
 generalize mdE0 s x tt bk dl tl=e0 at *
 generalize mdY s x tt=yy at *
 generalize s.past.length=pl at *
 generalize subB (cur s x) tt=db at *
 generalize subW (cur s x) tt=dw at *
 generalize subB tt (cur s x)=ub at *
 generalize subW tt (cur s x)=uw at *
 generalize mdUp s x tt=up at *
 generalize decide (tt=cur s x)=sm at *
 generalize cur s x=cu at *
 generalize (pend s x).2.2=bb at *
 generalize (pend s x).2.1=pa at *
 generalize (pend s x).1=wy at *
 generalize decide (uCmp tt oneW<=0)=gt at *
 generalize aGd x=ag at *
 generalize z3j [bk,dl,tl]=bo at *
 go_enter Tryz.func60,Tryz.ntmps60;go_upto_region 1 with fail;generalize (w.alloc (riO x)).alloc (rchO tt mx bk dl tl sl)=w1 at *
 obtain⟨g,hg⟩:∃ g,g=w.heap.size:=⟨_,rfl⟩;rw[<- hg]at HB ⊢;clear hg;obtain⟨i0,i1,i2,i3⟩:=z0g (x:=x) (HB.out.row (g:=g) (o:=riO x) (by simp))
 by_cases g0:x.1<1
 case pos =>
  have d0:decide (x.1<1)=true:=decide_eq_true g0;have h2:e0=2:=by rw[HE0.out,HAGB.out (.inl g0)];rfl
  have HLL:=zh (HLAW.out.1 (by rw[h2];decide));have HR:=zh (FV.done HB.out);clear HLAW HE0 HUP HYU HYD HWG HPD HCU HSU HSD HGR HSH HUN HEQ HB HPS HAGB HAGG HBB HBG HIX;go_wp2_with fail;exact bodyPost_ret_by (results_tmp2 rfl _ _ _) rfl ⟨by rw[HLL.out.1,HLL.out.2.1,h2];rfl,by rw[HLL.out.2.2];exact HR.out⟩
 have d0:decide (x.1<1)=false:=decide_eq_false g0
 by_cases g1:x.2.1<1
 case pos =>
  have d1:decide (x.2.1<1)=true:=decide_eq_true g1;have h2:e0=2:=by rw[HE0.out,HAGB.out (.inr (.inl g1))];rfl
  have HLL:=zh (HLAW.out.1 (by rw[h2];decide));have HR:=zh (FV.done HB.out);clear HLAW HE0 HUP HYU HYD HWG HPD HCU HSU HSD HGR HSH HUN HEQ HB HPS HAGB HAGG HBB HBG HIX;go_wp2_with fail;exact bodyPost_ret_by (results_tmp2 rfl _ _ _) rfl ⟨by rw[HLL.out.1,HLL.out.2.1,h2];rfl,by rw[HLL.out.2.2];exact HR.out⟩
 have d1:decide (x.2.1<1)=false:=decide_eq_false g1
 by_cases g2:x.2.2.1<0
 case pos =>
  have d2:decide (x.2.2.1<0)=true:=decide_eq_true g2;have h2:e0=2:=by rw[HE0.out,HAGB.out (.inr (.inr (.inl g2)))];rfl
  have HLL:=zh (HLAW.out.1 (by rw[h2];decide));have HR:=zh (FV.done HB.out);clear HLAW HE0 HUP HYU HYD HWG HPD HCU HSU HSD HGR HSH HUN HEQ HB HPS HAGB HAGG HBB HBG HIX;go_wp2_with fail;exact bodyPost_ret_by (results_tmp2 rfl _ _ _) rfl ⟨by rw[HLL.out.1,HLL.out.2.1,h2];rfl,by rw[HLL.out.2.2];exact HR.out⟩
 have d2:decide (x.2.2.1<0)=false:=decide_eq_false g2
 by_cases g3:x.2.2.2<0
 case pos =>
  have d3:decide (x.2.2.2<0)=true:=decide_eq_true g3;have h2:e0=2:=by rw[HE0.out,HAGB.out (.inr (.inr (.inr g3)))];rfl
  have HLL:=zh (HLAW.out.1 (by rw[h2];decide));have HR:=zh (FV.done HB.out);clear HLAW HE0 HUP HYU HYD HWG HPD HCU HSU HSD HGR HSH HUN HEQ HB HPS HAGB HAGG HBB HBG HIX;go_wp2_with fail;exact bodyPost_ret_by (results_tmp2 rfl _ _ _) rfl ⟨by rw[HLL.out.1,HLL.out.2.1,h2];rfl,by rw[HLL.out.2.2];exact HR.out⟩
 have d3:decide (x.2.2.2<0)=false:=decide_eq_false g3;have hag:=HAGG.out ⟨g0,g1,g2,g3⟩;subst hag;clear HAGB HAGG g0 g1 g2 g3;obtain⟨a0,a1,a2,a3,b0,b1,b2,b3,x8,y9,za,tb⟩:=z1f (HB.out.row (g:=g+1) (o:=rchO tt mx bk dl tl sl) (by simp));go_wp2_with fail
 go_loopw [46] (fun i wr=>∃ k:Nat,i= .int .i64 k/\k<=3/\(∀ r,r<k->blkB (ze4 bk dl tl r)=false)/\FV b w L s [(g+1,rchO tt mx bk dl tl sl),(g,riO x)] wr) (fun i _=>3-(intOf i).toNat)
 case atStart=>exact⟨0,rfl,by omega,fun r h=>absurd h (by omega),HB.out⟩
 case round =>
  obtain⟨k,rfl,hk,hall,hV⟩:=hrel;have HV:=zh hV;clear hV HB d0 d1 d2 d3 i0 i1 i2 i3 a0 a1 a2 a3 b0 b1 b2 b3 x8 y9 za tb
  by_cases hk3:k<3
  ·have hix:=HIX.out k hk3;have HALL:=zh hall;have HBK:=zh (HBB.out k);have hcs:=zlo (ze4 bk dl tl k);have HNX:Hid (blkB (ze4 bk dl tl k)=false->∀ r,r<k+1->blkB (ze4 bk dl tl r)=false):=fun hb r hr=>by
    by_cases e:r=k
    ·rw[e];exact hb
    ·exact HALL.out r (by omega)
   clear hall HALL;generalize blkB (ze4 bk dl tl k)=bb3 at *
   generalize ze4 bk dl tl k=nk at *
   rcases hcs with⟨hb,hd | ⟨hd,hd2⟩⟩ | ⟨hb,hd,hd2⟩
   ·have h2:e0=2:=by rw[HE0.out,HBK.out hb];rfl
    have HLL:=zh (HLAW.out.1 (by rw[h2];decide));have HR:=zh (FV.done HV.out);clear HLAW HE0 HUP HYU HYD HWG HPD HCU HSU HSD HGR HSH HUN HEQ HV HPS HBB HBG hb HIX HBK HNX;go_wp2_with fail;exact bodyPost_ret_by (results_tmp2 rfl _ _ _) rfl ⟨by rw[HLL.out.1,HLL.out.2.1,h2];rfl,by rw[HLL.out.2.2];exact HR.out⟩
   ·have h2:e0=2:=by rw[HE0.out,HBK.out hb];rfl
    have HLL:=zh (HLAW.out.1 (by rw[h2];decide));have HR:=zh (FV.done HV.out);clear HLAW HE0 HUP HYU HYD HWG HPD HCU HSU HSD HGR HSH HUN HEQ HV HPS HBB HBG hb HIX HBK HNX;go_wp2_with fail;exact bodyPost_ret_by (results_tmp2 rfl _ _ _) rfl ⟨by rw[HLL.out.1,HLL.out.2.1,h2];rfl,by rw[HLL.out.2.2];exact HR.out⟩
   ·have HN2:=zh (HNX.out hb);clear HNX hb;go_wp2_with fail;go_roundw
    case rel=>exact⟨k+1,by go_num,by omega,HN2.out,HV.out⟩
    case measure=>simp[intOf];omega
  ·obtain rfl:k=3:=by omega
   have hbo:=HBG.out hall;subst hbo;clear hall HBB HBG HIX;obtain⟨i0,i1,i2,i3⟩:=z0g (x:=x) (HV.out.row (g:=g) (o:=riO x) (by simp));go_wp2_with fail;refine zm (HCU.out _ _ HV.out) ?_;rintro e w3 ⟨rfl,hB3⟩;have hB4:=hB3.alloc (uO cu);clear hB3 HV HCU i0 i1 i2 i3;go_upto_region 10 with fail;generalize w3.alloc (uO cu)=w4 at *
   generalize w3.heap.size=g10 at *
   have HB4:=zh hB4;clear hB4;obtain⟨i0,i1,i2,i3⟩:=z0g (x:=x) (HB4.out.row (g:=g) (o:=riO x) (by simp));go_wp2_with fail;refine zm (HPD.out _ _ HB4.out) ?_;rintro e w5 ⟨rfl,hB5⟩;have hB6:=(hB5.alloc (uO pa)).less (qs:=[(g10,uO cu),(g+1,rchO tt mx bk dl tl sl),(g,riO x)]) (by simp);clear hB5 HB4 HPD i0 i1 i2 i3
   go_upto_block 2 with fail
   generalize w5.alloc (uO pa)=w6 at *
   generalize w5.heap.size=g12 at *
   have HB6:=zh hB6;clear hB6;obtain⟨a0,a1,a2,a3,b0,b1,b2,b3,x8,y9,za,tb⟩:=z1f (HB6.out.row (g:=g+1) (o:=rchO tt mx bk dl tl sl) (by simp));go_wp2_with fail;refine zm (HWG.out _ _ HB6.out) ?_;rintro e w7 ⟨rfl,hB7⟩;have HB7:=zh hB7;clear hB7 HB6 HWG a0 a1 a2 a3 b0 b1 b2 b3 x8 y9 za tb;cases gt with
   | false =>
    have h2:e0=5:=by rw[HE0.out];rfl
    have HLL:=zh (HLAW.out.1 (by rw[h2];decide));have HR:=zh (FV.done HB7.out);clear HLAW HE0 HUP HYU HYD HSU HSD HGR HSH HUN HEQ HB7 HPS;go_wp2_with fail;exact bodyPost_ret_by (results_tmp2 rfl _ _ _) rfl ⟨by rw[HLL.out.1,HLL.out.2.1,h2];rfl,by rw[HLL.out.2.2];exact HR.out⟩
   | true =>
    by_cases hwy:wy=0
    case neg =>
     have hb1:(wy != 0)=true:=by simpa using hwy
     have hb2:((wy:Int) != 0)=true:=by simpa using (by omega:¬ (wy:Int)=0)
     have hb3:((wy:Int)==0)=false:=by simpa using (by omega:¬ (wy:Int)=0)
     have h2:e0=16:=by rw[HE0.out,if_neg (by decide),if_neg (by decide),if_pos hwy]
     have HLL:=zh (HLAW.out.1 (by rw[h2];decide));have HR:=zh (FV.done HB7.out);clear HLAW HE0 HUP HYU HYD HSU HSD HGR HSH HUN HEQ HB7 HPS hwy;go_wp2_with fail;exact bodyPost_ret_by (results_tmp2 rfl _ _ _) rfl ⟨by rw[HLL.out.1,HLL.out.2.1,h2];rfl,by rw[HLL.out.2.2];exact HR.out⟩
    have hb1:(wy != 0)=false:=by simpa using hwy
    have hb2:((wy:Int) != 0)=false:=by rw[hwy];rfl
    have hb3:((wy:Int)==0)=true:=by rw[hwy];rfl
    have HE1:Hid (e0=if sm then 17 else 0):=by rw[HE0.out,if_neg (by decide),if_neg (by decide),if_neg (by rw[hwy];decide)];exact zh rfl
    obtain⟨a0,a1,a2,a3,b0,b1,b2,b3,x8,y9,za,tb⟩:=z1f (HB7.out.row (g:=g+1) (o:=rchO tt mx bk dl tl sl) (by simp));obtain⟨c0,c1,c2,c3,_⟩:=row4 (HB7.out.u4 (g:=g10) (x:=cu) (by simp));have hE:=HEQ.out;clear HE0 hwy HEQ;cases sm with
    | true =>
     have h2:e0=17:=HE1.out;have HLL:=zh (HLAW.out.1 (by rw[h2];decide));have HR:=zh (FV.done HB7.out);clear HLAW HE1 HUP HYU HYD HSU HSD HGR HSH HUN HB7 HPS;go_wp2_with fail;exact bodyPost_ret_by (results_tmp2 rfl _ _ _) rfl ⟨by rw[HLL.out.1,HLL.out.2.1,h2];rfl,by rw[HLL.out.2.2];exact HR.out⟩
    | false =>
     have h0:e0=0:=HE1.out;have HL:=zh (HLAW.out.2 h0);obtain⟨pa2,pc,hps⟩:=HPS.out _ _ HB7.out;clear HLAW HE1 h0 HPS;go_upto_region 19 with fail;clear hE hps;go_wp2_with fail;refine zm (HSU.out _ _ HB7.out) ?_;rintro e wb ⟨rfl,hB8⟩;have hB9:=hB8.alloc (uO uw);clear hB8 HB7 HSU a0 a1 a2 a3 b0 b1 b2 b3 x8 y9 za tb c0 c1 c2 c3;go_upto_region 20 with fail;generalize wb.alloc (uO uw)=wd at *
     generalize wb.heap.size=g17 at *
     have HB9:=zh hB9;clear hB9;cases up with
     | true =>
      have hub:ub=true:=HUP.out;subst hub;have hye:uw=yy:=HYU.out rfl;subst hye;have HT:=zh (HGR.out (by first | rfl | trivial) (by first | rfl | trivial) (by first | rfl | trivial));have HU:=zh (HUN.out (by first | rfl | trivial) (by first | rfl | trivial));obtain⟨u0,u1,u2,u3,_⟩:=row4 (HB9.out.u4 (g:=g17) (x:=uw) (by simp));obtain⟨i0,i1,i2,i3⟩:=z0g (x:=x) (HB9.out.row (g:=g) (o:=riO x) (by simp));obtain⟨a0,a1,a2,a3,b0,b1,b2,b3,x8,y9,za,tb⟩:=z1f (HB9.out.row (g:=g+1) (o:=rchO tt mx bk dl tl sl) (by simp));clear HYU HYD HUP HGR HSH HUN HSD;go_wp2_with fail;refine zm (HT.out _ _ HB9.out) ?_;rintro e WT ⟨rfl,hVT⟩;have HVT:=zh hVT;clear hVT HB9 HT a0 a1 a2 a3 b0 b1 b2 b3 x8 y9 za tb u0 u1 u2 u3 i0 i1 i2 i3
      by_cases he:te=0
      ·have hb4:(te != 0)=false:=by simpa using he
       have HR:=zh (FV.done HVT.out);have HLL:=zh (HL.out.1 he);clear HL he HVT HU;go_wp2_with fail;exact bodyPost_ret_by (results_tmp2 rfl _ _ _) rfl ⟨by rw[HLL.out.1,HLL.out.2.1];rfl,by rw[HLL.out.2.2];exact HR.out⟩
      ·have hb4:(te != 0)=true:=by simpa using he
       have HLL:=zh (HL.out.2 he);have HU2:=zh (HU.out _ _ HVT.out);clear HL he HU HVT;go_wp2_with fail;refine zm HU2.out ?_;rintro e WU ⟨rfl,hVU⟩;have HR:=zh (FV.done hVU);clear hVU HU2;go_wp2_with fail;exact bodyPost_ret_by (results_tmp2 rfl _ _ _) rfl ⟨by rw[HLL.out.1,HLL.out.2.1];rfl,by rw[HLL.out.2.2];exact HR.out⟩
     | false =>
      have hub:ub=false:=HUP.out;subst hub;have HYE:Hid (dw=yy):=HYD.out rfl;have HT:=zh (HSH.out (by first | rfl | trivial) (by first | rfl | trivial) (by first | rfl | trivial));have HU:=zh (HUN.out (by first | rfl | trivial) (by first | rfl | trivial));obtain⟨c0,c1,c2,c3,_⟩:=row4 (HB9.out.u4 (g:=g10) (x:=cu) (by simp));obtain⟨a0,a1,a2,a3,b0,b1,b2,b3,x8,y9,za,tb⟩:=z1f (HB9.out.row (g:=g+1) (o:=rchO tt mx bk dl tl sl) (by simp));clear HYU HYD HUP HGR HSH HUN;go_wp2_with fail;refine zm (HSD.out _ _ HB9.out) ?_;rintro e we ⟨rfl,hBE⟩;have hBF:=hBE.alloc (uO dw);rw[HYE.out]at hBF;clear hBE HB9 HSD a0 a1 a2 a3 b0 b1 b2 b3 x8 y9 za tb c0 c1 c2 c3;go_upto_region 23 with fail;rw[HYE.out];generalize we.alloc (uO yy)=wf at *
      generalize we.heap.size=g19 at *
      have HBF:=zh hBF;clear hBF HYE;obtain⟨u0,u1,u2,u3,_⟩:=row4 (HBF.out.u4 (g:=g19) (x:=yy) (by simp));obtain⟨i0,i1,i2,i3⟩:=z0g (x:=x) (HBF.out.row (g:=g) (o:=riO x) (by simp));obtain⟨a0,a1,a2,a3,b0,b1,b2,b3,x8,y9,za,tb⟩:=z1f (HBF.out.row (g:=g+1) (o:=rchO tt mx bk dl tl sl) (by simp));go_wp2_with fail;refine zm (HT.out _ _ HBF.out) ?_;rintro e WT ⟨rfl,hVT⟩;have HVT:=zh hVT;clear hVT HBF HT a0 a1 a2 a3 b0 b1 b2 b3 x8 y9 za tb u0 u1 u2 u3 i0 i1 i2 i3
      by_cases he:te=0
      ·have hb4:(te != 0)=false:=by simpa using he
       have HR:=zh (FV.done HVT.out);have HLL:=zh (HL.out.1 he);clear HL he HVT HU;go_wp2_with fail;exact bodyPost_ret_by (results_tmp2 rfl _ _ _) rfl ⟨by rw[HLL.out.1,HLL.out.2.1];rfl,by rw[HLL.out.2.2];exact HR.out⟩
      ·have hb4:(te != 0)=true:=by simpa using he
       have HLL:=zh (HL.out.2 he);have HU2:=zh (HU.out _ _ HVT.out);clear HL he HU HVT;go_wp2_with fail;refine zm HU2.out ?_;rintro e WU ⟨rfl,hVU⟩;have HR:=zh (FV.done hVU);clear hVU HU2;go_wp2_with fail;exact bodyPost_ret_by (results_tmp2 rfl _ _ _) rfl ⟨by rw[HLL.out.1,HLL.out.2.1];rfl,by rw[HLL.out.2.2];exact HR.out⟩
end Go.Proofs.YtnkilceibkkjlaaGreat
