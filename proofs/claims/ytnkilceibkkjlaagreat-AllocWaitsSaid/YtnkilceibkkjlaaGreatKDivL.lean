/- What is proved here: u256.Div of the program, by a diviso -/
import Derived.Test.YtnkilceibkkjlaaGreatKDivP
set_option maxRecDepth 100000
set_option maxHeartbeats 16000000
namespace Go.Proofs.YtnkilceibkkjlaaGreat
open Go.RowKit
theorem znb(x:W4)(d:Nat)(hx:x.Ok)(hd:0<d)(hd32:d<4294967296)(h:d<=uN x)(w:World):Calls Tryz.prog 220 #[uV x,uV (d,0,0,0)] w (zcm x (d,0,0,0) w):=by
 have hy:W4.Ok (d,0,0,0):=⟨by show d<_;omega,by show 0<_;decide,by show 0<_;decide,by show 0<_;decide⟩;have hN:uN (d,0,0,0)=d:=by simp only[uN];omega
 have H0:=zh (KAt.start w x (d,0,0,0));obtain⟨a0,a1,a2,a3,_⟩:=row4 H0.out.y;have hne:(d,0,0,0)≠((0,0,0,0):W4):=fun e=>by have:=congrArg Prod.fst e;simp only at this;omega
 have hE:∀ w,(Op.equalIn 10000 24 (.agg #[.int .u64 d,.int .u64 0,.int .u64 0,.int .u64 0]) (.agg #[.int .u64 0,.int .u64 0,.int .u64 0,.int .u64 0])).run Tryz.prog w= .ok false w:=z7b hne;have hE2:∀ w,(Op.equalIn 10000 24 (.agg #[.int .u64 d,.int .u64 0,.int .u64 0,.int .u64 0]) (.agg #[.int .u64 d,.int .u64 0,.int .u64 0,.int .u64 0])).run Tryz.prog w= .ok true w:=fun w=>by
  have:=eqU (d,0,0,0) (d,0,0,0) w;rw[decide_eq_true rfl]at this;exact this
 have hdl:decide (((d:Nat):Int)<=4294967295)=true:=decide_eq_true (by omega);have hdl2:decide (4294967295<((d:Nat):Int))=false:=decide_eq_false (by omega);obtain⟨c,hc,hc0⟩:∃ c:Int,uCmp x (d,0,0,0)=c/\decide (c<0)=false:=⟨_,rfl,by unfold uCmp;rw[hN,if_neg (by omega)];split<;>decide⟩;have HC:Hid (Calls Tryz.prog 58 #[uV x,uV (d,0,0,0)] (w4 w x (d,0,0,0)) fun e w'=>e= .returned (.int .i64 c)/\KAt w x (d,0,0,0) w'/\Cel4 (w.heap.size+1) (d,0,0,0) w'/\Cel4 w.heap.size x w'):=(z4x x (d,0,0,0) hx hy _).mono fun e w' ⟨he,hb⟩=>⟨by rw[he,hc],H0.out.below hb,z1t (H0.out.below hb).y,z1t (H0.out.below hb).x⟩
 have HS:Hid (∀ W,KAt w x (d,0,0,0) W->Calls Tryz.prog 246 #[uV x,.int .u64 d] W fun e w'=>e= .returned (.tuple #[uV (uOf (uN x/d)),.int .u64 ((uN x%d:Nat):Int)])/\KAt w x (d,0,0,0) w'):=fun W hK=>(zqv x d hx hd hd32 W).mono fun e w' ⟨he,hb⟩=>⟨he,hK.below hb⟩
 have hlt:=z2i hx;have HE:Hid (Ending.returned (.tuple #[uV (uOf (uN x/d)),uV (uN x%d,0,0,0),.bool true])=Ending.returned (.tuple #[uV (divQ x (d,0,0,0)),uV (divR x (d,0,0,0)),.bool (divB (d,0,0,0))])):=by
  have hm:=Nat.mod_lt (uN x) hd;have e1:divQ x (d,0,0,0)=uOf (uN x/d):=by unfold divQ;rw[hN]
  have e2:divR x (d,0,0,0)=(uN x%d,0,0,0):=by
   unfold divR;rw[hN,if_neg (by omega)];refine z6c (z1y _) ⟨by show uN x%d<_;omega,by show 0<_;decide,by show 0<_;decide,by show 0<_;decide⟩ ?_;rw[z5f (by omega)];simp only[uN];omega
  have e3:divB (d,0,0,0)=true:=by unfold divB;rw[hN];exact decide_eq_true (by omega)
  rw[e1,e2,e3];exact zh rfl
 have HOf:Hid (∀ W,Calls Tryz.prog 86 #[.int .u64 ((uN x%d:Nat):Int)] W fun e w'=>e= .returned (uV (uN x%d,0,0,0))/\Below W.heap.size W w'):=fun W=>ziz _ W
 clear hne h hN hlt hc hy;generalize hq:uOf (uN x/d)=q at *
 generalize uN x%d=r at *
 clear hq;go_enter Tryz.func220,Tryz.ntmps220;go_wp2_with fail;refine zm HC.out ?_;rintro e w1 ⟨rfl,hK,⟨b0,b1,b2,b3⟩,e0,e1,e2,e3⟩;have HK1:=zh (HS.out _ hK);clear hK HC H0;go_wp2_with fail;refine zm HK1.out ?_;rintro e w2 ⟨rfl,hK⟩;obtain⟨c0,c1,c2,c3,r0,r1,r2,r3⟩:=row4 hK.z;obtain⟨d0,d1,d2,d3,s0,s1,s2,s3⟩:=row4 hK.v;have hKb:=hK.below (z00 zb (.cells (uL q) 24));have hrow:=heap_alloc_new w2 (.cells (uL q) 24);clear hK HS HK1 b0 b1 b2 b3 e0 e1 e2 e3 a0 a1 a2 a3 c0 c1 c2 c3 d0 d1 d2 d3 r0 r1 r2 r3 s0 s1 s2 s3;go_upto_region 7 with fail;generalize w2.alloc (.cells (uL q) 24)=wb at *
 generalize w2.heap.size=p at *
 obtain⟨f0,f1,f2,f3,_⟩:=row4 hrow;have HO2:Hid (Calls Tryz.prog 86 #[.int .u64 r] wb.drew fun e w'=>e= .returned (uV (r,0,0,0))/\KAt w x (d,0,0,0) w'/\Cel4 p q w'):=(HOf.out wb.drew).mono fun e w' ⟨he,hb⟩=>⟨he,(hKb.below (z0h zb)).below hb,z1t ((hb.block _ (z02 hrow)).trans hrow)⟩
 have HKb:=zh hKb;clear hKb hrow HOf
 go_region_with (go_at_call 86;(with_reducible refine zm HO2.out ?_);rintro e w3 ⟨rfl,hK3,k0,k1,k2,k3⟩;obtain⟨c0,c1,c2,c3,r0,r1,r2,r3⟩:=row4 hK3.z;obtain⟨d0,d1,d2,d3,s0,s1,s2,s3⟩:=row4 hK3.v)
 all_goals
  have HP:=zh (hK3.put q (r,0,0,0));clear hK3;go_wp2_with fail;refine bodyPost_ret (z2x rfl _ _ (w.heap.size+2) (w.heap.size+3) 24 (uL q) (uL (r,0,0,0)) (0,0) _ rfl ?_ rfl ?_ Tryz.underlying24 rfl (by kernel_rfl) (by kernel_rfl)) rfl ?_
  ·exact HP.out.2.1
  ·exact HP.out.2.2
  ·exact⟨HE.out,HP.out.1⟩
abbrev qAt(N d k:Nat):W4:=uOf (N/2 ^ k/d)
abbrev rAt(N d k:Nat):W4:=uOf (N/2 ^ k%d)
theorem zte(x y:W4)(hx:x.Ok)(hy:y.Ok)(h:uN y<=uN x)(hbig:y≠(y.1,0,0,0)\/4294967295<y.1)(hy0:0<uN y)(w:World):Calls Tryz.prog 220 #[uV x,uV y] w (zcm x y w):=by
 have H0:=zh (KAt.start w x y);obtain⟨a0,a1,a2,a3,_⟩:=row4 H0.out.y;have hne:y≠(0,0,0,0):=fun e=>by rw[zek.1 e]at hy0;omega
 have hE:=z7b hne;have hE2:=zvb y;have hlt:=z2i hx;have hdlt:=z2i hy;obtain⟨c,hc,hc0⟩:∃ c:Int,uCmp x y=c/\decide (c<0)=false:=⟨_,rfl,by unfold uCmp;rw[if_neg (by omega)];split<;>decide⟩;have HC:Hid (Calls Tryz.prog 58 #[uV x,uV y] (w4 w x y) fun e w'=>e= .returned (.int .i64 c)/\KAt w x y w'/\Cel4 (w.heap.size+1) y w'/\Cel4 w.heap.size x w'):=(z4x x y hx hy _).mono fun e w' ⟨he,hb⟩=>⟨by rw[he,hc],H0.out.below hb,z1t (H0.out.below hb).y,z1t (H0.out.below hb).x⟩
 have HE:Hid (Ending.returned (.tuple #[uV (qAt (uN x) (uN y) 0),uV (rAt (uN x) (uN y) 0),.bool true])=Ending.returned (.tuple #[uV (divQ x y),uV (divR x y),.bool (divB y)])):=by
  have e1:divQ x y=qAt (uN x) (uN y) 0:=by unfold divQ qAt;rw[Nat.pow_zero,Nat.div_one]
  have e2:divR x y=rAt (uN x) (uN y) 0:=by unfold divR rAt;rw[if_neg (by omega),Nat.pow_zero,Nat.div_one]
  have e3:divB y=true:=by unfold divB;exact decide_eq_true (by omega)
  rw[e1,e2,e3];exact zh rfl
 have HBi:Hid (∀ W,KAt w x y W->Calls Tryz.prog 247 #[uV x] W fun e w'=>∃ b:Nat,e= .returned (.int .i64 b)/\uN x<2 ^ b/\b<=256/\KAt w x y w'):=fun W hK=>(zbl x hx W).mono fun e w' ⟨b,he,h1,h2,hb⟩=>⟨b,he,h1,h2,hK.below hb⟩
 have hdec:(decide (y=(y.1,0,0,0))&&decide (y.1<=4294967295))=false:=by
  rcases hbig with h1 | h1
  ·rw[decide_eq_false h1];rfl
  ·rw[decide_eq_false (show ¬ y.1<=4294967295 by omega),Bool.and_false]
 clear hne h hc
 by_cases hfst:y=(y.1,0,0,0)
 ·have hyl:4294967295<y.1:=by
   rcases hbig with h1 | h1
   ·exact absurd hfst h1
   ·exact h1
  rw[decide_eq_true hfst]at hE2;have hdl:decide (((y.1:Nat):Int)<=4294967295)=false:=decide_eq_false (by omega);have hdl2:decide (4294967295<((y.1:Nat):Int))=true:=decide_eq_true (by omega);have HFst:=zh hfst;clear hdec hbig hyl hfst;go_enter Tryz.func220,Tryz.ntmps220;go_wp2_with fail;refine zm HC.out ?_;rintro e w1 ⟨rfl,hK,⟨b0,b1,b2,b3⟩,e0,e1,e2,e3⟩;have hL:=hK.long (.cells #[.int .u64 0,.int .u64 0,.int .u64 0,.int .u64 0] 24) (.cells #[.int .u64 0,.int .u64 0,.int .u64 0,.int .u64 0] 24) (0,0,0,0) (0,0,0,0) rfl rfl;obtain⟨f0,f1,f2,f3,_⟩:=row4 hL.x;have HBL:Hid (Calls Tryz.prog 247 #[uV x] ((w1.alloc (.cells #[.int .u64 0,.int .u64 0,.int .u64 0,.int .u64 0] 24)).alloc (.cells #[.int .u64 0,.int .u64 0,.int .u64 0,.int .u64 0] 24)) fun e w'=>∃ b:Nat,e= .returned (.int .i64 b)/\uN x<2 ^ b/\b<=256/\LAt w1.heap.size w x y (0,0,0,0) (0,0,0,0) w'):=(zbl x hx _).mono fun e w' ⟨b,he,h1,h2,hb⟩=>⟨b,he,h1,h2,hL.below hb⟩
  clear hK HC H0 HBi hL;go_wp2_with fail;refine zm HBL.out ?_;rintro e w2 ⟨b,rfl,hNb,hb256,hL⟩;have HN:=zh hNb;have HL:=zh hL;generalize w1.heap.size=g at *
  clear hNb hL HBL;go_wp2_with fail;have HSt:Hid (LAt g w x y (qAt (uN x) (uN y) b) (rAt (uN x) (uN y) b) w2):=by
   have e:uN x/2 ^ b=0:=Nat.div_eq_of_lt HN.out;unfold qAt rAt;rw[e,Nat.zero_div,Nat.zero_mod];exact HL.out
  clear HL
  go_loopw [11] (fun iv wr=>∃ k:Nat,iv= .int .i64 ((k:Int)-1)/\k<=256/\LAt g w x y (qAt (uN x) (uN y) k) (rAt (uN x) (uN y) k) wr) (fun iv _=>(intOf iv+1).toNat)
  case atStart=>exact⟨b,rfl,hb256,HSt.out⟩
  case round =>
   obtain⟨k,rfl,hk,hA⟩:=hrel;have HA:=zh hA;clear hA HSt HN;cases k with
   | zero =>
    have hK0:=HA.out;obtain⟨t0,t1,t2,t3,_⟩:=row4 HA.out.q;obtain⟨u0,u1,u2,u3,_⟩:=row4 HA.out.r;obtain⟨c0,c1,c2,c3,r0,r1,r2,r3⟩:=row4 HA.out.z;obtain⟨d0,d1,d2,d3,s0,s1,s2,s3⟩:=row4 HA.out.v;have HP:=zh ((KAt.mk HA.out.b HA.out.x HA.out.y HA.out.z HA.out.v).put (qAt (uN x) (uN y) 0) (rAt (uN x) (uN y) 0));have hg:=HA.out.hg;have n1:g≠w.heap.size+1+1:=by omega
    have n2:g≠w.heap.size+1+1+1:=by omega
    have n3:g+1≠w.heap.size+1+1:=by omega
    have n4:g+1≠w.heap.size+1+1+1:=by omega
    have n5:w.heap.size+1+1≠g:=by omega
    have n6:w.heap.size+1+1+1≠g:=by omega
    have n7:w.heap.size+1+1≠g+1:=by omega
    have n8:w.heap.size+1+1+1≠g+1:=by omega
    clear hK0 hg;generalize qAt (uN x) (uN y) 0=q at *
    generalize rAt (uN x) (uN y) 0=r at *
    go_wp2_with fail
    go_region
    all_goals
     go_wp2_with fail;refine bodyPost_ret (z2x rfl _ _ (w.heap.size+2) (w.heap.size+3) 24 (uL q) (uL r) (0,0) _ rfl ?_ rfl ?_ Tryz.underlying24 rfl (by kernel_rfl) (by kernel_rfl)) rfl ?_
     ·exact z6n HP.out.2.1
     ·exact z6n HP.out.2.2
     ·exact⟨HE.out,z0h HP.out.1⟩
   | succ k =>
    have hz:((k+1:Nat):Int)-1=(k:Int):=by omega
    have hlt:k<256:=by omega
    have h4:k/64<4:=by omega
    have hbit:=zkj hx k hlt;have hbl:=Nat.mod_lt (uN x/2 ^ k) (show 0<2 by decide);have hrl:=Nat.mod_lt (uN x/2 ^ (k+1)) hy0;have hql:uN x/2 ^ (k+1)/uN y<=uN x/2:=Nat.le_trans (Nat.div_le_self _ _) (Nat.div_le_div_left (by rw[Nat.pow_succ];exact Nat.le_mul_of_pos_left _ (Nat.pow_pos (by decide))) (by decide));obtain⟨db1,db2⟩:=zgc (uN x) (uN y) k hy0;obtain⟨dr1,dr2,dr3⟩:=zbv (y:=rAt (uN x) (uN y) (k+1)) (b:=uN x/2 ^ k%2) (z1y _) hy hrl (by omega) (z5f (by omega));obtain⟨dq1,dq2,dq3⟩:=zn8 (q:=uN x/2 ^ (k+1)/uN y) (by omega);have cX:wr.cell? ⟨w.heap.size,k/64,none⟩=some (.int .u64 (x.at (k/64))):=by rw[cell_of_row _ _ _ _ _ _ HA.out.x];exact z4v x _ h4
    obtain⟨u0,u1,u2,u3,_⟩:=row4 HA.out.r;have HD1:Hid (Calls Tryz.prog 248 #[uV (rAt (uN x) (uN y) (k+1)),.int .u64 ((uN x/2 ^ k%2:Nat):Int)] wr.drew fun e w'=>e= .returned (.tuple #[uV (dblW (rAt (uN x) (uN y) (k+1)) (uN x/2 ^ k%2) 4),.int .u64 (dblC (rAt (uN x) (uN y) (k+1)) (uN x/2 ^ k%2) 4)])/\LAt g w x y (qAt (uN x) (uN y) (k+1)) (rAt (uN x) (uN y) (k+1)) w'):=(z8a _ _ (z1y _) (by omega) _).mono fun e w' ⟨he,hb⟩=>⟨he,HA.out.drew.below hb⟩
    have HD2:Hid (∀ W R,LAt g w x y (qAt (uN x) (uN y) (k+1)) R W->Calls Tryz.prog 248 #[uV (qAt (uN x) (uN y) (k+1)),.int .u64 0] W fun e w'=>e= .returned (.tuple #[uV (uOf (2*(uN x/2 ^ (k+1)/uN y))),.int .u64 (dblC (qAt (uN x) (uN y) (k+1)) 0 4)])/\LAt g w x y (qAt (uN x) (uN y) (k+1)) R w'):=fun W R hL=>(z8a _ 0 (z1y _) (by omega) _).mono fun e w' ⟨he,hb⟩=>⟨by rw[he];unfold qAt;rw[dq1],hL.below hb⟩
    have hRok:=(za7 (x:=rAt (uN x) (uN y) (k+1)) (z1y _) (b:=uN x/2 ^ k%2) (by omega)).1;have HSb:Hid (∀ W Q R,R.Ok->LAt g w x y Q R W->Calls Tryz.prog 71 #[uV R,uV y] W fun e w'=>e= .returned (.tuple #[uV (if z3l R y=0 then z3s R y else(0,0,0,0)),.bool (z3l R y==0)])/\LAt g w x y Q R w'):=fun W Q R hR hL=>(z9v R y hR hy W).mono fun e w' ⟨he,hb⟩=>⟨he,hL.below hb⟩
    have HWr:Hid (∀ W Q R u,R.Ok->LAt g w x y Q R W->Calls Tryz.prog 249 #[uV R,uV y] (W.alloc (.cells (uL u) 24)) fun e w'=>e= .returned (uV (z3s R y))/\LAt g w x y Q R w'/\w'.heap[W.heap.size]?=some (.cells (uL u) 24 (0,0))/\g+1<W.heap.size):=fun W Q R u hR hL=>(wrap_any R y hR hy _).mono fun e w' ⟨he,hb⟩=>⟨he,(hL.alloc _).below hb,(hb.block _ (by simp)).trans (heap_alloc_new W _),z02 hL.r⟩
    have HQ1:Hid (uN y<=2*(uN x/2 ^ (k+1)%uN y)+uN x/2 ^ k%2->(uOf (2*(uN x/2 ^ (k+1)/uN y))).set 0 ((uOf (2*(uN x/2 ^ (k+1)/uN y))).at 0+1)=qAt (uN x) (uN y) k/\uOf (2*(uN x/2 ^ (k+1)%uN y)+uN x/2 ^ k%2-uN y)=rAt (uN x) (uN y) k):=fun h=>by
     obtain⟨e1,e2⟩:=db2 h;unfold qAt rAt;rw[dq2,e1,e2];exact⟨rfl,rfl⟩
    have HQ0:Hid (2*(uN x/2 ^ (k+1)%uN y)+uN x/2 ^ k%2<uN y->uOf (2*(uN x/2 ^ (k+1)/uN y))=qAt (uN x) (uN y) k/\uOf (2*(uN x/2 ^ (k+1)%uN y)+uN x/2 ^ k%2)=rAt (uN x) (uN y) k):=fun h=>by
     obtain⟨e1,e2⟩:=db1 h;unfold qAt rAt;rw[e1,e2];exact⟨rfl,rfl⟩
    have HR1:=zh dr1;have HR2:=zh dr2;have HR3:=zh dr3;have HDQ:=zh dq3;rw[hz];have HKB:Hid (k+1<=256):=hk;clear hrl hql db1 db2 dr1 dr2 dr3 dq1 dq2 dq3 hz hk HE hlt hdlt;generalize hr0:rAt (uN x) (uN y) (k+1)=r at *
    generalize hq0:qAt (uN x) (uN y) (k+1)=q at *
    generalize uOf (2*(uN x/2 ^ (k+1)/uN y))=Q at *
    generalize 2*(uN x/2 ^ (k+1)%uN y)+uN x/2 ^ k%2=t at *
    generalize uN x/2 ^ k%2=bt at *
    generalize dblW r bt 4=R at *
    generalize dblC r bt 4=ov at *
    have hbk:bits .and .u64 (((x.at (k/64):Nat):Int)/2 ^ (k%64)) 1=(bt:Int):=hbit;have hbk2:bits .and .u64 (((x.at (k/64):Nat):Int)/2 ^ (((k:Int)%64).toNat)) 1=(bt:Int):=by
     rw[show((k:Int)%64).toNat=k%64 by omega];exact hbit
    clear hbit hr0 hq0;have hk256:k<256:=by have:=HKB.out;omega
    have q1:(k:Int).tdiv 64=((k/64:Nat):Int):=by rw[Int.tdiv_eq_ediv_of_nonneg (by omega)];rfl
    have q2:(k:Int).tmod 64=((k%64:Nat):Int):=by rw[Int.tmod_eq_emod_of_nonneg (by omega)];rfl
    have q3:IntKind.i64.wrap ((k/64:Nat):Int)=((k/64:Nat):Int):=by rw[IntKind.wrap_i64];omega
    have q4:IntKind.i64.wrap ((k%64:Nat):Int)=((k%64:Nat):Int):=by rw[IntKind.wrap_i64];omega
    have q5:((k/64:Nat):Int)<4:=by omega
    have q6:(k:Int)/64<4:=by omega
    have q8:IntKind.i64.wrap ((k:Int)/64)=((k/64:Nat):Int):=by rw[IntKind.wrap_i64];omega
    have q9:IntKind.i64.wrap ((k:Int)%64)=((k%64:Nat):Int):=by rw[IntKind.wrap_i64];omega
    go_upto_region 13 with fail
    go_cut [12] (fun s12 wc=>s12= .int .u64 ov/\LAt g w x y q R wc)
    case first =>
     go_region_with (go_at_call 248;(with_reducible refine zm HD1.out ?_);rintro e w3 ⟨rfl,hL3⟩;obtain⟨v0,v1,v2,v3,v4,v5,v6,v7⟩:=row4 hL3.r)
     all_goals
      have HL3:=zh (hL3.putR R);go_wp2_with fail
      go_meet
      exact⟨rfl,HL3.out⟩
    case rest =>
     obtain⟨rfl,hL3⟩:=hcut;have HL3:=zh hL3;obtain⟨z0,z1,z2,z3,_⟩:=row4 hL3.q;have HD2a:=zh (HD2.out wc R hL3);clear hL3 HD1 cX hbk hbk2 HD2 u0 u1 u2 u3;go_wp2_with fail;refine zm HD2a.out ?_;rintro e w4 ⟨rfl,hL4⟩;have HL4:=zh (hL4.putQ Q);obtain⟨v0,v1,v2,v3,v4,v5,v6,v7⟩:=row4 hL4.q;obtain⟨k0,k1,k2,k3,_⟩:=row4 (hL4.putQ Q).r;obtain⟨m0,m1,m2,m3,_⟩:=row4 (hL4.putQ Q).y;have HS5:=zh (HSb.out (st4 w4 g Q) Q R hRok (hL4.putQ Q));clear hL4 HD2a z0 z1 z2 z3 HL3
     by_cases ht:t<uN y
     ·obtain⟨o1,o2,o3⟩:=HR1.out ht;obtain⟨p1,p2⟩:=HQ0.out ht;have HF:Hid (∀ W,LAt g w x y Q R W->LAt g w x y (qAt (uN x) (uN y) k) (rAt (uN x) (uN y) k) W):=fun W h=>by
       rw[<- p1,<- p2,<- o3];exact h
      have hsb:(z3l R y==0)=false:=beq_eq_false_iff_ne.2 o2;rw[hsb,if_neg o2]at HS5;have hov:(((ov:Nat):Int)==0)=true:=beq_iff_eq.2 (by omega);have hov2:(((ov:Nat):Int) != 0)=false:=by rw[bne,hov];rfl
      clear o1 o2 o3 p1 p2 hsb HR1 HR2 HR3 HQ0 HQ1 HSb HWr;go_wp2_with fail;refine zm HS5.out ?_;rintro e w5 ⟨rfl,hL5⟩;have HL5:=zh (HF.out _ (hL5.alloc (.cells #[.int .u64 0,.int .u64 0,.int .u64 0,.int .u64 0] 24)));clear hL5 HS5 HF;go_wp2_with fail;go_roundw
      case rel=>exact⟨k,by go_num,by omega,HL5.out⟩
      case measure=>simp[intOf]
     ·have hte:uN y<=t:=by omega
      obtain⟨p1,p2⟩:=HQ1.out hte
      by_cases hz:ov=0
      ·obtain⟨o1,o2⟩:=HR2.out hte hz;have HF:Hid (∀ W,LAt g w x y (Q.set 0 (Q.at 0+1)) (z3s R y) W->LAt g w x y (qAt (uN x) (uN y) k) (rAt (uN x) (uN y) k) W):=fun W h=>by
        rw[<- p1,<- p2,<- o2];exact h
       have hsb:(z3l R y==0)=true:=beq_iff_eq.2 o1;rw[hsb,if_pos o1]at HS5;clear o1 o2 p1 p2 hsb HR1 HR2 HR3 HQ0 HQ1 HSb HWr hz hte ht;generalize z3s R y=S at *
       go_wp2_with fail;refine zm HS5.out ?_;rintro e w5 ⟨rfl,hL5⟩;have hL6:=hL5.alloc (.cells (uL S) 24);have hrow:=heap_alloc_new w5 (.cells (uL S) 24);have hlt5:=z02 hL5.r;clear hL5 HS5;go_upto_region 19 with fail;generalize w5.alloc (.cells (uL S) 24)=w6 at *
       generalize w5.heap.size=p at *
       obtain⟨f0,f1,f2,f3,f4,f5,f6,f7⟩:=row4 hL6.r;obtain⟨g0,g1,g2,g3,g4,g5,g6,g7⟩:=row4 hL6.q;obtain⟨i0,i1,i2,i3,_⟩:=row4 hrow;have HL7:=zh (HF.out _ ((hL6.putR S).setQ 0 (Q.at 0+1) (by decide)));have HQB:=HDQ.out;have hqb:bits .or .u64 ((Q.1:Nat):Int) 1=((Q.at 0+1:Nat):Int):=HQB;have HQE:=zh hqb;clear hqb HQB hL6 hrow HF HDQ;go_wp2_with fail;go_roundw
       case rel=>exact⟨k,by go_num,by omega,by rw[HQE.out];exact HL7.out⟩
       case measure=>simp[intOf]
      ·obtain⟨o1,o2⟩:=HR3.out hte hz;have HF:Hid (∀ W,LAt g w x y (Q.set 0 (Q.at 0+1)) (z3s R y) W->LAt g w x y (qAt (uN x) (uN y) k) (rAt (uN x) (uN y) k) W):=fun W h=>by
        rw[<- p1,<- p2,<- o2];exact h
       have hsb:(z3l R y==0)=false:=beq_eq_false_iff_ne.2 o1;rw[hsb,if_neg o1]at HS5;have hov:(((ov:Nat):Int)==0)=false:=beq_eq_false_iff_ne.2 (by omega);have hov2:(((ov:Nat):Int) != 0)=true:=by rw[bne,hov];rfl
       clear o1 o2 p1 p2 hsb HR1 HR2 HR3 HQ0 HQ1 HSb hz hte ht;go_wp2_with fail;refine zm HS5.out ?_;rintro e w5 ⟨rfl,hL5⟩;have HW5:=HWr.out w5 Q R (0,0,0,0) hRok hL5;have hL5a:=hL5.alloc (.cells #[.int .u64 0,.int .u64 0,.int .u64 0,.int .u64 0] 24);have hW5:Calls Tryz.prog 249 #[uV R,uV y] (w5.alloc (.cells #[.int .u64 0,.int .u64 0,.int .u64 0,.int .u64 0] 24)) fun e w'=>e= .returned (uV (z3s R y))/\LAt g w x y Q R w'/\w'.heap[w5.heap.size]?=some (.cells (uL (0,0,0,0)) 24 (0,0))/\g+1<w5.heap.size:=HW5
       obtain⟨k0,k1,k2,k3,_⟩:=row4 hL5a.r;obtain⟨m0,m1,m2,m3,_⟩:=row4 hL5a.y;have hlt5:=z02 hL5.r;clear hL5 HS5 HWr HW5 hL5a;have HW6:=zh hW5;clear hW5;generalize z3s R y=S at *
       go_upto_region 18 with fail;generalize w5.alloc (.cells #[.int .u64 0,.int .u64 0,.int .u64 0,.int .u64 0] 24)=w6a at *
       generalize w5.heap.size=p at *
       go_wp2_with fail;refine zm HW6.out ?_;rintro e w6b ⟨rfl,hL6b,hrowb,hltp⟩;obtain⟨_,_,_,_,v8,v9,v10,v11⟩:=row4 hrowb;have hL6:LAt g w x y Q R ((((w6b.setCell ⟨p,0,none⟩ (.int .u64 S.1)).setCell ⟨p,1,none⟩ (.int .u64 S.2.1)).setCell ⟨p,2,none⟩ (.int .u64 S.2.2.1)).setCell ⟨p,3,none⟩ (.int .u64 S.2.2.2)):=hL6b.putO p S hltp;have hrow:((((w6b.setCell ⟨p,0,none⟩ (.int .u64 S.1)).setCell ⟨p,1,none⟩ (.int .u64 S.2.1)).setCell ⟨p,2,none⟩ (.int .u64 S.2.2.1)).setCell ⟨p,3,none⟩ (.int .u64 S.2.2.2)).heap[p]?=some (.cells (uL S) 24 (0,0)):=ze9 hrowb S;obtain⟨j0,j1,j2,j3,_⟩:=row4 hrowb;clear HW6 hL6b hrowb;go_upto_region 19 with fail;generalize (((w6b.setCell ⟨p,0,none⟩ (.int .u64 S.1)).setCell ⟨p,1,none⟩ (.int .u64 S.2.1)).setCell ⟨p,2,none⟩ (.int .u64 S.2.2.1)).setCell ⟨p,3,none⟩ (.int .u64 S.2.2.2)=w6 at *
       obtain⟨f0,f1,f2,f3,f4,f5,f6,f7⟩:=row4 hL6.r;obtain⟨g0,g1,g2,g3,g4,g5,g6,g7⟩:=row4 hL6.q;obtain⟨i0,i1,i2,i3,_⟩:=row4 hrow;have HL7:=zh (HF.out _ ((hL6.putR S).setQ 0 (Q.at 0+1) (by decide)));have HQB:=HDQ.out;have hqb:bits .or .u64 ((Q.1:Nat):Int) 1=((Q.at 0+1:Nat):Int):=HQB;have HQE:=zh hqb;clear hqb HQB hL6 hrow HF HDQ;go_wp2_with fail;go_roundw
       case rel=>exact⟨k,by go_num,by omega,by rw[HQE.out];exact HL7.out⟩
       case measure=>simp[intOf]
 ·rw[decide_eq_false hfst]at hE2;clear hdec hbig hfst;go_enter Tryz.func220,Tryz.ntmps220;go_wp2_with fail;refine zm HC.out ?_;rintro e w1 ⟨rfl,hK,⟨b0,b1,b2,b3⟩,e0,e1,e2,e3⟩;have hL:=hK.long (.cells #[.int .u64 0,.int .u64 0,.int .u64 0,.int .u64 0] 24) (.cells #[.int .u64 0,.int .u64 0,.int .u64 0,.int .u64 0] 24) (0,0,0,0) (0,0,0,0) rfl rfl;obtain⟨f0,f1,f2,f3,_⟩:=row4 hL.x;have HBL:Hid (Calls Tryz.prog 247 #[uV x] ((w1.alloc (.cells #[.int .u64 0,.int .u64 0,.int .u64 0,.int .u64 0] 24)).alloc (.cells #[.int .u64 0,.int .u64 0,.int .u64 0,.int .u64 0] 24)) fun e w'=>∃ b:Nat,e= .returned (.int .i64 b)/\uN x<2 ^ b/\b<=256/\LAt w1.heap.size w x y (0,0,0,0) (0,0,0,0) w'):=(zbl x hx _).mono fun e w' ⟨b,he,h1,h2,hb⟩=>⟨b,he,h1,h2,hL.below hb⟩
  clear hK HC H0 HBi hL;go_wp2_with fail;refine zm HBL.out ?_;rintro e w2 ⟨b,rfl,hNb,hb256,hL⟩;have HN:=zh hNb;have HL:=zh hL;generalize w1.heap.size=g at *
  clear hNb hL HBL;go_wp2_with fail;have HSt:Hid (LAt g w x y (qAt (uN x) (uN y) b) (rAt (uN x) (uN y) b) w2):=by
   have e:uN x/2 ^ b=0:=Nat.div_eq_of_lt HN.out;unfold qAt rAt;rw[e,Nat.zero_div,Nat.zero_mod];exact HL.out
  clear HL
  go_loopw [11] (fun iv wr=>∃ k:Nat,iv= .int .i64 ((k:Int)-1)/\k<=256/\LAt g w x y (qAt (uN x) (uN y) k) (rAt (uN x) (uN y) k) wr) (fun iv _=>(intOf iv+1).toNat)
  case atStart=>exact⟨b,rfl,hb256,HSt.out⟩
  case round =>
   obtain⟨k,rfl,hk,hA⟩:=hrel;have HA:=zh hA;clear hA HSt HN;cases k with
   | zero =>
    have hK0:=HA.out;obtain⟨t0,t1,t2,t3,_⟩:=row4 HA.out.q;obtain⟨u0,u1,u2,u3,_⟩:=row4 HA.out.r;obtain⟨c0,c1,c2,c3,r0,r1,r2,r3⟩:=row4 HA.out.z;obtain⟨d0,d1,d2,d3,s0,s1,s2,s3⟩:=row4 HA.out.v;have HP:=zh ((KAt.mk HA.out.b HA.out.x HA.out.y HA.out.z HA.out.v).put (qAt (uN x) (uN y) 0) (rAt (uN x) (uN y) 0));have hg:=HA.out.hg;have n1:g≠w.heap.size+1+1:=by omega
    have n2:g≠w.heap.size+1+1+1:=by omega
    have n3:g+1≠w.heap.size+1+1:=by omega
    have n4:g+1≠w.heap.size+1+1+1:=by omega
    have n5:w.heap.size+1+1≠g:=by omega
    have n6:w.heap.size+1+1+1≠g:=by omega
    have n7:w.heap.size+1+1≠g+1:=by omega
    have n8:w.heap.size+1+1+1≠g+1:=by omega
    clear hK0 hg;generalize qAt (uN x) (uN y) 0=q at *
    generalize rAt (uN x) (uN y) 0=r at *
    go_wp2_with fail
    go_region
    all_goals
     go_wp2_with fail;refine bodyPost_ret (z2x rfl _ _ (w.heap.size+2) (w.heap.size+3) 24 (uL q) (uL r) (0,0) _ rfl ?_ rfl ?_ Tryz.underlying24 rfl (by kernel_rfl) (by kernel_rfl)) rfl ?_
     ·exact z6n HP.out.2.1
     ·exact z6n HP.out.2.2
     ·exact⟨HE.out,z0h HP.out.1⟩
   | succ k =>
    have hz:((k+1:Nat):Int)-1=(k:Int):=by omega
    have hlt:k<256:=by omega
    have h4:k/64<4:=by omega
    have hbit:=zkj hx k hlt;have hbl:=Nat.mod_lt (uN x/2 ^ k) (show 0<2 by decide);have hrl:=Nat.mod_lt (uN x/2 ^ (k+1)) hy0;have hql:uN x/2 ^ (k+1)/uN y<=uN x/2:=Nat.le_trans (Nat.div_le_self _ _) (Nat.div_le_div_left (by rw[Nat.pow_succ];exact Nat.le_mul_of_pos_left _ (Nat.pow_pos (by decide))) (by decide));obtain⟨db1,db2⟩:=zgc (uN x) (uN y) k hy0;obtain⟨dr1,dr2,dr3⟩:=zbv (y:=rAt (uN x) (uN y) (k+1)) (b:=uN x/2 ^ k%2) (z1y _) hy hrl (by omega) (z5f (by omega));obtain⟨dq1,dq2,dq3⟩:=zn8 (q:=uN x/2 ^ (k+1)/uN y) (by omega);have cX:wr.cell? ⟨w.heap.size,k/64,none⟩=some (.int .u64 (x.at (k/64))):=by rw[cell_of_row _ _ _ _ _ _ HA.out.x];exact z4v x _ h4
    obtain⟨u0,u1,u2,u3,_⟩:=row4 HA.out.r;have HD1:Hid (Calls Tryz.prog 248 #[uV (rAt (uN x) (uN y) (k+1)),.int .u64 ((uN x/2 ^ k%2:Nat):Int)] wr.drew fun e w'=>e= .returned (.tuple #[uV (dblW (rAt (uN x) (uN y) (k+1)) (uN x/2 ^ k%2) 4),.int .u64 (dblC (rAt (uN x) (uN y) (k+1)) (uN x/2 ^ k%2) 4)])/\LAt g w x y (qAt (uN x) (uN y) (k+1)) (rAt (uN x) (uN y) (k+1)) w'):=(z8a _ _ (z1y _) (by omega) _).mono fun e w' ⟨he,hb⟩=>⟨he,HA.out.drew.below hb⟩
    have HD2:Hid (∀ W R,LAt g w x y (qAt (uN x) (uN y) (k+1)) R W->Calls Tryz.prog 248 #[uV (qAt (uN x) (uN y) (k+1)),.int .u64 0] W fun e w'=>e= .returned (.tuple #[uV (uOf (2*(uN x/2 ^ (k+1)/uN y))),.int .u64 (dblC (qAt (uN x) (uN y) (k+1)) 0 4)])/\LAt g w x y (qAt (uN x) (uN y) (k+1)) R w'):=fun W R hL=>(z8a _ 0 (z1y _) (by omega) _).mono fun e w' ⟨he,hb⟩=>⟨by rw[he];unfold qAt;rw[dq1],hL.below hb⟩
    have hRok:=(za7 (x:=rAt (uN x) (uN y) (k+1)) (z1y _) (b:=uN x/2 ^ k%2) (by omega)).1;have HSb:Hid (∀ W Q R,R.Ok->LAt g w x y Q R W->Calls Tryz.prog 71 #[uV R,uV y] W fun e w'=>e= .returned (.tuple #[uV (if z3l R y=0 then z3s R y else(0,0,0,0)),.bool (z3l R y==0)])/\LAt g w x y Q R w'):=fun W Q R hR hL=>(z9v R y hR hy W).mono fun e w' ⟨he,hb⟩=>⟨he,hL.below hb⟩
    have HWr:Hid (∀ W Q R u,R.Ok->LAt g w x y Q R W->Calls Tryz.prog 249 #[uV R,uV y] (W.alloc (.cells (uL u) 24)) fun e w'=>e= .returned (uV (z3s R y))/\LAt g w x y Q R w'/\w'.heap[W.heap.size]?=some (.cells (uL u) 24 (0,0))/\g+1<W.heap.size):=fun W Q R u hR hL=>(wrap_any R y hR hy _).mono fun e w' ⟨he,hb⟩=>⟨he,(hL.alloc _).below hb,(hb.block _ (by simp)).trans (heap_alloc_new W _),z02 hL.r⟩
    have HQ1:Hid (uN y<=2*(uN x/2 ^ (k+1)%uN y)+uN x/2 ^ k%2->(uOf (2*(uN x/2 ^ (k+1)/uN y))).set 0 ((uOf (2*(uN x/2 ^ (k+1)/uN y))).at 0+1)=qAt (uN x) (uN y) k/\uOf (2*(uN x/2 ^ (k+1)%uN y)+uN x/2 ^ k%2-uN y)=rAt (uN x) (uN y) k):=fun h=>by
     obtain⟨e1,e2⟩:=db2 h;unfold qAt rAt;rw[dq2,e1,e2];exact⟨rfl,rfl⟩
    have HQ0:Hid (2*(uN x/2 ^ (k+1)%uN y)+uN x/2 ^ k%2<uN y->uOf (2*(uN x/2 ^ (k+1)/uN y))=qAt (uN x) (uN y) k/\uOf (2*(uN x/2 ^ (k+1)%uN y)+uN x/2 ^ k%2)=rAt (uN x) (uN y) k):=fun h=>by
     obtain⟨e1,e2⟩:=db1 h;unfold qAt rAt;rw[e1,e2];exact⟨rfl,rfl⟩
    have HR1:=zh dr1;have HR2:=zh dr2;have HR3:=zh dr3;have HDQ:=zh dq3;rw[hz];have HKB:Hid (k+1<=256):=hk;clear hrl hql db1 db2 dr1 dr2 dr3 dq1 dq2 dq3 hz hk HE hlt hdlt;generalize hr0:rAt (uN x) (uN y) (k+1)=r at *
    generalize hq0:qAt (uN x) (uN y) (k+1)=q at *
    generalize uOf (2*(uN x/2 ^ (k+1)/uN y))=Q at *
    generalize 2*(uN x/2 ^ (k+1)%uN y)+uN x/2 ^ k%2=t at *
    generalize uN x/2 ^ k%2=bt at *
    generalize dblW r bt 4=R at *
    generalize dblC r bt 4=ov at *
    have hbk:bits .and .u64 (((x.at (k/64):Nat):Int)/2 ^ (k%64)) 1=(bt:Int):=hbit;have hbk2:bits .and .u64 (((x.at (k/64):Nat):Int)/2 ^ (((k:Int)%64).toNat)) 1=(bt:Int):=by
     rw[show((k:Int)%64).toNat=k%64 by omega];exact hbit
    clear hbit hr0 hq0;have hk256:k<256:=by have:=HKB.out;omega
    have q1:(k:Int).tdiv 64=((k/64:Nat):Int):=by rw[Int.tdiv_eq_ediv_of_nonneg (by omega)];rfl
    have q2:(k:Int).tmod 64=((k%64:Nat):Int):=by rw[Int.tmod_eq_emod_of_nonneg (by omega)];rfl
    have q3:IntKind.i64.wrap ((k/64:Nat):Int)=((k/64:Nat):Int):=by rw[IntKind.wrap_i64];omega
    have q4:IntKind.i64.wrap ((k%64:Nat):Int)=((k%64:Nat):Int):=by rw[IntKind.wrap_i64];omega
    have q5:((k/64:Nat):Int)<4:=by omega
    have q6:(k:Int)/64<4:=by omega
    have q8:IntKind.i64.wrap ((k:Int)/64)=((k/64:Nat):Int):=by rw[IntKind.wrap_i64];omega
    have q9:IntKind.i64.wrap ((k:Int)%64)=((k%64:Nat):Int):=by rw[IntKind.wrap_i64];omega
    go_upto_region 13 with fail
    go_cut [12] (fun s12 wc=>s12= .int .u64 ov/\LAt g w x y q R wc)
    case first =>
     go_region_with (go_at_call 248;(with_reducible refine zm HD1.out ?_);rintro e w3 ⟨rfl,hL3⟩;obtain⟨v0,v1,v2,v3,v4,v5,v6,v7⟩:=row4 hL3.r)
     all_goals
      have HL3:=zh (hL3.putR R);go_wp2_with fail
      go_meet
      exact⟨rfl,HL3.out⟩
    case rest =>
     obtain⟨rfl,hL3⟩:=hcut;have HL3:=zh hL3;obtain⟨z0,z1,z2,z3,_⟩:=row4 hL3.q;have HD2a:=zh (HD2.out wc R hL3);clear hL3 HD1 cX hbk hbk2 HD2 u0 u1 u2 u3;go_wp2_with fail;refine zm HD2a.out ?_;rintro e w4 ⟨rfl,hL4⟩;have HL4:=zh (hL4.putQ Q);obtain⟨v0,v1,v2,v3,v4,v5,v6,v7⟩:=row4 hL4.q;obtain⟨k0,k1,k2,k3,_⟩:=row4 (hL4.putQ Q).r;obtain⟨m0,m1,m2,m3,_⟩:=row4 (hL4.putQ Q).y;have HS5:=zh (HSb.out (st4 w4 g Q) Q R hRok (hL4.putQ Q));clear hL4 HD2a z0 z1 z2 z3 HL3
     by_cases ht:t<uN y
     ·obtain⟨o1,o2,o3⟩:=HR1.out ht;obtain⟨p1,p2⟩:=HQ0.out ht;have HF:Hid (∀ W,LAt g w x y Q R W->LAt g w x y (qAt (uN x) (uN y) k) (rAt (uN x) (uN y) k) W):=fun W h=>by
       rw[<- p1,<- p2,<- o3];exact h
      have hsb:(z3l R y==0)=false:=beq_eq_false_iff_ne.2 o2;rw[hsb,if_neg o2]at HS5;have hov:(((ov:Nat):Int)==0)=true:=beq_iff_eq.2 (by omega);have hov2:(((ov:Nat):Int) != 0)=false:=by rw[bne,hov];rfl
      clear o1 o2 o3 p1 p2 hsb HR1 HR2 HR3 HQ0 HQ1 HSb HWr;go_wp2_with fail;refine zm HS5.out ?_;rintro e w5 ⟨rfl,hL5⟩;have HL5:=zh (HF.out _ (hL5.alloc (.cells #[.int .u64 0,.int .u64 0,.int .u64 0,.int .u64 0] 24)));clear hL5 HS5 HF;go_wp2_with fail;go_roundw
      case rel=>exact⟨k,by go_num,by omega,HL5.out⟩
      case measure=>simp[intOf]
     ·have hte:uN y<=t:=by omega
      obtain⟨p1,p2⟩:=HQ1.out hte
      by_cases hz:ov=0
      ·obtain⟨o1,o2⟩:=HR2.out hte hz;have HF:Hid (∀ W,LAt g w x y (Q.set 0 (Q.at 0+1)) (z3s R y) W->LAt g w x y (qAt (uN x) (uN y) k) (rAt (uN x) (uN y) k) W):=fun W h=>by
        rw[<- p1,<- p2,<- o2];exact h
       have hsb:(z3l R y==0)=true:=beq_iff_eq.2 o1;rw[hsb,if_pos o1]at HS5;clear o1 o2 p1 p2 hsb HR1 HR2 HR3 HQ0 HQ1 HSb HWr hz hte ht;generalize z3s R y=S at *
       go_wp2_with fail;refine zm HS5.out ?_;rintro e w5 ⟨rfl,hL5⟩;have hL6:=hL5.alloc (.cells (uL S) 24);have hrow:=heap_alloc_new w5 (.cells (uL S) 24);have hlt5:=z02 hL5.r;clear hL5 HS5;go_upto_region 19 with fail;generalize w5.alloc (.cells (uL S) 24)=w6 at *
       generalize w5.heap.size=p at *
       obtain⟨f0,f1,f2,f3,f4,f5,f6,f7⟩:=row4 hL6.r;obtain⟨g0,g1,g2,g3,g4,g5,g6,g7⟩:=row4 hL6.q;obtain⟨i0,i1,i2,i3,_⟩:=row4 hrow;have HL7:=zh (HF.out _ ((hL6.putR S).setQ 0 (Q.at 0+1) (by decide)));have HQB:=HDQ.out;have hqb:bits .or .u64 ((Q.1:Nat):Int) 1=((Q.at 0+1:Nat):Int):=HQB;have HQE:=zh hqb;clear hqb HQB hL6 hrow HF HDQ;go_wp2_with fail;go_roundw
       case rel=>exact⟨k,by go_num,by omega,by rw[HQE.out];exact HL7.out⟩
       case measure=>simp[intOf]
      ·obtain⟨o1,o2⟩:=HR3.out hte hz;have HF:Hid (∀ W,LAt g w x y (Q.set 0 (Q.at 0+1)) (z3s R y) W->LAt g w x y (qAt (uN x) (uN y) k) (rAt (uN x) (uN y) k) W):=fun W h=>by
        rw[<- p1,<- p2,<- o2];exact h
       have hsb:(z3l R y==0)=false:=beq_eq_false_iff_ne.2 o1;rw[hsb,if_neg o1]at HS5;have hov:(((ov:Nat):Int)==0)=false:=beq_eq_false_iff_ne.2 (by omega);have hov2:(((ov:Nat):Int) != 0)=true:=by rw[bne,hov];rfl
       clear o1 o2 p1 p2 hsb HR1 HR2 HR3 HQ0 HQ1 HSb hz hte ht;go_wp2_with fail;refine zm HS5.out ?_;rintro e w5 ⟨rfl,hL5⟩;have HW5:=HWr.out w5 Q R (0,0,0,0) hRok hL5;have hL5a:=hL5.alloc (.cells #[.int .u64 0,.int .u64 0,.int .u64 0,.int .u64 0] 24);have hW5:Calls Tryz.prog 249 #[uV R,uV y] (w5.alloc (.cells #[.int .u64 0,.int .u64 0,.int .u64 0,.int .u64 0] 24)) fun e w'=>e= .returned (uV (z3s R y))/\LAt g w x y Q R w'/\w'.heap[w5.heap.size]?=some (.cells (uL (0,0,0,0)) 24 (0,0))/\g+1<w5.heap.size:=HW5
       obtain⟨k0,k1,k2,k3,_⟩:=row4 hL5a.r;obtain⟨m0,m1,m2,m3,_⟩:=row4 hL5a.y;have hlt5:=z02 hL5.r;clear hL5 HS5 HWr HW5 hL5a;have HW6:=zh hW5;clear hW5;generalize z3s R y=S at *
       go_upto_region 18 with fail;generalize w5.alloc (.cells #[.int .u64 0,.int .u64 0,.int .u64 0,.int .u64 0] 24)=w6a at *
       generalize w5.heap.size=p at *
       go_wp2_with fail;refine zm HW6.out ?_;rintro e w6b ⟨rfl,hL6b,hrowb,hltp⟩;obtain⟨_,_,_,_,v8,v9,v10,v11⟩:=row4 hrowb;have hL6:LAt g w x y Q R ((((w6b.setCell ⟨p,0,none⟩ (.int .u64 S.1)).setCell ⟨p,1,none⟩ (.int .u64 S.2.1)).setCell ⟨p,2,none⟩ (.int .u64 S.2.2.1)).setCell ⟨p,3,none⟩ (.int .u64 S.2.2.2)):=hL6b.putO p S hltp;have hrow:((((w6b.setCell ⟨p,0,none⟩ (.int .u64 S.1)).setCell ⟨p,1,none⟩ (.int .u64 S.2.1)).setCell ⟨p,2,none⟩ (.int .u64 S.2.2.1)).setCell ⟨p,3,none⟩ (.int .u64 S.2.2.2)).heap[p]?=some (.cells (uL S) 24 (0,0)):=ze9 hrowb S;obtain⟨j0,j1,j2,j3,_⟩:=row4 hrowb;clear HW6 hL6b hrowb;go_upto_region 19 with fail;generalize (((w6b.setCell ⟨p,0,none⟩ (.int .u64 S.1)).setCell ⟨p,1,none⟩ (.int .u64 S.2.1)).setCell ⟨p,2,none⟩ (.int .u64 S.2.2.1)).setCell ⟨p,3,none⟩ (.int .u64 S.2.2.2)=w6 at *
       obtain⟨f0,f1,f2,f3,f4,f5,f6,f7⟩:=row4 hL6.r;obtain⟨g0,g1,g2,g3,g4,g5,g6,g7⟩:=row4 hL6.q;obtain⟨i0,i1,i2,i3,_⟩:=row4 hrow;have HL7:=zh (HF.out _ ((hL6.putR S).setQ 0 (Q.at 0+1) (by decide)));have HQB:=HDQ.out;have hqb:bits .or .u64 ((Q.1:Nat):Int) 1=((Q.at 0+1:Nat):Int):=HQB;have HQE:=zh hqb;clear hqb HQB hL6 hrow HF HDQ;go_wp2_with fail;go_roundw
       case rel=>exact⟨k,by go_num,by omega,by rw[HQE.out];exact HL7.out⟩
       case measure=>simp[intOf]
theorem zv9(x y:W4)(hx:x.Ok)(hy:y.Ok)(w:World):Calls Tryz.prog 220 #[uV x,uV y] w (zcm x y w):=by
 by_cases h0:y=(0,0,0,0)
 ·subst h0;exact div_zero x w
 ·have hp:0<uN y:=Nat.pos_of_ne_zero fun e=>h0 (zek.2 e)
  by_cases hl:uN x<uN y
  ·exact zrj x y hx hy hl w
  ·by_cases hs:y=(y.1,0,0,0)/\y.1<=4294967295
   ·obtain⟨d,y1,y2,y3⟩:=y;obtain⟨h1,h2⟩:=hs;simp only[Prod.mk.injEq,true_and]at h1;obtain⟨rfl,rfl,rfl⟩:=h1;have hN:uN (d,0,0,0)=d:=by simp only[uN];omega
    rw[hN]at hp hl;exact znb x d hx hp (by simp only at h2;omega) (by omega) w
   ·refine zte x y hx hy (by omega) ?_ hp w
    by_cases h1:y=(y.1,0,0,0)
    ·exact .inr (Nat.lt_of_not_le fun h2=>hs ⟨h1,h2⟩)
    ·exact .inl h1
end Go.Proofs.YtnkilceibkkjlaaGreat
