/- What is proved here: the reference's withdrawals: Add. Conditions: sizes. -/
import Derived.Test.YtnkilceibkkjlaaGreatGRExAdP
import Derived.Test.YtnkilceibkkjlaaGreatGRExD
import Derived.Test.YtnkilceibkkjlaaGreatGRUndo
set_option maxRecDepth 100000
set_option maxHeartbeats 16000000
namespace Go.Proofs.YtnkilceibkkjlaaGreat
open Go.RowKit
theorem zxu(x y:W4)(hx:x.Ok)(hy:y.Ok)(w:World):Calls Tryz.prog 21 #[uV x,uV y] w fun e w'=>e= .returned (.tuple #[uV (if z3m x y=0 then z4s x y else(0,0,0,0)),.bool (z3m x y==0)])/\Below w.heap.size w w':=by
 have h:=zvo x y hx hy w;have h1:(if z3m x y=0 then z4s x y else(0,0,0,0))=sumW x y/\(z3m x y==0)=sumB x y:=by
  unfold sumW sumB toW toB W256
  by_cases h:z3m x y=0
  ·have h2:=z9v.1 h;rw[if_pos h,if_pos h2,decide_eq_true h2,zkk,h];exact⟨rfl,rfl⟩
  ·have h2:=fun e=>h (z9v.2 e)
   rw[if_neg h,if_neg h2,decide_eq_false h2,beq_eq_false_iff_ne.2 h];exact⟨rfl,rfl⟩
 change Calls Tryz.prog 21 #[uV x,uV y] w fun e w'=>e= .returned (.tuple #[uV (sumW x y),.bool (sumB x y)])/\Below w.heap.size w w' at h
 rw[<- h1.1,<- h1.2]at h;exact h
theorem FV.next{b:Nat}{w W:World}{L:List Nat}{s:St}{rs:List (Nat × Obj)}{f:Nat}(hq:FV b w L s rs W)(hf:s.Fit f)(hm:f<100000000)(k:ByteArray)(hn:s.int k<1000000000000):Calls Tryz.prog 186 #[.pointer (some ⟨b,0,none⟩),.string k] W fun e W'=>e= .returned (.int .i64 (((s.int k:Nat):Int)+1))/\FV b w L (s.z0m k (((s.int k:Nat):Int)+1)) rs W':=
 QV.call hq fun L' h1=>(zrd W b s L' k h1 (Nat.lt_of_le_of_lt hf.size (by omega)) (Nat.lt_of_le_of_lt (hf.val _) (by decide)) hn).mono fun _ _ ⟨he,h2⟩=>⟨he,h2⟩
theorem FV.undo{b:Nat}{w W:World}{L:List Nat}{s:St}{rs:List (Nat × Obj)}{f m:Nat}(hq:FV b w L s rs W)(hf:s.Fit f)(hm:f<100000000)(hmp:m<=s.past.length):Calls Tryz.prog 133 #[.pointer (some ⟨b,0,none⟩),.int .i64 m] W fun e W'=>e= .returned (.bool true)/\FV b w L (s.undo m) rs W':=
 QV.call hq fun L' h1=>(zqk W b s L' m h1 hmp (fun k=>Nat.lt_of_le_of_lt (zal k) (Nat.lt_of_le_of_lt hf.size (by omega)))).mono fun _ _ ⟨he,h2⟩=>⟨he,h2⟩
theorem zxe(w:World)(sb:Nat)(L:List Nat)(s:St)(f:Nat)(x:Ex)(hx:x.Ok)(hq:RRep w sb s L)(hf:s.Fit f)(hm:f<10000000)(hnm:s.hlen 16 [x.op,x.sg]<9223372036854775807)(hn1:x.good=true->(rad2 s x).int (keyL 14 [])<1000000000000)(hn2:x.good=true->(rad6 s x).int (keyL 20 [x.st])<1000000000000) :
  Calls Tryz.prog 120 #[.pointer (some ⟨sb,0,none⟩),.agg x.L] w fun e w'=>e= .returned (.tuple #[.int .i64 (z9s s x),.int .i64 (z5r s x)])/\ROn w sb L (z3j s x) w':=by
 have hB:=(FV.start hq).alloc (rexO x);have hsz:∀ {s':St} {g:Nat},s'.Fit g->g<1000000000->s'.size<1000000000000:=fun h1 h2=>Nat.lt_of_le_of_lt h1.size (by omega)
 have HAM:Hid (∀ rs W,FV sb w L s rs W->Calls Tryz.prog 182 #[uV x.wo] W fun e w'=>e= .returned (.bool (decide (uN x.wo<M128)))/\FV sb w L s rs w'):=fun rs W hV=>hV.reads fun L' h1=>z97 x.wo hx.wo W
 have HGD:Hid (∀ rs W,FV sb w L s rs W->Calls Tryz.prog 130 #[uV x.mx] W fun e w'=>e= .returned (.bool (decide (uCmp x.mx oneW<=0)))/\FV sb w L s rs w'):=fun rs W hV=>hV.reads fun L' h1=>zab x.mx hx.mx W
 have HK20:Hid (∀ s' rs W,FV sb w L s' rs W->Calls Tryz.prog 125 #[.int .i64 20,.int .i64 x.st] W fun e w'=>e= .returned (.string (keyL 20 [x.st]))/\FV sb w L s' rs w'):=fun s' rs W hV=>(z1r 20 (by decide) (by decide) x.st hx.st W).mono fun e w' ⟨he,hb⟩=>⟨he,QV.below hV hb⟩
 have HIN:Hid (∀ rs W,FV sb w L s rs W->Calls Tryz.prog 100 #[.pointer (some ⟨sb,0,none⟩),.string (keyL 20 [x.st])] W fun e w'=>e= .returned (.int .i64 (s.int (keyL 20 [x.st])))/\FV sb w L s rs w'):=fun rs W hV=>hV.reads fun L' h1=>zfy W sb s L' _ h1 (Nat.lt_of_le_of_lt (hf.val _) (by decide)) (hsz hf (by omega))
 have HPA:Hid (∀ rs W,FV sb w L s rs W->∃ a c,W.cell? ⟨sb,1,none⟩=some (.slice a s.past.length c)):=fun rs W hV=>by
  obtain⟨L',h1,_⟩:=hV.on;exact ROn.past (ROn.start h1)
 have hl:IdOk [x.op,x.sg]:=⟨by simp,fun y hy=>by
  rcases List.mem_cons.1 hy with h | h
  ·subst h;exact hx.op
  ·rw[List.mem_singleton]at h;subst h;exact hx.sg⟩
 have HLA:Hid (∀ rs W g,(g,i2O x.op x.sg)∈rs->FV sb w L s rs W->Calls Tryz.prog 123 #[.pointer (some ⟨sb,0,none⟩),.int .i64 16,.slice (some ⟨g,0,none⟩) 2 2] W fun e w'=>e= .returned (.tuple #[uV (s.hlast 16 [x.op,x.sg]),.bool (decide (s.hlen 16 [x.op,x.sg]≠0))])/\FV sb w L s rs w'):=fun rs W g hg hV=>hV.reads fun L' h1=>z9p W sb s L' f 16 (by omega) (by omega) _ _ (z2y (hV.row hg)) hl h1 hf (by omega)
 have HSC:Hid (∀ rs W,FV sb w L s rs W->Calls Tryz.prog 183 #[uV x.wo,uV x.mx] W fun e w'=>e= .returned (.tuple #[uV (sdW x.wo x.mx),.bool (sdB x.wo x.mx)])/\FV sb w L s rs w'):=fun rs W hV=>hV.reads fun L' h1=>zij _ _ hx.wo hx.mx W
 have HAD:Hid (∀ rs W,FV sb w L s rs W->Calls Tryz.prog 21 #[uV (s.hlast 16 [x.op,x.sg]),uV (sdW x.wo x.mx)] W fun e w'=>e= .returned (.tuple #[uV (if z3m (s.hlast 16 [x.op,x.sg]) (sdW x.wo x.mx)=0 then z4s (s.hlast 16 [x.op,x.sg]) (sdW x.wo x.mx)else(0,0,0,0)),.bool (z3m (s.hlast 16 [x.op,x.sg]) (sdW x.wo x.mx)==0)])/\FV sb w L s rs w'):=fun rs W hV=>hV.reads fun L' h1=>zxu _ _ (z9o _ _ _) (zv6 _ _) W
 have HPU:Hid (x.good=true->z3m (s.hlast 16 [x.op,x.sg]) (sdW x.wo x.mx)=0->∀ rs W g,(g,i2O x.op x.sg)∈rs->FV sb w L s rs W->Calls Tryz.prog 184 #[.pointer (some ⟨sb,0,none⟩),.int .i64 16,.slice (some ⟨g,0,none⟩) 2 2,.int .i64 x.bl,uV (z4s (s.hlast 16 [x.op,x.sg]) (sdW x.wo x.mx))] W fun e w'=>e= .returned (.int .i64 (hpuE s 16 [x.op,x.sg] x.bl.toNat))/\FV sb w L (z4x s 16 [x.op,x.sg] x.bl.toNat (z4s (s.hlast 16 [x.op,x.sg]) (sdW x.wo x.mx))) rs w'):=fun hg _ rs W g hgr hV=>by
  obtain⟨_,g2,g3,g4,g5,_⟩:=Ex.z4v hg;obtain⟨b,hbl⟩:∃ b:Nat,x.bl=b:=⟨x.bl.toNat,(Int.toNat_of_nonneg g4).symm⟩;rw[hbl,Int.toNat_natCast];refine QV.zyy hV fun L' h1 hk=>zt9 W sb L' s f 16 (by omega) (by omega) _ _ b _ (fun W2 L2 st=>z2y (hk W2 L2 st g _ hgr)) hl (fun y hy => ?_) (by omega) h1 hf (by omega) hnm
  rcases List.mem_cons.1 hy with h | h
  ·subst h;exact g3
  ·rw[List.mem_singleton]at h;subst h;exact Int.le_trans (by decide) g2
 have hf1:=z6w hf x;have hNid:x.good=true->I63 (radN s x):=fun hg=>by
  have h1:((rad2 s x).int (keyL 14 []):Nat)<1000000000000:=hn1 hg;unfold I63 radN;omega
 have HK19:Hid (∀ W,Calls Tryz.prog 125 #[.int .i64 19,.int .i64 x.sg] W fun e w'=>e= .returned (.string (keyL 19 [x.sg]))/\Below W.heap.size W w'):=z1r 19 (by decide) (by decide) _ hx.sg;have HK15:Hid (x.good=true->∀ W,Calls Tryz.prog 125 #[.int .i64 15,.int .i64 (radN s x)] W fun e w'=>e= .returned (.string (keyL 15 [radN s x]))/\Below W.heap.size W w'):=fun hg=>z1r 15 (by decide) (by decide) _ (hNid hg)
 have HK17:Hid (x.good=true->∀ W,Calls Tryz.prog 125 #[.int .i64 17,.int .i64 (radN s x)] W fun e w'=>e= .returned (.string (keyL 17 [radN s x]))/\Below W.heap.size W w'):=fun hg=>z1r 17 (by decide) (by decide) _ (hNid hg)
 have HK18:Hid (x.good=true->∀ W,Calls Tryz.prog 125 #[.int .i64 18,.int .i64 (radN s x)] W fun e w'=>e= .returned (.string (keyL 18 [radN s x]))/\Below W.heap.size W w'):=fun hg=>z1r 18 (by decide) (by decide) _ (hNid hg)
 have HKN:Hid (∀ s' rs W,FV sb w L s' rs W->Calls Tryz.prog 95 #[.int .i64 14,.slice none 0 0] W fun e w'=>e= .returned (.string (keyL 14 []))/\FV sb w L s' rs w'):=fun s' rs W hV=>(zi2 14 (by decide) (by decide) W).mono fun e w' ⟨he,hb⟩=>⟨he,QV.below hV hb⟩
 have HCA:Hid (∀ rs W,FV sb w L (z2f s x) rs W->Calls Tryz.prog 185 #[.pointer (some ⟨sb,0,none⟩),.string (keyL 19 [x.sg]),uV x.wo] W fun e w'=>e= .returned (.int .i64 (z2j ((z2f s x).amt (keyL 19 [x.sg])) x.wo))/\FV sb w L (rad2 s x) rs w'):=fun rs W hV=>QV.call hV fun L' h1=>zxs W sb L' _ (f+4) _ x.wo hx.wo h1 hf1 (by omega)
 have hf2:=zlb hf x;have HNX:Hid (x.good=true->∀ rs W,FV sb w L (rad2 s x) rs W->Calls Tryz.prog 186 #[.pointer (some ⟨sb,0,none⟩),.string (keyL 14 [])] W fun e w'=>e= .returned (.int .i64 (radN s x))/\FV sb w L (rad3 s x) rs w'):=fun hg rs W hV=>FV.next hV hf2 (by omega) _ (hn1 hg)
 have hf3:=zkx hf x;have HSR:Hid (x.good=true->∀ rs W v,z0w W v [x.st,x.op,x.sg,x.bl]->FV sb w L (rad3 s x) rs W->Calls Tryz.prog 187 #[.pointer (some ⟨sb,0,none⟩),.string (keyL 15 [radN s x]),v] W fun e w'=>e= .returned (.tuple #[])/\FV sb w L (rad4 s x) rs w'):=fun hg rs W v hI hV=>by
  obtain⟨g1,g2,g3,g4,g5,_⟩:=Ex.z4v hg
  exact QV.call hV fun L' h1=>(zj3 W sb _ L' _ v _ h1 (hsz hf3 (by omega)) (z3o 15 fun y hy=>by
   rw[List.mem_singleton]at hy;subst hy;unfold radN;omega) hI (by show(4:Nat)<_;decide) (by simp) (fun n hn=>by
   simp only[List.mem_cons,List.not_mem_nil,or_false]at hn;have:=hx.st;have:=hx.op;have:=hx.sg;have:=hx.bl;unfold I63 at *
   rcases hn with rfl | rfl | rfl | rfl<;>omega)).mono fun e w' ⟨he,h2⟩=>⟨he,h2⟩
 have hf4:=zl3 hf x;have HS5:Hid (∀ rs W,FV sb w L (rad4 s x) rs W->Calls Tryz.prog 134 #[.pointer (some ⟨sb,0,none⟩),.string (keyL 17 [radN s x]),uV x.wo] W fun e w'=>e= .returned (.tuple #[])/\FV sb w L (rad5 s x) rs w'):=fun rs W hV=>hV.cset (hsz hf4 (by omega)) _ _
 have hf5:=zle hf x;have HS6:Hid (∀ rs W,FV sb w L (rad5 s x) rs W->Calls Tryz.prog 134 #[.pointer (some ⟨sb,0,none⟩),.string (keyL 18 [radN s x]),uV x.mx] W fun e w'=>e= .returned (.tuple #[])/\FV sb w L (rad6 s x) rs w'):=fun rs W hV=>hV.cset (hsz hf5 (by omega)) _ _
 have hf6:=zkj hf x;have HNY:Hid (x.good=true->∀ rs W,FV sb w L (rad6 s x) rs W->Calls Tryz.prog 186 #[.pointer (some ⟨sb,0,none⟩),.string (keyL 20 [x.st])] W fun e w'=>e= .returned (.int .i64 ((((rad6 s x).int (keyL 20 [x.st]):Nat):Int)+1))/\FV sb w L (rad7 s x) rs w'):=fun hg rs W hV=>FV.next hV hf6 (by omega) _ (hn2 hg)
 have HUN:Hid (x.good=true->z2j ((z2f s x).amt (keyL 19 [x.sg])) x.wo≠0->∀ rs W,FV sb w L (rad2 s x) rs W->Calls Tryz.prog 133 #[.pointer (some ⟨sb,0,none⟩),.int .i64 s.past.length] W fun e w'=>e= .returned (.bool true)/\FV sb w L s rs w'):=fun hg hmm rs W hV=>by
  obtain⟨b1,b2⟩:=zqd hq.srt hg hmm;have h2:=FV.undo hV hf2 (by omega) b2
  rwa [b1]at h2
 have hgood:x.good=(decide (1<=x.st)&&(decide (1<=x.sg)&&(decide (0<=x.op)&&(decide (0<=x.bl)&&(decide (x.bl<=1099511627776)&&(decide (uN x.wo<M128)&&decide (uCmp x.mx oneW<=0))))))):=rfl;have HL1:=zh (fun h1:x.good=false=>zlc (s:=s) h1);have HL2:=zh (fun (h1:x.good=true) h2=>zr3 (s:=s) h1 h2);have HL3:=zh (fun (h1:x.good=true) h2 h3=>znx (s:=s) h1 h2 h3);have HL4:=zh (fun (h1:x.good=true) h2 h3 h4=>zqj (s:=s) h1 h2 h3 rfl h4);have HL5:=zh (fun (h1:x.good=true) h2 h3 h4=>zwv (s:=s) h1 h2 h3 h4);have HB:=zh hB;have HLS:=zh (fun h1:z3n s x≠0=>zmp (s:=s) (x:=x) h1);have hE0:z3n s x=if x.op=0 then 0 else if z3m (s.hlast 16 [x.op,x.sg]) (sdW x.wo x.mx)=0 then hpuE s 16 [x.op,x.sg] x.bl.toNat else 6:=rfl
 have hS0:z2f s x=if x.op=0 then s else if z3m (s.hlast 16 [x.op,x.sg]) (sdW x.wo x.mx)=0 then z4x s 16 [x.op,x.sg] x.bl.toNat (z4s (s.hlast 16 [x.op,x.sg]) (sdW x.wo x.mx))else s:=rfl
 have HNL:=zh (And.intro hE0 hS0);have HGO:=zh hgood;clear hE0 hS0 hgood hB hq hf hf1 hf2 hf3 hf4 hf5 hf6 hn1 hn2 hnm hm hsz hx hNid hl;generalize z3j s x=sX at *
 generalize z9s s x=nX at *
 generalize z5r s x=eX at *
 generalize rad7 s x=s7 at *
 generalize (((((rad6 s x).int (keyL 20 [x.st]):Nat):Int)+1))=ny at *
 generalize rad6 s x=s6 at *
 generalize rad5 s x=s5 at *
 generalize rad4 s x=s4 at *
 generalize rad3 s x=s3 at *
 generalize rad2 s x=s2 at *
 generalize radN s x=id at *
 generalize z2j ((z2f s x).amt (keyL 19 [x.sg])) x.wo=eM at *
 generalize z2f s x=s1 at *
 generalize z3n s x=eN at *
 generalize x.good=gd at *
 generalize s.int (keyL 20 [x.st])=n20 at *
 generalize s.past.length=mk at *
 generalize hpuE s 16 [x.op,x.sg] x.bl.toNat=pE at *
 generalize z4x s 16 [x.op,x.sg] x.bl.toNat (z4s (s.hlast 16 [x.op,x.sg]) (sdW x.wo x.mx))=pS at *
 generalize decide (s.hlen 16 [x.op,x.sg]≠0)=lb at *
 generalize z4s (s.hlast 16 [x.op,x.sg]) (sdW x.wo x.mx)=sm at *
 generalize z3m (s.hlast 16 [x.op,x.sg]) (sdW x.wo x.mx)=cy at *
 generalize s.hlast 16 [x.op,x.sg]=hdl at *
 generalize sdW x.wo x.mx=a8 at *
 generalize sdB x.wo x.mx=ab at *
 generalize decide (uN x.wo<M128)=b1 at *
 generalize decide (uCmp x.mx oneW<=0)=b2 at *
 obtain⟨xs,xo,xt,xb,W,M⟩:=x;dsimp only[rexO,Ex.L]at HB HAM HGD HK20 HIN HLA HSC HPU HK19 HCA HSR HS5 HS6 HNY HNL HGO ⊢;go_enter Tryz.func120,Tryz.ntmps120;go_upto_region 1 with fail;generalize hw1:w.alloc (.cells #[.int .i64 xs,.int .i64 xo,.int .i64 xt,.int .i64 xb,.int .u64 W.1,.int .u64 W.2.1,.int .u64 W.2.2.1,.int .u64 W.2.2.2,.int .u64 M.1,.int .u64 M.2.1,.int .u64 M.2.2.1,.int .u64 M.2.2.2] 107)=w1 at *
 clear hw1;obtain⟨⟨k0,k1,k2,k3⟩,⟨p0,p1,p2,p3⟩,⟨q0,q1,q2,q3⟩⟩:=(z3c (x:=⟨xs,xo,xt,xb,W,M⟩) (HB.out.row (g:=w.heap.size) (o:=(.cells #[.int .i64 xs,.int .i64 xo,.int .i64 xt,.int .i64 xb,.int .u64 W.1,.int .u64 W.2.1,.int .u64 W.2.2.1,.int .u64 W.2.2.2,.int .u64 M.1,.int .u64 M.2.1,.int .u64 M.2.2.1,.int .u64 M.2.2.2] 107)) (by simp)))
 by_cases t0:xs<1
 ·have f0:(xs<1)=True:=eq_true t0;obtain⟨h1,h2,h3⟩:=HL1.out (by rw[HGO.out];simp[show ¬ 1<=xs by omega]);subst h1 h2 h3;have HD:=zh (FV.done HB.out);clear HB HK20 HIN HPA HLA HSC HAD HPU HK19 HK15 HK17 HK18 HKN HCA HNX HSR HS5 HS6 HNY HUN HL1 HL2 HL3 HL4 HL5 HLS HNL HGO HAM HGD t0;go_wp2_with fail;refine bodyPost_ret (results_tmp2 rfl _ _ _) rfl ?_;exact⟨rfl,HD.out⟩
 have f0:(xs<1)=False:=eq_false t0;have G0:=zh (show 1<=xs by omega);clear t0
 by_cases t1:xt<1
 ·have f1:(xt<1)=True:=eq_true t1;obtain⟨h1,h2,h3⟩:=HL1.out (by rw[HGO.out];simp[show ¬ 1<=xt by omega]);subst h1 h2 h3;have HD:=zh (FV.done HB.out);clear HB HK20 HIN HPA HLA HSC HAD HPU HK19 HK15 HK17 HK18 HKN HCA HNX HSR HS5 HS6 HNY HUN HL1 HL2 HL3 HL4 HL5 HLS HNL HGO HAM HGD t1;go_wp2_with fail;refine bodyPost_ret (results_tmp2 rfl _ _ _) rfl ?_;exact⟨rfl,HD.out⟩
 have f1:(xt<1)=False:=eq_false t1;have G1:=zh (show 1<=xt by omega);clear t1
 by_cases t2:xo<0
 ·have f2:(xo<0)=True:=eq_true t2;obtain⟨h1,h2,h3⟩:=HL1.out (by rw[HGO.out];simp[show ¬ 0<=xo by omega]);subst h1 h2 h3;have HD:=zh (FV.done HB.out);clear HB HK20 HIN HPA HLA HSC HAD HPU HK19 HK15 HK17 HK18 HKN HCA HNX HSR HS5 HS6 HNY HUN HL1 HL2 HL3 HL4 HL5 HLS HNL HGO HAM HGD t2;go_wp2_with fail;refine bodyPost_ret (results_tmp2 rfl _ _ _) rfl ?_;exact⟨rfl,HD.out⟩
 have f2:(xo<0)=False:=eq_false t2;have G2:=zh (show 0<=xo by omega);clear t2
 by_cases t3:xb<0
 ·have f3:(xb<0)=True:=eq_true t3;obtain⟨h1,h2,h3⟩:=HL1.out (by rw[HGO.out];simp[show ¬ 0<=xb by omega]);subst h1 h2 h3;have HD:=zh (FV.done HB.out);clear HB HK20 HIN HPA HLA HSC HAD HPU HK19 HK15 HK17 HK18 HKN HCA HNX HSR HS5 HS6 HNY HUN HL1 HL2 HL3 HL4 HL5 HLS HNL HGO HAM HGD t3;go_wp2_with fail;refine bodyPost_ret (results_tmp2 rfl _ _ _) rfl ?_;exact⟨rfl,HD.out⟩
 have f3:(xb<0)=False:=eq_false t3;have G3:=zh (show 0<=xb by omega);clear t3
 by_cases t4:1099511627776<xb
 ·have f4:(1099511627776<xb)=True:=eq_true t4;obtain⟨h1,h2,h3⟩:=HL1.out (by rw[HGO.out];simp[show ¬ xb<=1099511627776 by omega]);subst h1 h2 h3;have HD:=zh (FV.done HB.out);clear HB HK20 HIN HPA HLA HSC HAD HPU HK19 HK15 HK17 HK18 HKN HCA HNX HSR HS5 HS6 HNY HUN HL1 HL2 HL3 HL4 HL5 HLS HNL HGO HAM HGD t4;go_wp2_with fail;refine bodyPost_ret (results_tmp2 rfl _ _ _) rfl ?_;exact⟨rfl,HD.out⟩
 have f4:(1099511627776<xb)=False:=eq_false t4;have G4:=zh (show xb<=1099511627776 by omega);clear t4;have HA1:=zh (HAM.out _ _ HB.out);clear HB HAM;go_wp2_with fail;refine zm HA1.out ?_;rintro e w2 ⟨rfl,hB2⟩;have HB2:=zh hB2;clear hB2 HA1 k0 k1 k2 k3 p0 p1 p2 p3 q0 q1 q2 q3;cases b1 with
 | false =>
  obtain⟨h1,h2,h3⟩:=HL1.out (by rw[HGO.out];simp);subst h1 h2 h3;have HD:=zh (FV.done HB2.out);clear HB2 HK20 HIN HPA HLA HSC HAD HPU HK19 HK15 HK17 HK18 HKN HCA HNX HSR HS5 HS6 HNY HUN HL1 HL2 HL3 HL4 HL5 HLS HNL HGO HGD;go_wp2_with fail;refine bodyPost_ret (results_tmp2 rfl _ _ _) rfl ?_;exact⟨rfl,HD.out⟩
 | true =>
  obtain⟨⟨k0,k1,k2,k3⟩,⟨p0,p1,p2,p3⟩,⟨q0,q1,q2,q3⟩⟩:=(z3c (x:=⟨xs,xo,xt,xb,W,M⟩) (HB2.out.row (g:=w.heap.size) (o:=(.cells #[.int .i64 xs,.int .i64 xo,.int .i64 xt,.int .i64 xb,.int .u64 W.1,.int .u64 W.2.1,.int .u64 W.2.2.1,.int .u64 W.2.2.2,.int .u64 M.1,.int .u64 M.2.1,.int .u64 M.2.2.1,.int .u64 M.2.2.2] 107)) (by simp)));have HG2:=zh (HGD.out _ _ HB2.out);clear HB2 HGD;go_wp2_with fail;refine zm HG2.out ?_;rintro e w3 ⟨rfl,hB3⟩;have HB3:=zh hB3;clear hB3 HG2 f0 f1 f2 f3 f4 k0 k1 k2 k3 p0 p1 p2 p3 q0 q1 q2 q3;cases b2 with
  | false =>
   obtain⟨h1,h2,h3⟩:=HL1.out (by rw[HGO.out];simp);subst h1 h2 h3;have HD:=zh (FV.done HB3.out);clear HB3 HK20 HIN HPA HLA HSC HAD HPU HK19 HK15 HK17 HK18 HKN HCA HNX HSR HS5 HS6 HNY HUN HL1 HL2 HL3 HL4 HL5 HLS HNL HGO G0 G1 G2 G3 G4;go_wp2_with fail;refine bodyPost_ret (results_tmp2 rfl _ _ _) rfl ?_;exact⟨rfl,HD.out⟩
  | true =>
   have hg:gd=true:=by
    have h0:=G0.out;have h1:=G1.out;have h2:=G2.out;have h3:=G3.out;have h4:=G4.out;rw[HGO.out];simp[h0,h1,h2,h3,h4]
   subst hg;clear HGO HL1;obtain⟨⟨k0,k1,k2,k3⟩,⟨p0,p1,p2,p3⟩,⟨q0,q1,q2,q3⟩⟩:=(z3c (x:=⟨xs,xo,xt,xb,W,M⟩) (HB3.out.row (g:=w.heap.size) (o:=(.cells #[.int .i64 xs,.int .i64 xo,.int .i64 xt,.int .i64 xb,.int .u64 W.1,.int .u64 W.2.1,.int .u64 W.2.2.1,.int .u64 W.2.2.2,.int .u64 M.1,.int .u64 M.2.1,.int .u64 M.2.2.1,.int .u64 M.2.2.2] 107)) (by simp)));have HK3:=zh (HK20.out _ _ _ HB3.out);clear HB3;go_wp2_with fail;refine zm HK3.out ?_;rintro e w4 ⟨rfl,hB4⟩;have HI4:=zh (HIN.out _ _ hB4);clear hB4 HK3 HIN k0 k1 k2 k3 p0 p1 p2 p3 q0 q1 q2 q3;go_wp2_with fail;refine zm HI4.out ?_;rintro e w5 ⟨rfl,hB5⟩;have HB5:=zh hB5;clear hB5 HI4
   by_cases h16:16<=n20
   ·obtain⟨h1,h2,h3⟩:=HL2.out (by trivial) h16;subst h1 h2 h3;have d1:((16:Int)<=(n20:Int))=True:=eq_true (by omega);have d2:(16<=n20)=True:=eq_true h16;have HD:=zh (FV.done HB5.out);clear HB5 h16 HK20 HPA HLA HSC HAD HPU HK19 HK15 HK17 HK18 HKN HCA HNX HSR HS5 HS6 HNY HUN HL2 HL3 HL4 HL5 HLS HNL G0 G1 G2 G3 G4;go_wp2_with fail;refine bodyPost_ret (results_tmp2 rfl _ _ _) rfl ?_;exact⟨rfl,HD.out⟩
   have d1:((16:Int)<=(n20:Int))=False:=eq_false (by omega);have d2:(16<=n20)=False:=eq_false h16;have HL3:=zh (HL3.out (by trivial) h16);have HL4:=zh (HL4.out (by trivial) h16);have HL5:=zh (HL5.out (by trivial) h16);obtain⟨pa,pc,hpa⟩:=HPA.out _ _ HB5.out;obtain⟨⟨k0,k1,k2,k3⟩,⟨p0,p1,p2,p3⟩,⟨q0,q1,q2,q3⟩⟩:=(z3c (x:=⟨xs,xo,xt,xb,W,M⟩) (HB5.out.row (g:=w.heap.size) (o:=(.cells #[.int .i64 xs,.int .i64 xo,.int .i64 xt,.int .i64 xb,.int .u64 W.1,.int .u64 W.2.1,.int .u64 W.2.2.1,.int .u64 W.2.2.2,.int .u64 M.1,.int .u64 M.2.1,.int .u64 M.2.2.1,.int .u64 M.2.2.2] 107)) (by simp)));clear h16 HL2 HPA
   by_cases ho:xo=0
   ·have hL:eN=0/\s1=s:=by
     have:=HNL.out;rw[if_pos ho,if_pos ho]at this;exact this
    obtain⟨rfl,rfl⟩:=hL;have d3:(0<xo)=False:=eq_false (by omega);have HBJ:=HB5;clear HNL HLA HSC HAD HPU HB5 ho G0 G1 G2 G3 G4;go_upto_region 16 with fail;clear d1 d2 d3 hpa k0 k1 k2 k3 p0 p1 p2 p3 q0 q1 q2 q3;have HL4:=zh (HL4.out (by trivial));have HL5:=zh (HL5.out (by trivial));have HB0:=zh (z0g (Below.refl w5.heap.size w5));clear HL3 HLS;go_upto_region 16 with fail;refine z0c 6 [[],[],[1],[1,2],[],[4],[0,1,2,3,4,5],[0,1,2,3,4,5,6]]
     [rgC (Below w5.heap.size w5),rgV 0 (.pointer (some ⟨sb,0,none⟩)),rgV 1 (.pointer (some ⟨w.heap.size,2,none⟩)),rgV 2 (.int .i64 xt),rgV 3 (.string (keyL 19 [xt])),rgV 4 (.pointer (some ⟨w.heap.size,4,none⟩)),rgV 5 (uV W)] _ (by kernel_rfl) (by kernel_rfl) (by decide) (by kernel_rfl) (by kernel_rfl)
     (fun vs=>by simp only[z14,z1i,List.setIfInBounds_toArray,List.set_cons_zero,List.set_cons_succ];exact rfl)
     ⟨fun _ _ _ hb h=>z0a h hb,z02,z02,z02,z02,z02,z02,trivial⟩ ?_ ?_ ?_
    ·refine z0p rfl HB0.out ?_;iterate 6 refine z0u rfl ?_
     exact trivial
    ·refine⟨?_,?_,?_,?_,?_,?_,trivial⟩
     ·intro vs wa hA K hK;obtain⟨_,_⟩:=hA;refine z08 rfl (.inl rfl) rfl (hK _ _ (.inl zb) ?_);exact z01 1
     ·intro vs wa hA K hK;obtain⟨_,_⟩:=hA;refine zhs rfl rfl rfl (hK _ _ (.inl zb) ?_);exact z01 2
     ·intro vs wa hA K hK;obtain⟨hC,e1,_⟩:=hA;refine z19 rfl rfl (rg1 e1) (z3c (x:=⟨xs,xo,xt,xb,W,M⟩) ((HBJ.out.below hC).row (g:=w.heap.size) (o:=(.cells #[.int .i64 xs,.int .i64 xo,.int .i64 xt,.int .i64 xb,.int .u64 W.1,.int .u64 W.2.1,.int .u64 W.2.2.1,.int .u64 W.2.2.2,.int .u64 M.1,.int .u64 M.2.1,.int .u64 M.2.2.1,.int .u64 M.2.2.2] 107)) (by simp))).1.2.2.1 (hK _ _ (.inl zb) ?_);exact z01 3
     ·intro vs wa hA K hK;obtain⟨_,_,e2,_⟩:=hA;refine z0v rfl rfl rfl (by kernel_rfl) (show [.int .i64 19,vs 2]=_ from by rw[rg1 e2]) (zm (HK19.out _) ?_);rintro e w2 ⟨rfl,hb⟩;refine⟨_,rfl,hK _ _ (.inl hb) ?_⟩;exact z01 4
     ·intro vs wa hA K hK;obtain⟨_,_⟩:=hA;refine zkh rfl rfl rfl (hK _ _ (.inl zb) ?_);exact z01 5
     ·intro vs wa hA K hK;obtain⟨hC,e4,_⟩:=hA;refine z4d rfl rfl (rg1 e4) (z3c (x:=⟨xs,xo,xt,xb,W,M⟩) ((HBJ.out.below hC).row (g:=w.heap.size) (o:=(.cells #[.int .i64 xs,.int .i64 xo,.int .i64 xt,.int .i64 xb,.int .u64 W.1,.int .u64 W.2.1,.int .u64 W.2.2.1,.int .u64 W.2.2.2,.int .u64 M.1,.int .u64 M.2.1,.int .u64 M.2.2.1,.int .u64 M.2.2.2] 107)) (by simp))).2.1 (hK _ _ (.inl zb) ?_);exact z01 6
    ·intro vs wa hA;obtain⟨hC,e0,e1,e2,e3,e4,e5,_⟩:=hA;have e0:=rg1 e0;have e1:=rg1 e1;have e2:=rg1 e2;have e3:=rg1 e3;have e4:=rg1 e4;have e5:=rg1 e5;refine z0i ?_;refine z0v rfl rfl rfl (by kernel_rfl) (show [vs 0,vs 3,vs 5]=_ from by rw[e0,e3,e5]) (zm (HCA.out _ _ (HBJ.out.below hC)) ?_);rintro e wb ⟨rfl,hBb⟩;refine⟨_,rfl,?_⟩;refine z0i ?_;refine z08 rfl (.inr rfl) rfl ?_;refine z0x ?_;simp only[z1h,Nat.reduceEqDiff,↓reduceIte,e0,e1,e2,e3,e4,e5];have HBb:=zh hBb;clear e0 e1 e2 e3 e4 e5 hC HK19 HCA HB0 HBJ hBb
     by_cases hM:eM=0
     case neg =>
      obtain⟨h1,h2,h3⟩:=HL4.out hM;have d1:(eM != 0)=true:=by rw[bne_iff_ne];exact hM
      have HU:=zh (HUN.out (by trivial) hM _ _ HBb.out);subst h1 h2 h3;clear hM HBb HK20 HK15 HK17 HK18 HKN HNX HSR HS5 HS6 HNY HUN HL4 HL5;go_wp2_with fail;refine zm HU.out ?_;rintro e wc ⟨rfl,hBc⟩;have HD:=zh (FV.done hBc);clear hBc HU;go_wp2_with fail;refine bodyPost_ret (results_tmp2 rfl _ _ _) rfl ?_;exact⟨rfl,HD.out⟩
     case pos =>
      obtain⟨h1,h2,h3⟩:=HL5.out hM;have h2':=h2.symm;have h3':=h3.symm;subst h1 h2' h3' hM;have HKc:=zh (HKN.out _ _ _ HBb.out);clear HBb HL4 HL5 HUN HKN;go_wp2_with fail;refine zm HKc.out ?_;rintro e wc ⟨rfl,hBc⟩;have HNc:=zh (HNX.out (by trivial) _ _ hBc);clear hBc HKc HNX;go_wp2_with fail;refine zm HNc.out ?_;rintro e wd ⟨rfl,hBd⟩;have HBd:=zh hBd;have HB0:=zh (z0g (Below.refl wd.heap.size wd));clear hBd HNc;go_upto_region 21 with fail;refine z0c 12 [[],[],[1],[],[3],[],[5],[],[7],[],[9],[3,4,5,6,7,8,9,10],[0,1,2,3,4,5,6,7,8,9,10,11]]
       [rgC (Below wd.heap.size wd),rgV 0 (.pointer (some ⟨sb,0,none⟩)),rgV 1 (.int .i64 id),rgV 2 (.string (keyL 15 [id])),rgV 3 (.pointer (some ⟨w.heap.size,0,none⟩)),rgV 4 (.int .i64 xs),rgV 5 (.pointer (some ⟨w.heap.size,1,none⟩)),rgV 6 (.int .i64 xo),rgV 7 (.pointer (some ⟨w.heap.size,2,none⟩)),rgV 8 (.int .i64 xt),rgV 9 (.pointer (some ⟨w.heap.size,3,none⟩)),rgV 10 (.int .i64 xb),rgI 11 ([xs,xo,xt,xb])] _ (by kernel_rfl) (by kernel_rfl) (by decide) (by kernel_rfl) (by kernel_rfl)
       (fun vs=>by simp only[z14,z1i,List.setIfInBounds_toArray,List.set_cons_zero,List.set_cons_succ];exact rfl)
       ⟨fun _ _ _ hb h=>z0a h hb,z02,z02,z02,z02,z02,z02,z02,z02,z02,z02,z02,z8o,trivial⟩ ?_ ?_ ?_
      ·refine z0p rfl HB0.out ?_;iterate 12 refine z0u rfl ?_
       exact trivial
      ·refine⟨?_,?_,?_,?_,?_,?_,?_,?_,?_,?_,?_,?_,trivial⟩
       ·intro vs wdd hA K hK;obtain⟨_,_⟩:=hA;refine z08 rfl (.inl rfl) rfl (hK _ _ (.inl zb) ?_);exact z01 1
       ·intro vs wdd hA K hK;obtain⟨_,_⟩:=hA;refine z08 rfl (.inl rfl) rfl (hK _ _ (.inl zb) ?_);exact z01 2
       ·intro vs wdd hA K hK;obtain⟨_,e1,_⟩:=hA;refine z0v rfl rfl rfl (by kernel_rfl) (show [.int .i64 15,vs 1]=_ from by rw[rg1 e1]) (zm (HK15.out (by trivial) _) ?_);rintro e w2 ⟨rfl,hb⟩;refine⟨_,rfl,hK _ _ (.inl hb) ?_⟩;exact z01 3
       ·intro vs wdd hA K hK;obtain⟨_,_⟩:=hA;refine zld rfl rfl rfl (hK _ _ (.inl zb) ?_);exact z01 4
       ·intro vs wdd hA K hK;obtain⟨hC,e3,_⟩:=hA;refine z19 rfl rfl (rg1 e3) (z3c (x:=⟨xs,xo,xt,xb,W,M⟩) ((HBd.out.below hC).row (g:=w.heap.size) (o:=(.cells #[.int .i64 xs,.int .i64 xo,.int .i64 xt,.int .i64 xb,.int .u64 W.1,.int .u64 W.2.1,.int .u64 W.2.2.1,.int .u64 W.2.2.2,.int .u64 M.1,.int .u64 M.2.1,.int .u64 M.2.2.1,.int .u64 M.2.2.2] 107)) (by simp))).1.1 (hK _ _ (.inl zb) ?_);exact z01 5
       ·intro vs wdd hA K hK;obtain⟨_,_⟩:=hA;refine zvl rfl rfl rfl (hK _ _ (.inl zb) ?_);exact z01 6
       ·intro vs wdd hA K hK;obtain⟨hC,e5,_⟩:=hA;refine z19 rfl rfl (rg1 e5) (z3c (x:=⟨xs,xo,xt,xb,W,M⟩) ((HBd.out.below hC).row (g:=w.heap.size) (o:=(.cells #[.int .i64 xs,.int .i64 xo,.int .i64 xt,.int .i64 xb,.int .u64 W.1,.int .u64 W.2.1,.int .u64 W.2.2.1,.int .u64 W.2.2.2,.int .u64 M.1,.int .u64 M.2.1,.int .u64 M.2.2.1,.int .u64 M.2.2.2] 107)) (by simp))).1.2.1 (hK _ _ (.inl zb) ?_);exact z01 7
       ·intro vs wdd hA K hK;obtain⟨_,_⟩:=hA;refine zhs rfl rfl rfl (hK _ _ (.inl zb) ?_);exact z01 8
       ·intro vs wdd hA K hK;obtain⟨hC,e7,_⟩:=hA;refine z19 rfl rfl (rg1 e7) (z3c (x:=⟨xs,xo,xt,xb,W,M⟩) ((HBd.out.below hC).row (g:=w.heap.size) (o:=(.cells #[.int .i64 xs,.int .i64 xo,.int .i64 xt,.int .i64 xb,.int .u64 W.1,.int .u64 W.2.1,.int .u64 W.2.2.1,.int .u64 W.2.2.2,.int .u64 M.1,.int .u64 M.2.1,.int .u64 M.2.2.1,.int .u64 M.2.2.2] 107)) (by simp))).1.2.2.1 (hK _ _ (.inl zb) ?_);exact z01 9
       ·intro vs wdd hA K hK;obtain⟨_,_⟩:=hA;refine zvr rfl rfl rfl (hK _ _ (.inl zb) ?_);exact z01 10
       ·intro vs wdd hA K hK;obtain⟨hC,e9,_⟩:=hA;refine z19 rfl rfl (rg1 e9) (z3c (x:=⟨xs,xo,xt,xb,W,M⟩) ((HBd.out.below hC).row (g:=w.heap.size) (o:=(.cells #[.int .i64 xs,.int .i64 xo,.int .i64 xt,.int .i64 xb,.int .u64 W.1,.int .u64 W.2.1,.int .u64 W.2.2.1,.int .u64 W.2.2.2,.int .u64 M.1,.int .u64 M.2.1,.int .u64 M.2.2.1,.int .u64 M.2.2.2] 107)) (by simp))).1.2.2.2 (hK _ _ (.inl zb) ?_);exact z01 11
       ·intro vs wdd hA K hK;obtain⟨_,_,e4,_,e6,_,e8,_,e10,_⟩:=hA;refine zfg rfl rfl (rg1 e4) (rg1 e6) (rg1 e8) (rg1 e10) (hK _ _ (.inl (z04 zb _)) ?_);iterate 12 refine z0k rfl ?_
        refine z0r rfl (fun _=>zbt _ _ _ _ _) ?_;exact trivial
      ·intro vs wdd hA;obtain⟨hC,e0,e1,e2,e3,e4,e5,e6,e7,e8,e9,e10,i11,_⟩:=hA;have e0:=rg1 e0;have e1:=rg1 e1;have e2:=rg1 e2;have e3:=rg1 e3;have e4:=rg1 e4;have e5:=rg1 e5;have e6:=rg1 e6;have e7:=rg1 e7;have e8:=rg1 e8;have e9:=rg1 e9;have e10:=rg1 e10;refine z0i ?_;refine z0v rfl rfl rfl (by kernel_rfl) (show [vs 0,vs 2,vs 11]=_ from by rw[e0,e2]) (zm (HSR.out (by trivial) _ _ (vs 11) i11 (HBd.out.below hC)) ?_);rintro e we ⟨rfl,hBe⟩;refine⟨_,rfl,?_⟩;refine z0x ?_;simp only[z1h,Nat.reduceEqDiff,↓reduceIte,e0,e1,e2,e3,e4,e5,e6,e7,e8,e9,e10];have HBe:=zh hBe;have HB0:=zh (z0g (Below.refl we.heap.size we));clear e0 e1 e2 e3 e4 e5 e6 e7 e8 e9 e10 i11 hC HK15 HSR HBd hBe;go_upto_region 22 with fail;refine z0c 5 [[],[],[1],[],[3],[0,1,2,3,4]]
        [rgC (Below we.heap.size we),rgV 0 (.pointer (some ⟨sb,0,none⟩)),rgV 1 (.int .i64 id),rgV 2 (.string (keyL 17 [id])),rgV 3 (.pointer (some ⟨w.heap.size,4,none⟩)),rgV 4 (uV W)] _ (by kernel_rfl) (by kernel_rfl) (by decide) (by kernel_rfl) (by kernel_rfl)
        (fun vs=>by simp only[z14,z1i,List.setIfInBounds_toArray,List.set_cons_zero,List.set_cons_succ];exact rfl)
        ⟨fun _ _ _ hb h=>z0a h hb,z02,z02,z02,z02,z02,trivial⟩ ?_ ?_ ?_
       ·refine z0p rfl HB0.out ?_;iterate 5 refine z0u rfl ?_
        exact trivial
       ·refine⟨?_,?_,?_,?_,?_,trivial⟩
        ·intro vs wee hA K hK;obtain⟨_,_⟩:=hA;refine z08 rfl (.inl rfl) rfl (hK _ _ (.inl zb) ?_);exact z01 1
        ·intro vs wee hA K hK;obtain⟨_,_⟩:=hA;refine z08 rfl (.inl rfl) rfl (hK _ _ (.inl zb) ?_);exact z01 2
        ·intro vs wee hA K hK;obtain⟨_,e1,_⟩:=hA;refine z0v rfl rfl rfl (by kernel_rfl) (show [.int .i64 17,vs 1]=_ from by rw[rg1 e1]) (zm (HK17.out (by trivial) _) ?_);rintro e w2 ⟨rfl,hb⟩;refine⟨_,rfl,hK _ _ (.inl hb) ?_⟩;exact z01 3
        ·intro vs wee hA K hK;obtain⟨_,_⟩:=hA;refine zkh rfl rfl rfl (hK _ _ (.inl zb) ?_);exact z01 4
        ·intro vs wee hA K hK;obtain⟨hC,e3,_⟩:=hA;refine z4d rfl rfl (rg1 e3) (z3c (x:=⟨xs,xo,xt,xb,W,M⟩) ((HBe.out.below hC).row (g:=w.heap.size) (o:=(.cells #[.int .i64 xs,.int .i64 xo,.int .i64 xt,.int .i64 xb,.int .u64 W.1,.int .u64 W.2.1,.int .u64 W.2.2.1,.int .u64 W.2.2.2,.int .u64 M.1,.int .u64 M.2.1,.int .u64 M.2.2.1,.int .u64 M.2.2.2] 107)) (by simp))).2.1 (hK _ _ (.inl zb) ?_);exact z01 5
       ·intro vs wee hA;obtain⟨hC,e0,e1,e2,e3,e4,_⟩:=hA;have e0:=rg1 e0;have e1:=rg1 e1;have e2:=rg1 e2;have e3:=rg1 e3;have e4:=rg1 e4;refine z0i ?_;refine z0v rfl rfl rfl (by kernel_rfl) (show [vs 0,vs 2,vs 4]=_ from by rw[e0,e2,e4]) (zm (HS5.out _ _ (HBe.out.below hC)) ?_);rintro e wf ⟨rfl,hBf⟩;refine⟨_,rfl,?_⟩;refine z0x ?_;simp only[z1h,Nat.reduceEqDiff,↓reduceIte,e0,e1,e2,e3,e4];have HBf:=zh hBf;have HB0:=zh (z0g (Below.refl wf.heap.size wf));clear e0 e1 e2 e3 e4 hC HK17 HS5 HBe hBf;go_upto_region 23 with fail;refine z0c 5 [[],[],[1],[],[3],[0,1,2,3,4]]
         [rgC (Below wf.heap.size wf),rgV 0 (.pointer (some ⟨sb,0,none⟩)),rgV 1 (.int .i64 id),rgV 2 (.string (keyL 18 [id])),rgV 3 (.pointer (some ⟨w.heap.size,8,none⟩)),rgV 4 (uV M)] _ (by kernel_rfl) (by kernel_rfl) (by decide) (by kernel_rfl) (by kernel_rfl)
         (fun vs=>by simp only[z14,z1i,List.setIfInBounds_toArray,List.set_cons_zero,List.set_cons_succ];exact rfl)
         ⟨fun _ _ _ hb h=>z0a h hb,z02,z02,z02,z02,z02,trivial⟩ ?_ ?_ ?_
        ·refine z0p rfl HB0.out ?_;iterate 5 refine z0u rfl ?_
         exact trivial
        ·refine⟨?_,?_,?_,?_,?_,trivial⟩
         ·intro vs wff hA K hK;obtain⟨_,_⟩:=hA;refine z08 rfl (.inl rfl) rfl (hK _ _ (.inl zb) ?_);exact z01 1
         ·intro vs wff hA K hK;obtain⟨_,_⟩:=hA;refine z08 rfl (.inl rfl) rfl (hK _ _ (.inl zb) ?_);exact z01 2
         ·intro vs wff hA K hK;obtain⟨_,e1,_⟩:=hA;refine z0v rfl rfl rfl (by kernel_rfl) (show [.int .i64 18,vs 1]=_ from by rw[rg1 e1]) (zm (HK18.out (by trivial) _) ?_);rintro e w2 ⟨rfl,hb⟩;refine⟨_,rfl,hK _ _ (.inl hb) ?_⟩;exact z01 3
         ·intro vs wff hA K hK;obtain⟨_,_⟩:=hA;refine zv7 rfl rfl rfl (hK _ _ (.inl zb) ?_);exact z01 4
         ·intro vs wff hA K hK;obtain⟨hC,e3,_⟩:=hA;refine z4d rfl rfl (rg1 e3) (z3c (x:=⟨xs,xo,xt,xb,W,M⟩) ((HBf.out.below hC).row (g:=w.heap.size) (o:=(.cells #[.int .i64 xs,.int .i64 xo,.int .i64 xt,.int .i64 xb,.int .u64 W.1,.int .u64 W.2.1,.int .u64 W.2.2.1,.int .u64 W.2.2.2,.int .u64 M.1,.int .u64 M.2.1,.int .u64 M.2.2.1,.int .u64 M.2.2.2] 107)) (by simp))).2.2 (hK _ _ (.inl zb) ?_);exact z01 5
        ·intro vs wff hA;obtain⟨hC,e0,e1,e2,e3,e4,_⟩:=hA;have e0:=rg1 e0;have e1:=rg1 e1;have e2:=rg1 e2;have e3:=rg1 e3;have e4:=rg1 e4;refine z0i ?_;refine z0v rfl rfl rfl (by kernel_rfl) (show [vs 0,vs 2,vs 4]=_ from by rw[e0,e2,e4]) (zm (HS6.out _ _ (HBf.out.below hC)) ?_);rintro e wg ⟨rfl,hBg⟩;refine⟨_,rfl,?_⟩;refine z0x ?_;simp only[z1h,Nat.reduceEqDiff,↓reduceIte,e0,e1,e2,e3,e4];have HBg:=zh hBg;obtain⟨⟨k0,k1,k2,k3⟩,⟨p0,p1,p2,p3⟩,⟨q0,q1,q2,q3⟩⟩:=(z3c (x:=⟨xs,xo,xt,xb,W,M⟩) (HBg.out.row (g:=w.heap.size) (o:=(.cells #[.int .i64 xs,.int .i64 xo,.int .i64 xt,.int .i64 xb,.int .u64 W.1,.int .u64 W.2.1,.int .u64 W.2.2.1,.int .u64 W.2.2.2,.int .u64 M.1,.int .u64 M.2.1,.int .u64 M.2.2.1,.int .u64 M.2.2.2] 107)) (by simp)));have HK:=zh (HK20.out _ _ _ HBg.out);clear e0 e1 e2 e3 e4 hC HK18 HS6 HBf hBg HBg HK20;go_wp2_with fail;refine zm HK.out ?_;rintro e wh ⟨rfl,hBh⟩;have HNh:=zh (HNY.out (by trivial) _ _ hBh);clear k0 k1 k2 k3 p0 p1 p2 p3 q0 q1 q2 q3 hBh HK HNY;go_wp2_with fail;refine zm HNh.out ?_;rintro e wi ⟨rfl,hBi⟩;have HD:=zh (FV.done hBi);clear hBi HNh;go_wp2_with fail;refine bodyPost_ret (results_tmp2 rfl _ _ _) rfl ?_;exact⟨rfl,HD.out⟩
   have d3:(0<xo)=True:=eq_true (by have:=G2.out;omega);have HLX:Hid (eN=(if cy=0 then pE else 6)/\s1=(if cy=0 then pS else s)):=by
    have:=HNL.out;rw[if_neg ho,if_neg ho]at this;exact this
   have HB6:=zh (HB5.out.alloc (i2O xo xt));clear HNL HB5 ho G0 G1 G2 G3 G4;go_upto_region 8 with fail;generalize hw6:w5.alloc (i2O xo xt)=w6 at *
   generalize w5.heap.size=gi at *
   clear hw6 d1 d2 d3 hpa k0 k1 k2 k3 p0 p1 p2 p3 q0 q1 q2 q3;have HL6:=zh (HLA.out _ _ gi (by simp) HB6.out);clear HLA HB6;go_wp2_with fail;refine zm HL6.out ?_;rintro e w7 ⟨rfl,hB7⟩;have HB8:=zh (hB7.alloc (uO hdl));clear hB7 HL6;go_upto_region 9 with fail;generalize hw8:w7.alloc (uO hdl)=w8 at *
   generalize w7.heap.size=gl at *
   clear hw8;obtain⟨⟨k0,k1,k2,k3⟩,⟨p0,p1,p2,p3⟩,⟨q0,q1,q2,q3⟩⟩:=(z3c (x:=⟨xs,xo,xt,xb,W,M⟩) (HB8.out.row (g:=w.heap.size) (o:=(.cells #[.int .i64 xs,.int .i64 xo,.int .i64 xt,.int .i64 xb,.int .u64 W.1,.int .u64 W.2.1,.int .u64 W.2.2.1,.int .u64 W.2.2.2,.int .u64 M.1,.int .u64 M.2.1,.int .u64 M.2.2.1,.int .u64 M.2.2.2] 107)) (by simp)));have HS8:=zh (HSC.out _ _ HB8.out);clear HSC HB8;go_wp2_with fail;refine zm HS8.out ?_;rintro e w9 ⟨rfl,hB9⟩;have HB10:=zh (hB9.alloc (uO a8));clear hB9 HS8 k0 k1 k2 k3 p0 p1 p2 p3 q0 q1 q2 q3;go_upto_region 10 with fail;generalize hw10:w9.alloc (uO a8)=w10 at *
   generalize w9.heap.size=gs at *
   clear hw10;obtain⟨m0,m1,m2,m3,_⟩:=row4 (HB10.out.u4 (g:=gl) (x:=hdl) (by simp));obtain⟨n0,n1,n2,n3,_⟩:=row4 (HB10.out.u4 (g:=gs) (x:=a8) (by simp));have HA10:=zh (HAD.out _ _ HB10.out);clear HAD HB10;go_wp2_with fail;refine zm HA10.out ?_;rintro e w11 ⟨rfl,hB11⟩;have HB11:=zh hB11;clear hB11 HA10 m0 m1 m2 m3 n0 n1 n2 n3
   by_cases hcy:cy=0
   case neg =>
    obtain⟨he6,hs6⟩:=HLX.out;rw[if_neg hcy]at he6 hs6;subst he6 hs6;obtain⟨h1,h2,h3⟩:=HL3.out (by decide);subst h1 h2 h3;have hcb:(cy==0)=false:=by rw[beq_eq_false_iff_ne];exact hcy
    rw[hcb,if_neg hcy];have HB12:=zh (HB11.out.alloc (uO (0,0,0,0)));have HD:=zh (FV.done HB12.out);clear hcb hcy HB11 HB12 HLX HK20 HPU HK19 HK15 HK17 HK18 HKN HCA HNX HSR HS5 HS6 HNY HUN HL3 HL4 HL5 HLS;go_upto_region 11 with fail;generalize w11.alloc (uO (0,0,0,0))=w12 at *
    go_wp2_with fail;refine bodyPost_ret (results_tmp2 rfl _ _ _) rfl ?_;exact⟨rfl,HD.out⟩
   case pos =>
    obtain⟨heP,hsP⟩:=HLX.out;rw[if_pos hcy]at heP hsP;subst heP hsP;have HPX:=zh (HPU.out (by trivial) hcy);have hcb:(cy==0)=true:=by rw[beq_iff_eq];exact hcy
    rw[hcb,if_pos hcy];have HB12:=zh (HB11.out.alloc (uO sm));clear hcb hcy HB11 HLX HPU;go_upto_region 13 with fail;generalize hw12:w11.alloc (uO sm)=w12 at *
    generalize w11.heap.size=gm at *
    clear hw12;obtain⟨⟨k0,k1,k2,k3⟩,⟨p0,p1,p2,p3⟩,⟨q0,q1,q2,q3⟩⟩:=(z3c (x:=⟨xs,xo,xt,xb,W,M⟩) (HB12.out.row (g:=w.heap.size) (o:=(.cells #[.int .i64 xs,.int .i64 xo,.int .i64 xt,.int .i64 xb,.int .u64 W.1,.int .u64 W.2.1,.int .u64 W.2.2.1,.int .u64 W.2.2.2,.int .u64 M.1,.int .u64 M.2.1,.int .u64 M.2.2.1,.int .u64 M.2.2.2] 107)) (by simp)));obtain⟨m0,m1,m2,m3,_⟩:=row4 (HB12.out.u4 (g:=gm) (x:=sm) (by simp));have HP12:=zh (HPX.out _ _ gi (by simp) HB12.out);clear HPX HB12;go_wp2_with fail;refine zm HP12.out ?_;rintro e w13 ⟨rfl,hB13⟩;have HB13:=zh hB13;clear hB13 HP12 m0 m1 m2 m3 k0 k1 k2 k3 p0 p1 p2 p3 q0 q1 q2 q3
    by_cases hN:eN=0
    case neg =>
     obtain⟨h1,h2,h3⟩:=HL3.out hN;have h4:=HLS.out hN;have d1:(eN != 0)=true:=by rw[bne_iff_ne];exact hN
     have hD:=FV.done HB13.out
     rw[h4]at hD;have HD:=zh hD;subst h1 h2 h3;clear hD h4 hN HB13 HK20 HK19 HK15 HK17 HK18 HKN HCA HNX HSR HS5 HS6 HNY HUN HL3 HL4 HL5 HLS;go_wp2_with fail;refine bodyPost_ret (results_tmp2 rfl _ _ _) rfl ?_;exact⟨rfl,HD.out⟩
    case pos =>
     subst hN;have HBJ:Hid (FV sb w L s1 [(w.heap.size,(.cells #[.int .i64 xs,.int .i64 xo,.int .i64 xt,.int .i64 xb,.int .u64 W.1,.int .u64 W.2.1,.int .u64 W.2.2.1,.int .u64 W.2.2.2,.int .u64 M.1,.int .u64 M.2.1,.int .u64 M.2.2.1,.int .u64 M.2.2.2] 107))] w13):=HB13.out.less (fun x hx=>by rw[List.mem_singleton]at hx;subst hx;simp);clear HB13;have HL4:=zh (HL4.out (by trivial));have HL5:=zh (HL5.out (by trivial));have HB0:=zh (z0g (Below.refl w13.heap.size w13));clear HL3 HLS;go_upto_region 16 with fail;refine z0c 6 [[],[],[1],[1,2],[],[4],[0,1,2,3,4,5],[0,1,2,3,4,5,6]]
      [rgC (Below w13.heap.size w13),rgV 0 (.pointer (some ⟨sb,0,none⟩)),rgV 1 (.pointer (some ⟨w.heap.size,2,none⟩)),rgV 2 (.int .i64 xt),rgV 3 (.string (keyL 19 [xt])),rgV 4 (.pointer (some ⟨w.heap.size,4,none⟩)),rgV 5 (uV W)] _ (by kernel_rfl) (by kernel_rfl) (by decide) (by kernel_rfl) (by kernel_rfl)
      (fun vs=>by simp only[z14,z1i,List.setIfInBounds_toArray,List.set_cons_zero,List.set_cons_succ];exact rfl)
      ⟨fun _ _ _ hb h=>z0a h hb,z02,z02,z02,z02,z02,z02,trivial⟩ ?_ ?_ ?_
     ·refine z0p rfl HB0.out ?_;iterate 6 refine z0u rfl ?_
      exact trivial
     ·refine⟨?_,?_,?_,?_,?_,?_,trivial⟩
      ·intro vs wa hA K hK;obtain⟨_,_⟩:=hA;refine z08 rfl (.inl rfl) rfl (hK _ _ (.inl zb) ?_);exact z01 1
      ·intro vs wa hA K hK;obtain⟨_,_⟩:=hA;refine zhs rfl rfl rfl (hK _ _ (.inl zb) ?_);exact z01 2
      ·intro vs wa hA K hK;obtain⟨hC,e1,_⟩:=hA;refine z19 rfl rfl (rg1 e1) (z3c (x:=⟨xs,xo,xt,xb,W,M⟩) ((HBJ.out.below hC).row (g:=w.heap.size) (o:=(.cells #[.int .i64 xs,.int .i64 xo,.int .i64 xt,.int .i64 xb,.int .u64 W.1,.int .u64 W.2.1,.int .u64 W.2.2.1,.int .u64 W.2.2.2,.int .u64 M.1,.int .u64 M.2.1,.int .u64 M.2.2.1,.int .u64 M.2.2.2] 107)) (by simp))).1.2.2.1 (hK _ _ (.inl zb) ?_);exact z01 3
      ·intro vs wa hA K hK;obtain⟨_,_,e2,_⟩:=hA;refine z0v rfl rfl rfl (by kernel_rfl) (show [.int .i64 19,vs 2]=_ from by rw[rg1 e2]) (zm (HK19.out _) ?_);rintro e w2 ⟨rfl,hb⟩;refine⟨_,rfl,hK _ _ (.inl hb) ?_⟩;exact z01 4
      ·intro vs wa hA K hK;obtain⟨_,_⟩:=hA;refine zkh rfl rfl rfl (hK _ _ (.inl zb) ?_);exact z01 5
      ·intro vs wa hA K hK;obtain⟨hC,e4,_⟩:=hA;refine z4d rfl rfl (rg1 e4) (z3c (x:=⟨xs,xo,xt,xb,W,M⟩) ((HBJ.out.below hC).row (g:=w.heap.size) (o:=(.cells #[.int .i64 xs,.int .i64 xo,.int .i64 xt,.int .i64 xb,.int .u64 W.1,.int .u64 W.2.1,.int .u64 W.2.2.1,.int .u64 W.2.2.2,.int .u64 M.1,.int .u64 M.2.1,.int .u64 M.2.2.1,.int .u64 M.2.2.2] 107)) (by simp))).2.1 (hK _ _ (.inl zb) ?_);exact z01 6
     ·intro vs wa hA;obtain⟨hC,e0,e1,e2,e3,e4,e5,_⟩:=hA;have e0:=rg1 e0;have e1:=rg1 e1;have e2:=rg1 e2;have e3:=rg1 e3;have e4:=rg1 e4;have e5:=rg1 e5;refine z0i ?_;refine z0v rfl rfl rfl (by kernel_rfl) (show [vs 0,vs 3,vs 5]=_ from by rw[e0,e3,e5]) (zm (HCA.out _ _ (HBJ.out.below hC)) ?_);rintro e wb ⟨rfl,hBb⟩;refine⟨_,rfl,?_⟩;refine z0i ?_;refine z08 rfl (.inr rfl) rfl ?_;refine z0x ?_;simp only[z1h,Nat.reduceEqDiff,↓reduceIte,e0,e1,e2,e3,e4,e5];have HBb:=zh hBb;clear e0 e1 e2 e3 e4 e5 hC HK19 HCA HB0 HBJ hBb
      by_cases hM:eM=0
      case neg =>
       obtain⟨h1,h2,h3⟩:=HL4.out (by trivial) hM;have d1:(eM != 0)=true:=by rw[bne_iff_ne];exact hM
       have HU:=zh (HUN.out (by trivial) hM _ _ HBb.out);subst h1 h2 h3;clear hM HBb HK20 HK15 HK17 HK18 HKN HNX HSR HS5 HS6 HNY HUN HL4 HL5;go_wp2_with fail;refine zm HU.out ?_;rintro e wc ⟨rfl,hBc⟩;have HD:=zh (FV.done hBc);clear hBc HU;go_wp2_with fail;refine bodyPost_ret (results_tmp2 rfl _ _ _) rfl ?_;exact⟨rfl,HD.out⟩
      case pos =>
       obtain⟨h1,h2,h3⟩:=HL5.out (by trivial) hM;have h2':=h2.symm;have h3':=h3.symm;subst h1 h2' h3' hM;have HKc:=zh (HKN.out _ _ _ HBb.out);clear HBb HL4 HL5 HUN HKN;go_wp2_with fail;refine zm HKc.out ?_;rintro e wc ⟨rfl,hBc⟩;have HNc:=zh (HNX.out (by trivial) _ _ hBc);clear hBc HKc HNX;go_wp2_with fail;refine zm HNc.out ?_;rintro e wd ⟨rfl,hBd⟩;have HBd:=zh hBd;have HB0:=zh (z0g (Below.refl wd.heap.size wd));clear hBd HNc;go_upto_region 21 with fail;refine z0c 12 [[],[],[1],[],[3],[],[5],[],[7],[],[9],[3,4,5,6,7,8,9,10],[0,1,2,3,4,5,6,7,8,9,10,11]]
        [rgC (Below wd.heap.size wd),rgV 0 (.pointer (some ⟨sb,0,none⟩)),rgV 1 (.int .i64 id),rgV 2 (.string (keyL 15 [id])),rgV 3 (.pointer (some ⟨w.heap.size,0,none⟩)),rgV 4 (.int .i64 xs),rgV 5 (.pointer (some ⟨w.heap.size,1,none⟩)),rgV 6 (.int .i64 xo),rgV 7 (.pointer (some ⟨w.heap.size,2,none⟩)),rgV 8 (.int .i64 xt),rgV 9 (.pointer (some ⟨w.heap.size,3,none⟩)),rgV 10 (.int .i64 xb),rgI 11 ([xs,xo,xt,xb])] _ (by kernel_rfl) (by kernel_rfl) (by decide) (by kernel_rfl) (by kernel_rfl)
        (fun vs=>by simp only[z14,z1i,List.setIfInBounds_toArray,List.set_cons_zero,List.set_cons_succ];exact rfl)
        ⟨fun _ _ _ hb h=>z0a h hb,z02,z02,z02,z02,z02,z02,z02,z02,z02,z02,z02,z8o,trivial⟩ ?_ ?_ ?_
       ·refine z0p rfl HB0.out ?_;iterate 12 refine z0u rfl ?_
        exact trivial
       ·refine⟨?_,?_,?_,?_,?_,?_,?_,?_,?_,?_,?_,?_,trivial⟩
        ·intro vs wdd hA K hK;obtain⟨_,_⟩:=hA;refine z08 rfl (.inl rfl) rfl (hK _ _ (.inl zb) ?_);exact z01 1
        ·intro vs wdd hA K hK;obtain⟨_,_⟩:=hA;refine z08 rfl (.inl rfl) rfl (hK _ _ (.inl zb) ?_);exact z01 2
        ·intro vs wdd hA K hK;obtain⟨_,e1,_⟩:=hA;refine z0v rfl rfl rfl (by kernel_rfl) (show [.int .i64 15,vs 1]=_ from by rw[rg1 e1]) (zm (HK15.out (by trivial) _) ?_);rintro e w2 ⟨rfl,hb⟩;refine⟨_,rfl,hK _ _ (.inl hb) ?_⟩;exact z01 3
        ·intro vs wdd hA K hK;obtain⟨_,_⟩:=hA;refine zld rfl rfl rfl (hK _ _ (.inl zb) ?_);exact z01 4
        ·intro vs wdd hA K hK;obtain⟨hC,e3,_⟩:=hA;refine z19 rfl rfl (rg1 e3) (z3c (x:=⟨xs,xo,xt,xb,W,M⟩) ((HBd.out.below hC).row (g:=w.heap.size) (o:=(.cells #[.int .i64 xs,.int .i64 xo,.int .i64 xt,.int .i64 xb,.int .u64 W.1,.int .u64 W.2.1,.int .u64 W.2.2.1,.int .u64 W.2.2.2,.int .u64 M.1,.int .u64 M.2.1,.int .u64 M.2.2.1,.int .u64 M.2.2.2] 107)) (by simp))).1.1 (hK _ _ (.inl zb) ?_);exact z01 5
        ·intro vs wdd hA K hK;obtain⟨_,_⟩:=hA;refine zvl rfl rfl rfl (hK _ _ (.inl zb) ?_);exact z01 6
        ·intro vs wdd hA K hK;obtain⟨hC,e5,_⟩:=hA;refine z19 rfl rfl (rg1 e5) (z3c (x:=⟨xs,xo,xt,xb,W,M⟩) ((HBd.out.below hC).row (g:=w.heap.size) (o:=(.cells #[.int .i64 xs,.int .i64 xo,.int .i64 xt,.int .i64 xb,.int .u64 W.1,.int .u64 W.2.1,.int .u64 W.2.2.1,.int .u64 W.2.2.2,.int .u64 M.1,.int .u64 M.2.1,.int .u64 M.2.2.1,.int .u64 M.2.2.2] 107)) (by simp))).1.2.1 (hK _ _ (.inl zb) ?_);exact z01 7
        ·intro vs wdd hA K hK;obtain⟨_,_⟩:=hA;refine zhs rfl rfl rfl (hK _ _ (.inl zb) ?_);exact z01 8
        ·intro vs wdd hA K hK;obtain⟨hC,e7,_⟩:=hA;refine z19 rfl rfl (rg1 e7) (z3c (x:=⟨xs,xo,xt,xb,W,M⟩) ((HBd.out.below hC).row (g:=w.heap.size) (o:=(.cells #[.int .i64 xs,.int .i64 xo,.int .i64 xt,.int .i64 xb,.int .u64 W.1,.int .u64 W.2.1,.int .u64 W.2.2.1,.int .u64 W.2.2.2,.int .u64 M.1,.int .u64 M.2.1,.int .u64 M.2.2.1,.int .u64 M.2.2.2] 107)) (by simp))).1.2.2.1 (hK _ _ (.inl zb) ?_);exact z01 9
        ·intro vs wdd hA K hK;obtain⟨_,_⟩:=hA;refine zvr rfl rfl rfl (hK _ _ (.inl zb) ?_);exact z01 10
        ·intro vs wdd hA K hK;obtain⟨hC,e9,_⟩:=hA;refine z19 rfl rfl (rg1 e9) (z3c (x:=⟨xs,xo,xt,xb,W,M⟩) ((HBd.out.below hC).row (g:=w.heap.size) (o:=(.cells #[.int .i64 xs,.int .i64 xo,.int .i64 xt,.int .i64 xb,.int .u64 W.1,.int .u64 W.2.1,.int .u64 W.2.2.1,.int .u64 W.2.2.2,.int .u64 M.1,.int .u64 M.2.1,.int .u64 M.2.2.1,.int .u64 M.2.2.2] 107)) (by simp))).1.2.2.2 (hK _ _ (.inl zb) ?_);exact z01 11
        ·intro vs wdd hA K hK;obtain⟨_,_,e4,_,e6,_,e8,_,e10,_⟩:=hA;refine zfg rfl rfl (rg1 e4) (rg1 e6) (rg1 e8) (rg1 e10) (hK _ _ (.inl (z04 zb _)) ?_);iterate 12 refine z0k rfl ?_
         refine z0r rfl (fun _=>zbt _ _ _ _ _) ?_;exact trivial
       ·intro vs wdd hA;obtain⟨hC,e0,e1,e2,e3,e4,e5,e6,e7,e8,e9,e10,i11,_⟩:=hA;have e0:=rg1 e0;have e1:=rg1 e1;have e2:=rg1 e2;have e3:=rg1 e3;have e4:=rg1 e4;have e5:=rg1 e5;have e6:=rg1 e6;have e7:=rg1 e7;have e8:=rg1 e8;have e9:=rg1 e9;have e10:=rg1 e10;refine z0i ?_;refine z0v rfl rfl rfl (by kernel_rfl) (show [vs 0,vs 2,vs 11]=_ from by rw[e0,e2]) (zm (HSR.out (by trivial) _ _ (vs 11) i11 (HBd.out.below hC)) ?_);rintro e we ⟨rfl,hBe⟩;refine⟨_,rfl,?_⟩;refine z0x ?_;simp only[z1h,Nat.reduceEqDiff,↓reduceIte,e0,e1,e2,e3,e4,e5,e6,e7,e8,e9,e10];have HBe:=zh hBe;have HB0:=zh (z0g (Below.refl we.heap.size we));clear e0 e1 e2 e3 e4 e5 e6 e7 e8 e9 e10 i11 hC HK15 HSR HBd hBe;go_upto_region 22 with fail;refine z0c 5 [[],[],[1],[],[3],[0,1,2,3,4]]
         [rgC (Below we.heap.size we),rgV 0 (.pointer (some ⟨sb,0,none⟩)),rgV 1 (.int .i64 id),rgV 2 (.string (keyL 17 [id])),rgV 3 (.pointer (some ⟨w.heap.size,4,none⟩)),rgV 4 (uV W)] _ (by kernel_rfl) (by kernel_rfl) (by decide) (by kernel_rfl) (by kernel_rfl)
         (fun vs=>by simp only[z14,z1i,List.setIfInBounds_toArray,List.set_cons_zero,List.set_cons_succ];exact rfl)
         ⟨fun _ _ _ hb h=>z0a h hb,z02,z02,z02,z02,z02,trivial⟩ ?_ ?_ ?_
        ·refine z0p rfl HB0.out ?_;iterate 5 refine z0u rfl ?_
         exact trivial
        ·refine⟨?_,?_,?_,?_,?_,trivial⟩
         ·intro vs wee hA K hK;obtain⟨_,_⟩:=hA;refine z08 rfl (.inl rfl) rfl (hK _ _ (.inl zb) ?_);exact z01 1
         ·intro vs wee hA K hK;obtain⟨_,_⟩:=hA;refine z08 rfl (.inl rfl) rfl (hK _ _ (.inl zb) ?_);exact z01 2
         ·intro vs wee hA K hK;obtain⟨_,e1,_⟩:=hA;refine z0v rfl rfl rfl (by kernel_rfl) (show [.int .i64 17,vs 1]=_ from by rw[rg1 e1]) (zm (HK17.out (by trivial) _) ?_);rintro e w2 ⟨rfl,hb⟩;refine⟨_,rfl,hK _ _ (.inl hb) ?_⟩;exact z01 3
         ·intro vs wee hA K hK;obtain⟨_,_⟩:=hA;refine zkh rfl rfl rfl (hK _ _ (.inl zb) ?_);exact z01 4
         ·intro vs wee hA K hK;obtain⟨hC,e3,_⟩:=hA;refine z4d rfl rfl (rg1 e3) (z3c (x:=⟨xs,xo,xt,xb,W,M⟩) ((HBe.out.below hC).row (g:=w.heap.size) (o:=(.cells #[.int .i64 xs,.int .i64 xo,.int .i64 xt,.int .i64 xb,.int .u64 W.1,.int .u64 W.2.1,.int .u64 W.2.2.1,.int .u64 W.2.2.2,.int .u64 M.1,.int .u64 M.2.1,.int .u64 M.2.2.1,.int .u64 M.2.2.2] 107)) (by simp))).2.1 (hK _ _ (.inl zb) ?_);exact z01 5
        ·intro vs wee hA;obtain⟨hC,e0,e1,e2,e3,e4,_⟩:=hA;have e0:=rg1 e0;have e1:=rg1 e1;have e2:=rg1 e2;have e3:=rg1 e3;have e4:=rg1 e4;refine z0i ?_;refine z0v rfl rfl rfl (by kernel_rfl) (show [vs 0,vs 2,vs 4]=_ from by rw[e0,e2,e4]) (zm (HS5.out _ _ (HBe.out.below hC)) ?_);rintro e wf ⟨rfl,hBf⟩;refine⟨_,rfl,?_⟩;refine z0x ?_;simp only[z1h,Nat.reduceEqDiff,↓reduceIte,e0,e1,e2,e3,e4];have HBf:=zh hBf;have HB0:=zh (z0g (Below.refl wf.heap.size wf));clear e0 e1 e2 e3 e4 hC HK17 HS5 HBe hBf;go_upto_region 23 with fail;refine z0c 5 [[],[],[1],[],[3],[0,1,2,3,4]]
          [rgC (Below wf.heap.size wf),rgV 0 (.pointer (some ⟨sb,0,none⟩)),rgV 1 (.int .i64 id),rgV 2 (.string (keyL 18 [id])),rgV 3 (.pointer (some ⟨w.heap.size,8,none⟩)),rgV 4 (uV M)] _ (by kernel_rfl) (by kernel_rfl) (by decide) (by kernel_rfl) (by kernel_rfl)
          (fun vs=>by simp only[z14,z1i,List.setIfInBounds_toArray,List.set_cons_zero,List.set_cons_succ];exact rfl)
          ⟨fun _ _ _ hb h=>z0a h hb,z02,z02,z02,z02,z02,trivial⟩ ?_ ?_ ?_
         ·refine z0p rfl HB0.out ?_;iterate 5 refine z0u rfl ?_
          exact trivial
         ·refine⟨?_,?_,?_,?_,?_,trivial⟩
          ·intro vs wff hA K hK;obtain⟨_,_⟩:=hA;refine z08 rfl (.inl rfl) rfl (hK _ _ (.inl zb) ?_);exact z01 1
          ·intro vs wff hA K hK;obtain⟨_,_⟩:=hA;refine z08 rfl (.inl rfl) rfl (hK _ _ (.inl zb) ?_);exact z01 2
          ·intro vs wff hA K hK;obtain⟨_,e1,_⟩:=hA;refine z0v rfl rfl rfl (by kernel_rfl) (show [.int .i64 18,vs 1]=_ from by rw[rg1 e1]) (zm (HK18.out (by trivial) _) ?_);rintro e w2 ⟨rfl,hb⟩;refine⟨_,rfl,hK _ _ (.inl hb) ?_⟩;exact z01 3
          ·intro vs wff hA K hK;obtain⟨_,_⟩:=hA;refine zv7 rfl rfl rfl (hK _ _ (.inl zb) ?_);exact z01 4
          ·intro vs wff hA K hK;obtain⟨hC,e3,_⟩:=hA;refine z4d rfl rfl (rg1 e3) (z3c (x:=⟨xs,xo,xt,xb,W,M⟩) ((HBf.out.below hC).row (g:=w.heap.size) (o:=(.cells #[.int .i64 xs,.int .i64 xo,.int .i64 xt,.int .i64 xb,.int .u64 W.1,.int .u64 W.2.1,.int .u64 W.2.2.1,.int .u64 W.2.2.2,.int .u64 M.1,.int .u64 M.2.1,.int .u64 M.2.2.1,.int .u64 M.2.2.2] 107)) (by simp))).2.2 (hK _ _ (.inl zb) ?_);exact z01 5
         ·intro vs wff hA;obtain⟨hC,e0,e1,e2,e3,e4,_⟩:=hA;have e0:=rg1 e0;have e1:=rg1 e1;have e2:=rg1 e2;have e3:=rg1 e3;have e4:=rg1 e4;refine z0i ?_;refine z0v rfl rfl rfl (by kernel_rfl) (show [vs 0,vs 2,vs 4]=_ from by rw[e0,e2,e4]) (zm (HS6.out _ _ (HBf.out.below hC)) ?_);rintro e wg ⟨rfl,hBg⟩;refine⟨_,rfl,?_⟩;refine z0x ?_;simp only[z1h,Nat.reduceEqDiff,↓reduceIte,e0,e1,e2,e3,e4];have HBg:=zh hBg;obtain⟨⟨k0,k1,k2,k3⟩,⟨p0,p1,p2,p3⟩,⟨q0,q1,q2,q3⟩⟩:=(z3c (x:=⟨xs,xo,xt,xb,W,M⟩) (HBg.out.row (g:=w.heap.size) (o:=(.cells #[.int .i64 xs,.int .i64 xo,.int .i64 xt,.int .i64 xb,.int .u64 W.1,.int .u64 W.2.1,.int .u64 W.2.2.1,.int .u64 W.2.2.2,.int .u64 M.1,.int .u64 M.2.1,.int .u64 M.2.2.1,.int .u64 M.2.2.2] 107)) (by simp)));have HK:=zh (HK20.out _ _ _ HBg.out);clear e0 e1 e2 e3 e4 hC HK18 HS6 HBf hBg HBg HK20;go_wp2_with fail;refine zm HK.out ?_;rintro e wh ⟨rfl,hBh⟩;have HNh:=zh (HNY.out (by trivial) _ _ hBh);clear k0 k1 k2 k3 p0 p1 p2 p3 q0 q1 q2 q3 hBh HK HNY;go_wp2_with fail;refine zm HNh.out ?_;rintro e wi ⟨rfl,hBi⟩;have HD:=zh (FV.done hBi);clear hBi HNh;go_wp2_with fail;refine bodyPost_ret (results_tmp2 rfl _ _ _) rfl ?_;exact⟨rfl,HD.out⟩
end Go.Proofs.YtnkilceibkkjlaaGreat
