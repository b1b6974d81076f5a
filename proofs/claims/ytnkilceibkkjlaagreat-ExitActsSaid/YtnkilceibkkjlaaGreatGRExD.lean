/- What is proved here: the reference's withdrawals: Done. Conditions: sizes. -/
import Derived.Test.YtnkilceibkkjlaaGreatGRExC
import Derived.Test.YtnkilceibkkjlaaGreatGExDn
set_option maxRecDepth 100000
set_option maxHeartbeats 16000000
namespace Go.Proofs.YtnkilceibkkjlaaGreat
open Go.RowKit
theorem zzb(w:World)(sb:Nat)(L:List Nat)(s:St)(k:ByteArray)(hq:RRep w sb s L)(hz:s.size<1000000000000) :
  Calls Tryz.prog 136 #[.pointer (some ⟨sb,0,none⟩),.string k] w fun e w'=>e= .returned (.bool (getE s.ents k).isSome)/\ROn w sb L (s.del k) w':=
 (z8v w sb s L k hq hz).mono fun _ _ ⟨he,h2⟩=>⟨he,h2⟩
theorem zti{ops:Array Oper}{o:Oper}{a:Act}{w:World}{K:Value->World->Prop}{x:Operand}{n m:Int}(hg:Region.wanted o (yielded ops a.tmps)=true)(ho:o.op= .binOp .sub 3 x (.const (.int .i64 1)) 3)(hx:a.eval x= .int .i64 n)(hw:IntKind.i64.wrap (n-1)=m)(hk:K (.int .i64 m) w):rgDo Tryz.prog ops o a w K:=by
 subst hw;refine z0j hg ?_ hk;clear hg hk;have hc:a.eval (.const (.int .i64 1))= .int .i64 1:=rfl;generalize a.eval=ev at hx hc ⊢;unfold execOp;simp only[ho,hx,hc]
 go_simp
theorem zld{ops:Array Oper}{o:Oper}{a:Act}{w:World}{K:Value->World->Prop}{x:Operand}{g:Nat}(hg:Region.wanted o (yielded ops a.tmps)=true)(ho:o.op= .fieldAddr 107 x 0)(hx:a.eval x= .pointer (some ⟨g,0,none⟩))(hk:K (.pointer (some ⟨g,0,none⟩)) w):rgDo Tryz.prog ops o a w K:=by
 refine z0j hg ?_ hk;unfold execOp;simp only[ho,hx]
 go_simp
theorem zvl{ops:Array Oper}{o:Oper}{a:Act}{w:World}{K:Value->World->Prop}{x:Operand}{g:Nat}(hg:Region.wanted o (yielded ops a.tmps)=true)(ho:o.op= .fieldAddr 107 x 1)(hx:a.eval x= .pointer (some ⟨g,0,none⟩))(hk:K (.pointer (some ⟨g,1,none⟩)) w):rgDo Tryz.prog ops o a w K:=by
 refine z0j hg ?_ hk;unfold execOp;simp only[ho,hx]
 go_simp
theorem zhs{ops:Array Oper}{o:Oper}{a:Act}{w:World}{K:Value->World->Prop}{x:Operand}{g:Nat}(hg:Region.wanted o (yielded ops a.tmps)=true)(ho:o.op= .fieldAddr 107 x 2)(hx:a.eval x= .pointer (some ⟨g,0,none⟩))(hk:K (.pointer (some ⟨g,2,none⟩)) w):rgDo Tryz.prog ops o a w K:=by
 refine z0j hg ?_ hk;unfold execOp;simp only[ho,hx]
 go_simp
theorem zvr{ops:Array Oper}{o:Oper}{a:Act}{w:World}{K:Value->World->Prop}{x:Operand}{g:Nat}(hg:Region.wanted o (yielded ops a.tmps)=true)(ho:o.op= .fieldAddr 107 x 3)(hx:a.eval x= .pointer (some ⟨g,0,none⟩))(hk:K (.pointer (some ⟨g,3,none⟩)) w):rgDo Tryz.prog ops o a w K:=by
 refine z0j hg ?_ hk;unfold execOp;simp only[ho,hx]
 go_simp
theorem zkh{ops:Array Oper}{o:Oper}{a:Act}{w:World}{K:Value->World->Prop}{x:Operand}{g:Nat}(hg:Region.wanted o (yielded ops a.tmps)=true)(ho:o.op= .fieldAddr 107 x 4)(hx:a.eval x= .pointer (some ⟨g,0,none⟩))(hk:K (.pointer (some ⟨g,4,none⟩)) w):rgDo Tryz.prog ops o a w K:=by
 refine z0j hg ?_ hk;unfold execOp;simp only[ho,hx]
 go_simp
theorem zv7{ops:Array Oper}{o:Oper}{a:Act}{w:World}{K:Value->World->Prop}{x:Operand}{g:Nat}(hg:Region.wanted o (yielded ops a.tmps)=true)(ho:o.op= .fieldAddr 107 x 5)(hx:a.eval x= .pointer (some ⟨g,0,none⟩))(hk:K (.pointer (some ⟨g,8,none⟩)) w):rgDo Tryz.prog ops o a w K:=by
 refine z0j hg ?_ hk;unfold execOp;simp only[ho,hx]
 go_simp
theorem zt8(w:World)(sb:Nat)(L:List Nat)(s:St)(f:Nat)(id:Int)(m:W4)(hid:I63 id)(hmo:m.Ok)(hq:RRep w sb s L)(hf:s.Fit f)(hm:f<1000000000) :
  Calls Tryz.prog 121 #[.pointer (some ⟨sb,0,none⟩),.int .i64 id,uV m] w fun e w'=>e= .returned (.tuple #[uV (xdnW s id m),.int .i64 (xdnE s id m)])/\ROn w sb L (H1.dnSt s id m) w':=by
 have hB:=((FV.start hq).alloc (uO m)).alloc zO;rw[World.size_alloc]at hB;obtain⟨x1,x2,x3,x4⟩:=zr8 s id;obtain⟨x5,x6⟩:=znl s id;have hsz:∀ {s':St} {g:Nat},s'.Fit g->g<2000000000->s'.size<1000000000000:=fun h1 h2=>Nat.lt_of_le_of_lt h1.size (by omega)
 have HGT:Hid (∀ rs W,FV sb w L s rs W->Calls Tryz.prog 53 #[.pointer (some ⟨sb,0,none⟩),.int .i64 id] W fun e w'=>e= .returned (.tuple #[.agg (s.ex id).L,.bool (s.exIs id)])/\FV sb w L s rs w'):=fun rs W hV=>hV.reads fun L' h1=>zj7 W sb s L' f id hid h1 hf (by omega)
 have HPY:Hid (∀ rs W,FV sb w L s rs W->Calls Tryz.prog 54 #[.agg (s.ex id).L,uV m] W fun e w'=>e= .returned (uV (xdnA s id m))/\FV sb w L s rs w'):=fun rs W hV=>hV.reads fun L' h1=>zed (s.ex id) m x5 x6 hmo W
 have HK19:Hid (∀ W,Calls Tryz.prog 125 #[.int .i64 19,.int .i64 (s.ex id).sg] W fun e w'=>e= .returned (.string (keyL 19 [(s.ex id).sg]))/\Below W.heap.size W w'):=z1r 19 (by decide) (by decide) _ x3;have HCS:Hid (∀ rs W,FV sb w L s rs W->Calls Tryz.prog 188 #[.pointer (some ⟨sb,0,none⟩),.string (keyL 19 [(s.ex id).sg]),uV (xdnA s id m)] W fun e w'=>e= .returned (.int .i64 (z1e (s.amt (keyL 19 [(s.ex id).sg])) (xdnA s id m)))/\FV sb w L (H1.dnS s id m 0) rs w'):=fun rs W hV=>QV.call hV fun L' h1=>zqp W sb L' s f _ _ (zk9 x5 m) h1 hf (by omega)
 have HKY:Hid (∀ t:Nat,1<=t->t<=255->∀ s' rs W,FV sb w L s' rs W->Calls Tryz.prog 125 #[.int .i64 t,.int .i64 id] W fun e w'=>e= .returned (.string (keyL t [id]))/\FV sb w L s' rs w'):=fun t h1 h2 s' rs W hV=>(z1r t h1 h2 id hid W).mono fun e w' ⟨he,hb⟩=>⟨he,QV.below hV hb⟩
 have HK20:Hid (∀ W,Calls Tryz.prog 125 #[.int .i64 20,.int .i64 (s.ex id).st] W fun e w'=>e= .returned (.string (keyL 20 [(s.ex id).st]))/\Below W.heap.size W w'):=z1r 20 (by decide) (by decide) _ x1;have HQ:Hid (∀ k:Nat,k<3->∃ t:Nat,(1<=t/\t<=255)/\(∀ w',(Instr.index 169 (.agg #[.int .i64 15,.int .i64 17,.int .i64 18]) (.int .i64 k)).run Tryz.prog w' = .ok (.int .i64 t) w')/\∀ rs W,FV sb w L (H1.dnS s id m k) rs W->∃ ok,Calls Tryz.prog 136 #[.pointer (some ⟨sb,0,none⟩),.string (keyL t [id])] W fun e w'=>e= .returned (.bool ok)/\FV sb w L (H1.dnS s id m (k+1)) rs w'):=fun k hk=>by
  have hd:∀ k' kk rs W,FV sb w L (H1.dnS s id m k') rs W->Calls Tryz.prog 136 #[.pointer (some ⟨sb,0,none⟩),.string kk] W fun e w'=>e= .returned (.bool (getE (H1.dnS s id m k').ents kk).isSome)/\FV sb w L ((H1.dnS s id m k').del kk) rs w':=fun k' kk rs W hV=>QV.call hV fun L' h1=>zzb W sb L' _ _ h1 (hsz (Hand.z7q hf id m k') (by omega))
  match k,hk with
  | 0,_=>exact⟨15,by decide,zv4,fun rs W hV=>⟨_,hd 0 _ rs W hV⟩⟩
  | 1,_=>exact⟨17,by decide,zva,fun rs W hV=>⟨_,hd 1 _ rs W hV⟩⟩
  | 2,_=>exact⟨18,by decide,zux,fun rs W hV=>⟨_,hd 2 _ rs W hV⟩⟩
 have HIN:Hid (∀ rs W,FV sb w L (H1.dnS s id m 3) rs W->Calls Tryz.prog 100 #[.pointer (some ⟨sb,0,none⟩),.string (keyL 20 [(s.ex id).st])] W fun e w'=>e= .returned (.int .i64 ((H1.dnS s id m 3).int (keyL 20 [(s.ex id).st])))/\Below W.heap.size W w'):=fun rs W hV=>by
  obtain⟨L',h1,_⟩:=hV.on;exact zfy W sb _ L' _ h1 (Nat.lt_of_le_of_lt ((Hand.z7q hf id m 3).val _) (by decide)) (hsz (Hand.z7q hf id m 3) (by omega))
 have hn63:=z7y (H1.dnS s id m 3) (keyL 20 [(s.ex id).st]);have HSI:Hid (∀ rs W,FV sb w L (H1.dnS s id m 3) rs W->Calls Tryz.prog 189 #[.pointer (some ⟨sb,0,none⟩),.string (keyL 20 [(s.ex id).st]),.int .i64 ((((H1.dnS s id m 3).int (keyL 20 [(s.ex id).st]):Nat):Int)-1)] W fun e w'=>e= .returned (.tuple #[])/\FV sb w L (H1.dn5 s id m) rs w'):=fun rs W hV=>hV.z0m (hsz (Hand.z7q hf id m 3) (by omega)) _ _ (by omega)
 have hlaw:(s.exIs id=false->xdnE s id m=8/\xdnW s id m=(0,0,0,0)/\H1.dnSt s id m=s)/\(s.exIs id=true->xdnE s id m=z1e (s.amt (keyL 19 [(s.ex id).sg])) (xdnA s id m)/\(z1e (s.amt (keyL 19 [(s.ex id).sg])) (xdnA s id m)=0->xdnW s id m=xdnA s id m/\H1.dnSt s id m=H1.dn5 s id m)/\(z1e (s.amt (keyL 19 [(s.ex id).sg])) (xdnA s id m)≠0->xdnW s id m=(0,0,0,0)/\H1.dnSt s id m=s/\H1.dnS s id m 0=s)):=by
  refine⟨fun h1 => ?_,fun h1 => ?_⟩
  ·have he:xdnE s id m=8:=by unfold xdnE;rw[if_neg (by rw[h1];decide)]
   unfold xdnW Hand.dnSt;rw[he,if_neg (by decide),if_neg (by decide)];exact⟨rfl,rfl,rfl⟩
  ·have he:xdnE s id m=z1e (s.amt (keyL 19 [(s.ex id).sg])) (xdnA s id m):=by unfold xdnE;rw[if_pos h1]
   unfold xdnW Hand.dnSt;rw[he];refine⟨rfl,fun h2=>by rw[if_pos h2,if_pos h2];exact⟨rfl,rfl⟩,fun h2 => ?_⟩;rw[if_neg h2,if_neg h2];refine⟨rfl,rfl,?_⟩;show H1.dn1 s id m=s
   unfold Hand.dn1 Hand.z4p;rw[if_neg h2]
 have HLAW:=zh hlaw;have HB:=zh hB;have HQR:=zh hq;clear hlaw hB hsz hq hf hm hid hmo x1 x2 x3 x4 x5 x6;generalize xdnE s id m=rE at *
 generalize xdnW s id m=rW at *
 generalize H1.dnSt s id m=rS at *
 generalize z1e (s.amt (keyL 19 [(s.ex id).sg])) (xdnA s id m)=eS at *
 generalize H1.dn5 s id m=s5 at *
 obtain⟨n20,hn20⟩:∃ n:Nat,n=(H1.dnS s id m 3).int (keyL 20 [(s.ex id).st]):=⟨_,rfl⟩;rw[<- hn20]at HIN HSI hn63;clear hn20;obtain⟨n21,hn21⟩:∃ n1:Int,n1=(n20:Int)-1:=⟨_,rfl⟩;have hwr:IntKind.i64.wrap ((n20:Int)-1)=n21:=by rw[hn21,IntKind.wrap_i64];omega
 have hwr2:wrap64 ((n20:Int)-1)=n21:=by rw[hn21];unfold wrap64;omega
 have HWR:=zh hwr;rw[<- hn21]at HSI;clear hn21 hn63;generalize H1.dnS s id m=dS at *
 generalize xdnA s id m=pa at *
 generalize s.exIs id=is at *
 obtain⟨⟨xs,xo,xt,xb,W,M⟩,hx⟩:∃ x,x=s.ex id:=⟨_,rfl⟩;rw[<- hx]at HGT HPY HK19 HCS HK20 HIN HSI;clear hx;dsimp only[Ex.L]at HGT HPY HK19 HCS HK20 HIN HSI;go_enter Tryz.func121,Tryz.ntmps121;go_upto_region 1 with fail;generalize hw1:(w.alloc (uO m)).alloc zO=w1 at *
 clear hw1;have HG1:=zh (HGT.out _ _ HB.out);clear HB HGT;go_wp2_with fail;refine zm HG1.out ?_;rintro e w2 ⟨rfl,hB2⟩;have HB4:=zh (hB2.alloc (.cells #[.int .i64 xs,.int .i64 xo,.int .i64 xt,.int .i64 xb,.int .u64 W.1,.int .u64 W.2.1,.int .u64 W.2.2.1,.int .u64 W.2.2.2,.int .u64 M.1,.int .u64 M.2.1,.int .u64 M.2.2.1,.int .u64 M.2.2.2] 107));have HNE1:Hid (w.heap.size+1≠w2.heap.size/\w.heap.size≠w2.heap.size):=by
  have h1:=z05 (hB2.row (g:=w.heap.size+1) (o:=zO) (by simp));exact⟨by omega,by omega⟩
 clear HG1 hB2;go_upto_region 2 with fail;generalize hw3:w2.alloc (.cells #[.int .i64 xs,.int .i64 xo,.int .i64 xt,.int .i64 xb,.int .u64 W.1,.int .u64 W.2.1,.int .u64 W.2.2.1,.int .u64 W.2.2.2,.int .u64 M.1,.int .u64 M.2.1,.int .u64 M.2.2.1,.int .u64 M.2.2.2] 107)=w4 at *
 generalize w2.heap.size=gx at *
 clear hw3;cases is with
 | false =>
  obtain⟨rfl,rfl,rfl⟩:=HLAW.out.1 (by trivial);obtain⟨z0,z1,z2,z3,z4,z5,z6,z7⟩:=row4 (HB4.out.u4 (g:=w.heap.size+1) (x:=(0,0,0,0)) (by simp));have HZ:=zh (HB4.out.put4 (g:=w.heap.size+1) (y:=(0,0,0,0)) (0,0,0,0) (by simp) [] (fun _ hx=>by cases hx));clear HB4 HLAW HPY HK19 HCS HKY HK20 HQ HIN HSI;go_wp2_with fail;refine bodyPost_ret (z00 rfl _ _ (w.heap.size+1) 24 (uL (0,0,0,0)) (0,0) _ rfl (HZ.out.row (by simp)) Tryz.underlying24 rfl (by kernel_rfl)) rfl ?_;exact⟨rfl,FV.done HZ.out⟩
 | true =>
  obtain⟨hE,hE0,hE1⟩:=HLAW.out.2 (by trivial);have hE2:=hE.symm;subst hE2;clear hE;have HE:=zh (And.intro hE0 hE1);clear hE0 hE1 HLAW;obtain⟨⟨k0,k1,k2,k3⟩,⟨p0,p1,p2,p3⟩,⟨q0,q1,q2,q3⟩⟩:=z3c (x:=⟨xs,xo,xt,xb,W,M⟩) (HB4.out.row (g:=gx) (o:=.cells #[.int .i64 xs,.int .i64 xo,.int .i64 xt,.int .i64 xb,.int .u64 W.1,.int .u64 W.2.1,.int .u64 W.2.2.1,.int .u64 W.2.2.2,.int .u64 M.1,.int .u64 M.2.1,.int .u64 M.2.2.1,.int .u64 M.2.2.2] 107) (by simp));obtain⟨m0,m1,m2,m3,_⟩:=row4 (HB4.out.u4 (g:=w.heap.size) (x:=m) (by simp));have HP4:=zh (HPY.out _ _ HB4.out);clear HB4 HPY;go_wp2_with fail;refine zm HP4.out ?_;rintro e w5 ⟨rfl,hB5⟩;have HB6:=zh (hB5.alloc (uO pa));clear HP4 hB5 k0 k1 k2 k3 p0 p1 p2 p3 q0 q1 q2 q3 m0 m1 m2 m3;go_upto_region 5 with fail;generalize hw6:w5.alloc (uO pa)=w6 at *
  generalize w5.heap.size=ga at *
  clear hw6;have HB0:=zh (z0g (Below.refl w6.heap.size w6));refine z0c 5 [[],[],[1],[1,2],[],[0,1,2,3,4],[0,1,2,3,4,5]]
   [rgC (Below w6.heap.size w6),rgV 0 (.pointer (some ⟨sb,0,none⟩)),rgV 1 (.pointer (some ⟨gx,2,none⟩)),rgV 2 (.int .i64 xt),rgV 3 (.string (keyL 19 [xt])),rgV 4 (uV pa)] _ (by kernel_rfl) (by kernel_rfl) (by decide) (by kernel_rfl) (by kernel_rfl)
   (fun vs=>by simp only[z14,z1i,List.setIfInBounds_toArray,List.set_cons_zero,List.set_cons_succ];exact rfl)
   ⟨fun _ _ _ hb h=>z0a h hb,z02,z02,z02,z02,z02,trivial⟩ ?_ ?_ ?_
  ·refine z0p rfl HB0.out ?_;iterate 5 refine z0u rfl ?_
   exact trivial
  ·refine⟨?_,?_,?_,?_,?_,trivial⟩
   ·intro vs w7 hA K hK;obtain⟨_,_⟩:=hA;refine z08 rfl (.inl rfl) rfl (hK _ _ (.inl zb) ?_);exact z01 1
   ·intro vs w7 hA K hK;obtain⟨_,_⟩:=hA;refine zhs rfl rfl rfl (hK _ _ (.inl zb) ?_);exact z01 2
   ·intro vs w7 hA K hK;obtain⟨hC,e1,_⟩:=hA;refine z19 rfl rfl (rg1 e1) (z3c (x:=⟨xs,xo,xt,xb,W,M⟩) ((HB6.out.below hC).row (g:=gx) (o:=rexO ⟨xs,xo,xt,xb,W,M⟩) (by simp[Ex.L]))).1.2.2.1 (hK _ _ (.inl zb) ?_);exact z01 3
   ·intro vs w7 hA K hK;obtain⟨_,_,e2,_⟩:=hA;refine z0v rfl rfl rfl (by kernel_rfl) (show [.int .i64 19,vs 2]=_ from by rw[rg1 e2]) (zm (HK19.out _) ?_);rintro e w2 ⟨rfl,hb⟩;refine⟨_,rfl,hK _ _ (.inl hb) ?_⟩;exact z01 4
   ·intro vs w7 hA K hK;obtain⟨hC,_⟩:=hA;refine z1b rfl rfl rfl ((HB6.out.below hC).u4 (g:=ga) (x:=pa) (by simp)) (hK _ _ (.inl zb) ?_);exact z01 5
  ·intro vs w7 hA;obtain⟨hC,e0,e1,e2,e3,e4,_⟩:=hA;have e0:=rg1 e0;have e1:=rg1 e1;have e2:=rg1 e2;have e3:=rg1 e3;have e4:=rg1 e4;refine z0i ?_;refine z0v rfl rfl rfl (by kernel_rfl) (show [vs 0,vs 3,vs 4]=_ from by rw[e0,e3,e4]) (zm (HCS.out _ _ (HB6.out.below hC)) ?_);rintro e w9 ⟨rfl,hB9⟩;refine⟨_,rfl,?_⟩;refine z0i ?_;refine z08 rfl (.inr rfl) rfl ?_;refine z0x ?_;simp only[z1h,Nat.reduceEqDiff,↓reduceIte,e0,e1,e2,e3,e4];have HB9:=zh hB9;clear hB9 HB0 HB6 HK19 HCS e0 e1 e2 e3 e4 hC
   by_cases he0:eS=0
   ·obtain⟨rfl,rfl⟩:=HE.out.1 he0;subst he0;clear HE;go_wp2_with fail
    go_loopw [37] (fun iv wr=>∃ k:Nat,iv= .int .i64 k/\k<=3/\FV sb w L (dS k) [(ga,uO rW),(gx,rexO ⟨xs,xo,xt,xb,W,M⟩),(w.heap.size+1,zO),(w.heap.size,uO m)] wr) (fun iv _=>3-(intOf iv).toNat)
    case atStart=>exact⟨0,rfl,by omega,HB9.out⟩
    case round =>
     obtain⟨k,rfl,hk,hA⟩:=hrel;clear HB9
     by_cases hlt:k<3
     ·obtain⟨t,⟨ht1,ht2⟩,hidx,hdel⟩:=HQ.out k hlt;have HK:=zh (HKY.out t ht1 ht2 _ _ _ hA);have HD:=zh hdel;clear hdel HQ HKY hA ht1 ht2 HIN HSI HK20;generalize ((t:Nat):Int)=tt at *
      go_wp2_with fail;refine zm HK.out ?_;rintro e w10 ⟨rfl,hB10⟩;obtain⟨ok,hD⟩:=HD.out _ _ hB10;have HDD:=zh hD;clear hD HD HK hB10 hidx;go_wp2_with fail;refine zm HDD.out ?_;rintro e w11 ⟨rfl,hB11⟩;have HB11:=zh hB11;clear hB11 HDD;go_wp2_with fail;go_roundw
      case rel=>exact⟨k+1,by go_num,by omega,HB11.out⟩
      case measure=>simp[intOf];omega
     ·obtain rfl:k=3:=by omega
      have HB12:=zh hA;clear hA HQ HKY hlt hk hwr hwr2;go_upto_region 13 with fail;have HB0:=zh (z0g (Below.refl wr.heap.size wr));refine z0c 10 [[],[],[1],[1,2],[],[],[5],[1,2,3,5,6],[1,2,3,4,5,6,7],[1,2,3,4,5,6,7,8],[0,1,2,3,4,5,6,7,8,9]]
       [rgC (Below wr.heap.size wr),rgV 0 (.pointer (some ⟨sb,0,none⟩)),rgV 1 (.pointer (some ⟨gx,0,none⟩)),rgV 2 (.int .i64 xs),rgV 3 (.string (keyL 20 [xs])),rgV 4 (.pointer (some ⟨sb,0,none⟩)),rgV 5 (.pointer (some ⟨gx,0,none⟩)),rgV 6 (.int .i64 xs),rgV 7 (.string (keyL 20 [xs])),rgV 8 (.int .i64 n20),rgV 9 (.int .i64 n21)] _ (by kernel_rfl) (by kernel_rfl) (by decide) (by kernel_rfl) (by kernel_rfl)
       (fun vs=>by simp only[z14,z1i,List.setIfInBounds_toArray,List.set_cons_zero,List.set_cons_succ];exact rfl)
       ⟨fun _ _ _ hb h=>z0a h hb,z02,z02,z02,z02,z02,z02,z02,z02,z02,z02,trivial⟩ ?_ ?_ ?_
      ·refine z0p rfl HB0.out ?_;iterate 10 refine z0u rfl ?_
       exact trivial
      ·refine⟨?_,?_,?_,?_,?_,?_,?_,?_,?_,?_,trivial⟩
       ·intro vs w13 hA K hK;obtain⟨_,_⟩:=hA;refine z08 rfl (.inl rfl) rfl (hK _ _ (.inl zb) ?_);exact z01 1
       ·intro vs w13 hA K hK;obtain⟨_,_⟩:=hA;refine zld rfl rfl rfl (hK _ _ (.inl zb) ?_);exact z01 2
       ·intro vs w13 hA K hK;obtain⟨hC,e1,_⟩:=hA;refine z19 rfl rfl (rg1 e1) (z3c (x:=⟨xs,xo,xt,xb,W,M⟩) ((HB12.out.below hC).row (g:=gx) (o:=rexO ⟨xs,xo,xt,xb,W,M⟩) (by simp))).1.1 (hK _ _ (.inl zb) ?_);exact z01 3
       ·intro vs w13 hA K hK;obtain⟨_,_,e2,_⟩:=hA;refine z0v rfl rfl rfl (by kernel_rfl) (show [.int .i64 20,vs 2]=_ from by rw[rg1 e2]) (zm (HK20.out _) ?_);rintro e w2 ⟨rfl,hb⟩;refine⟨_,rfl,hK _ _ (.inl hb) ?_⟩;exact z01 4
       ·intro vs w13 hA K hK;obtain⟨_,_⟩:=hA;refine z08 rfl (.inl rfl) rfl (hK _ _ (.inl zb) ?_);exact z01 5
       ·intro vs w13 hA K hK;obtain⟨_,_⟩:=hA;refine zld rfl rfl rfl (hK _ _ (.inl zb) ?_);exact z01 6
       ·intro vs w13 hA K hK;obtain⟨hC,e5,_⟩:=hA;refine z19 rfl rfl (rg1 e5) (z3c (x:=⟨xs,xo,xt,xb,W,M⟩) ((HB12.out.below hC).row (g:=gx) (o:=rexO ⟨xs,xo,xt,xb,W,M⟩) (by simp))).1.1 (hK _ _ (.inl zb) ?_);exact z01 7
       ·intro vs w13 hA K hK;obtain⟨_,_,_,_,_,e6,_⟩:=hA;refine z0v rfl rfl rfl (by kernel_rfl) (show [.int .i64 20,vs 6]=_ from by rw[rg1 e6]) (zm (HK20.out _) ?_);rintro e w2 ⟨rfl,hb⟩;refine⟨_,rfl,hK _ _ (.inl hb) ?_⟩;exact z01 8
       ·intro vs w13 hA K hK;obtain⟨hC,_,_,_,e4,_,_,e7,_⟩:=hA;refine z0v rfl rfl rfl (by kernel_rfl) (show [vs 4,vs 7]=_ from by rw[rg1 e4,rg1 e7]) (zm (HIN.out _ _ (HB12.out.below hC)) ?_);rintro e w2 ⟨rfl,hb⟩;refine⟨_,rfl,hK _ _ (.inl hb) ?_⟩;exact z01 9
       ·intro vs w13 hA K hK;obtain⟨_,_,_,_,_,_,_,_,e8,_⟩:=hA;refine zti rfl rfl (rg1 e8) HWR.out (hK _ _ (.inl zb) ?_);exact z01 10
      ·intro vs w13 hA;obtain⟨hC,e0,e1,e2,e3,e4,e5,e6,e7,e8,e9,_⟩:=hA;have e0:=rg1 e0;have e1:=rg1 e1;have e2:=rg1 e2;have e3:=rg1 e3;have e4:=rg1 e4;have e5:=rg1 e5;have e6:=rg1 e6;have e7:=rg1 e7;have e8:=rg1 e8;have e9:=rg1 e9;refine z0i ?_;refine z0v rfl rfl rfl (by kernel_rfl) (show [vs 0,vs 3,vs 9]=_ from by rw[e0,e3,e9]) (zm (HSI.out _ _ (HB12.out.below hC)) ?_);rintro e w15 ⟨rfl,hB15⟩;refine⟨_,rfl,?_⟩;refine z0x ?_;simp only[z1h,Nat.reduceEqDiff,↓reduceIte,e0,e1,e2,e3,e4,e5,e6,e7,e8,e9];clear e0 e1 e2 e3 e4 e5 e6 e7 e8 e9 hC HK20 HIN HSI HB0 HB12;obtain⟨y0,y1,y2,y3,_⟩:=row4 (hB15.u4 (g:=ga) (x:=rW) (by simp));obtain⟨z0,z1,z2,z3,z4,z5,z6,z7⟩:=row4 (hB15.u4 (g:=w.heap.size+1) (x:=(0,0,0,0)) (by simp));have HZ:=zh (hB15.put4 (g:=w.heap.size+1) (y:=(0,0,0,0)) rW (by simp) [] (fun _ hx=>by cases hx));clear hB15;go_wp2_with fail
       try rw[Exit.noGoto_ret]
       refine bodyPost_ret (z00 rfl _ _ (w.heap.size+1) 24 (uL rW) (0,0) _ rfl (HZ.out.row (by simp)) Tryz.underlying24 rfl (by kernel_rfl)) rfl ?_;exact⟨rfl,FV.done HZ.out⟩
   ·obtain⟨rfl,rfl,hs0⟩:=HE.out.2 he0;rw[hs0]at HB9;have he1:(eS==0)=false:=by rw[beq_eq_false_iff_ne];exact he0
    obtain⟨z0,z1,z2,z3,z4,z5,z6,z7⟩:=row4 (HB9.out.u4 (g:=w.heap.size+1) (x:=(0,0,0,0)) (by simp));have HZ:=zh (HB9.out.put4 (g:=w.heap.size+1) (y:=(0,0,0,0)) (0,0,0,0) (by simp) [] (fun _ hx=>by cases hx));clear HB9 HE HKY HK20 HQ HIN HSI he0 hs0;go_wp2_with fail;refine bodyPost_ret (z00 rfl _ _ (w.heap.size+1) 24 (uL (0,0,0,0)) (0,0) _ rfl (HZ.out.row (by simp)) Tryz.underlying24 rfl (by kernel_rfl)) rfl ?_;exact⟨rfl,FV.done HZ.out⟩
end Go.Proofs.YtnkilceibkkjlaaGreat
