/- What is proved here: the reference's alloc.wait. Conditio -/
import Derived.Test.YtnkilceibkkjlaaGreatKRDu
import Derived.Test.YtnkilceibkkjlaaGreatKAlJ
set_option maxRecDepth 100000
set_option maxHeartbeats 16000000
namespace Go.Proofs.YtnkilceibkkjlaaGreat
open Go.RowKit
abbrev riO(x:I4):Obj:=.cells (idL x) 65
theorem FV.key{b:Nat}{w W:World}{L:List Nat}{s:St}{rs:List (Nat × Obj)}(hV:FV b w L s rs W)(t:Nat)(ht1:1<=t)(ht2:t<=255)(x:I4)(hx:x.Ok):Calls Tryz.prog 92 #[.int .i64 t,idV x] W fun e W'=>e= .returned (.string (aKey t x))/\FV b w L s rs W':=
 (z4b t ht1 ht2 x hx W).mono fun _ _ ⟨he,hb⟩=>⟨he,QV.below hV hb⟩
theorem FV.cur{b:Nat}{w W:World}{L:List Nat}{s:St}{rs:List (Nat × Obj)}{f:Nat}(hV:FV b w L s rs W)(hf:s.Fit f)(hm:f<10000000000)(x:I4)(hx:x.Ok):Calls Tryz.prog 28 #[.pointer (some ⟨b,0,none⟩),idV x] W fun e W'=>e= .returned (uV (cur s x))/\FV b w L s rs W':=
 hV.reads fun L' h1=>zhk W b L' s f x hx h1 hf hm
theorem FV.pend{b:Nat}{w W:World}{L:List Nat}{s:St}{rs:List (Nat × Obj)}{f:Nat}(hV:FV b w L s rs W)(hf:s.Fit f)(hm:f<10000000000)(x:I4)(hx:x.Ok):Calls Tryz.prog 32 #[.pointer (some ⟨b,0,none⟩),idV x] W fun e W'=>e= .returned (.tuple #[.int .i64 (pend s x).1,uV (pend s x).2.1,.int .i64 (pend s x).2.2])/\FV b w L s rs W':=
 hV.reads fun L' h1=>zhy W b L' s f x hx h1 hf hm
theorem zoy(w:World)(b:Nat)(L:List Nat)(s:St)(f way bl:Nat)(x:I4)(a:W4)(hx:∀ n∈x.l,0<=n/\n<9223372036854775808)(h:RRep w b s L)(hf:s.Fit f)(hm:f<100000000)(hw:way<10)(hbl:bl<=2199023255552)
  (hkey:∀ y∈(z0t s x way a bl).ents,y.1.size<1000000000000) (hN:z6k bl (dueE (keyL 26 []) (z0t s x way a bl))=dueN (z0t s x way a bl) bl) (h27:(z1z (z0t s x way a bl) bl x.l).int K27<1000000000000) :
  Calls Tryz.prog 195 #[.pointer (some ⟨b,0,none⟩),idV x,.int .i64 way,uV a,.int .i64 bl] w fun e w'=>e= .returned (.int .i64 (z3h bl))/\ROn w b L (z19 s x way a bl) w':=by
 have hxo:x.Ok:=fun n hn=>(hx n hn).2
 have hf1:(s.put (aKey 30 x) (rowB [(way:Int),(bl:Int)])).Fit (f+2):=hf.put _ (z15 _ (by simp));have hf2:(z0t s x way a bl).Fit (f+2+2):=hf1.z09 (aKey 31 x) a;have hz:s.size<1000000000000:=Nat.lt_of_le_of_lt hf.size (by omega);have hz1:(s.put (aKey 30 x) (rowB [(way:Int),(bl:Int)])).size<1000000000000:=Nat.lt_of_le_of_lt hf1.size (by omega);have hk30:aKey 30 x≠z05:=z5l 30 fun n hn=>(hx n hn).1
 have hB:=((FV.start h).alloc (riO x)).alloc (uO a);simp only[World.size_alloc]at hB;have HK30:Hid (∀ rs W,FV b w L s rs W->Calls Tryz.prog 92 #[.int .i64 30,idV x] W fun e W'=>e= .returned (.string (aKey 30 x))/\FV b w L s rs W'):=fun rs W hV=>hV.key 30 (by decide) (by decide) x hxo
 have HK31:Hid (∀ rs W,FV b w L (s.put (aKey 30 x) (rowB [(way:Int),(bl:Int)])) rs W->Calls Tryz.prog 92 #[.int .i64 31,idV x] W fun e W'=>e= .returned (.string (aKey 31 x))/\FV b w L (s.put (aKey 30 x) (rowB [(way:Int),(bl:Int)])) rs W'):=fun rs W hV=>hV.key 31 (by decide) (by decide) x hxo
 have HSR:Hid (∀ rs W,FV b w L s rs W->Calls Tryz.prog 187 #[.pointer (some ⟨b,0,none⟩),.string (aKey 30 x),.slice (some ⟨W.heap.size,0,none⟩) 2 2] (W.alloc (.cells #[.int .i64 way,.int .i64 bl] 3)) fun e W'=>e= .returned (.tuple #[])/\FV b w L (s.put (aKey 30 x) (rowB [(way:Int),(bl:Int)])) rs W'):=fun rs W hV=>by
  have h2:=FV.putRow (QV.alloc hV (.cells #[.int .i64 way,.int .i64 bl] 3)) hz (aKey 30 x) hk30 (.slice (some ⟨W.heap.size,0,none⟩) 2 2) [(way:Int),(bl:Int)] (z2u _ _ _ _ (heap_alloc_new W _)) (by simp) (by simp) (fun n hn=>by
   simp only[List.mem_cons,List.not_mem_nil,or_false]at hn
   rcases hn with rfl | rfl<;>omega)
  exact h2.mono fun e w' ⟨he,hv⟩=>⟨he,QV.less hv fun _ hx=>List.mem_cons_of_mem _ hx⟩
 have HSA:Hid (∀ rs W,FV b w L (s.put (aKey 30 x) (rowB [(way:Int),(bl:Int)])) rs W->Calls Tryz.prog 134 #[.pointer (some ⟨b,0,none⟩),.string (aKey 31 x),uV a] W fun e W'=>e= .returned (.tuple #[])/\FV b w L (z0t s x way a bl) rs W'):=fun rs W hV=>hV.cset hz1 _ a
 have HDA:Hid (∀ rs W,FV b w L (z0t s x way a bl) rs W->Calls Tryz.prog 231 #[.pointer (some ⟨b,0,none⟩),.int .i64 bl,.slice (some ⟨W.heap.size,0,none⟩) 4 4] (W.alloc (.cells (idL x) 3)) fun e W'=>e= .returned (.int .i64 (z3h bl))/\FV b w L (z19 s x way a bl) rs W'):=fun rs W hV=>by
  have hVa:=QV.alloc hV (.cells (idL x) 3);have hI:z0w (W.alloc (.cells (idL x) 3)) (.slice (some ⟨W.heap.size,0,none⟩) 4 4) x.l:=by
   obtain⟨c0,c1,c2,c3⟩:=z0g (heap_alloc_new W (.cells (idL x) 3));refine z3p (g:=W.heap.size) (l:=x.l) fun j z hj => ?_
   match j,hj with
   | 0,hj=>cases hj;exact c0
   | 1,hj=>cases hj;exact c1
   | 2,hj=>cases hj;exact c2
   | 3,hj=>cases hj;exact c3
  by_cases hbm:bl<=1099511627776
  ·have e1:z3h bl=0:=if_pos hbm;have e2:z19 s x way a bl=z4u (z0t s x way a bl) bl x.l:=if_pos hbm;rw[e1,e2];have hC:Calls Tryz.prog 231 #[.pointer (some ⟨b,0,none⟩),.int .i64 bl,.slice (some ⟨W.heap.size,0,none⟩) 4 4] (W.alloc (.cells (idL x) 3)) fun e W'=>e= .returned (.int .i64 0)/\FV b w L (z4u (z0t s x way a bl) bl x.l) ((W.heap.size,.cells (idL x) 3)::rs) W':=by
    obtain⟨L0,h0,h1,h2⟩:=hVa.on;refine(zvp _ b L0 (z0t s x way a bl) (f+2+2) bl hbm _ x.l hI (fun k hk => ?_) (by simp) (by simp) hx h0 hf2 (by omega) hkey hN h27).mono fun e w' ⟨he,hO⟩=>⟨he,?_⟩
    ·cases hk;exact h2 _ _ List.mem_cons_self
    ·obtain⟨L2,hR2,st⟩:=hO;refine⟨hVa.ok,⟨L2,hR2,h1.trans st,fun g o hm hk => ?_⟩,fun g o hm=>⟨hVa.le hm,(st.fr.block g (z02 (hVa.row hm)) (h2 g o hm)).trans (hVa.row hm)⟩⟩;rcases st.own g hk with h4 | h4
     ·exact h2 g o hm h4
     ·exact absurd (z02 (hVa.row hm)) (Nat.not_lt.2 h4)
   exact hC.mono fun e w' ⟨he,hv⟩=>⟨he,QV.less hv fun _ hx=>List.mem_cons_of_mem _ hx⟩
  ·have e1:z3h bl=2:=if_neg hbm;have e2:z19 s x way a bl=z0t s x way a bl:=if_neg hbm;rw[e1,e2];exact(zql _ _ bl (by omega) _).mono fun e w' ⟨he,hw'⟩=>⟨he,by subst hw';exact QV.less hVa fun _ hx=>List.mem_cons_of_mem _ hx⟩
 clear h hf hf1 hf2 hz hz1 hk30 hx hxo hkey hN h27;generalize z19 s x way a bl=s3 at *
 generalize z3h bl=we at *
 generalize z0t s x way a bl=s2 at *
 generalize s.put (aKey 30 x) (rowB [(way:Int),(bl:Int)])=s1 at *
 generalize aKey 30 x=k30 at *
 generalize aKey 31 x=k31 at *
 go_enter Tryz.func195,Tryz.ntmps195;go_upto_region 1 with fail;generalize (w.alloc (riO x)).alloc (uO a)=w1 at *
 obtain⟨i0,i1,i2,i3⟩:=z0g (hB.row (g:=w.heap.size) (o:=riO x) (by simp));have HB1:=zh hB;clear hB;go_wp2_with fail;refine zm (HK30.out _ _ HB1.out) ?_;rintro e w2 ⟨rfl,hB2⟩;have HSR2:=zh (HSR.out _ _ hB2);clear HK30 HSR hB2 HB1 i0 i1 i2 i3;go_wp2_with fail;refine zm HSR2.out ?_;rintro e w3 ⟨rfl,hB3⟩;have HB3:=zh (QV.drew hB3);obtain⟨j0,j1,j2,j3⟩:=z0g (hB3.row (g:=w.heap.size) (o:=riO x) (by simp));obtain⟨b0,b1,b2,b3,_⟩:=row4 (hB3.row (g:=w.heap.size+1) (o:=uO a) (by simp));clear HSR2 hB3;go_wp2_with fail
 go_region_held3 (fun w'=>w'.cell? ⟨w.heap.size,0,none⟩=some (.int .i64 x.1)/\w'.cell? ⟨w.heap.size,1,none⟩=some (.int .i64 x.2.1)/\w'.cell? ⟨w.heap.size,2,none⟩=some (.int .i64 x.2.2.1)/\w'.cell? ⟨w.heap.size,3,none⟩=some (.int .i64 x.2.2.2)/\w'.cell? ⟨w.heap.size+1,0,none⟩=some (.int .u64 a.1)/\w'.cell? ⟨w.heap.size+1,1,none⟩=some (.int .u64 a.2.1)/\w'.cell? ⟨w.heap.size+1,2,none⟩=some (.int .u64 a.2.2.1)/\w'.cell? ⟨w.heap.size+1,3,none⟩=some (.int .u64 a.2.2.2)) (first | assumption | go_keep)
  (first
   | (go_at_call 92;refine zm (HK31.out _ _ HB3.out) ?_;rintro e w4 ⟨rfl,hB4⟩;have HB4:=zh hB4;obtain⟨l0,l1,l2,l3⟩:=z0g (hB4.row (g:=w.heap.size) (o:=riO x) (by simp));obtain⟨d0,d1,d2,d3,_⟩:=row4 (hB4.row (g:=w.heap.size+1) (o:=uO a) (by simp));clear hB4)
   | (go_at_call 134;refine zm (HSA.out _ _ HB4.out) ?_;rintro e w5 ⟨rfl,hB5⟩;have HB5:=zh hB5;obtain⟨m0,m1,m2,m3⟩:=z0g (hB5.row (g:=w.heap.size) (o:=riO x) (by simp));obtain⟨e0,e1,e2,e3,_⟩:=row4 (hB5.row (g:=w.heap.size+1) (o:=uO a) (by simp));clear hB5))
 all_goals
  have HD5:=zh (HDA.out _ _ HB5.out);go_wp2_with fail;refine zm HD5.out ?_;rintro e w6 ⟨rfl,hB6⟩;have HR6:Hid (ROn w b L s3 w6):=FV.done hB6
  clear hB6 HD5;go_wp2_with fail;go_ret;exact⟨rfl,HR6.out⟩
abbrev rchO(a b:W4)(x y z:Int)(t:Bool):Obj:=.cells (chL a b x y z t) 120
theorem z1f{W:World}{g:Nat}{a b:W4}{x y z:Int}{t:Bool}(h:W.heap[g]?=some (rchO a b x y z t)):zn1 W g a b x y z t:=by
 constructor<;>(rw[cell_of_row _ _ _ _ _ _ h];rfl)
section
variable {ops:Array Oper} {o:Oper} {a:Act} {w:World} {K:Value->World->Prop} {x y:Operand} {g:Nat}
theorem z8s(hg:Region.wanted o (yielded ops a.tmps)=true)(ho:o.op= .fieldAddr 65 x 0)(hx:a.eval x= .pointer (some ⟨g,0,none⟩))(hk:K (.pointer (some ⟨g,0,none⟩)) w):rgDo Tryz.prog ops o a w K:=by
 refine z0n hg ?_ hk;unfold execOp;simp only[ho,hx]
 go_simp
theorem z8n(hg:Region.wanted o (yielded ops a.tmps)=true)(ho:o.op= .fieldAddr 65 x 1)(hx:a.eval x= .pointer (some ⟨g,0,none⟩))(hk:K (.pointer (some ⟨g,1,none⟩)) w):rgDo Tryz.prog ops o a w K:=by
 refine z0n hg ?_ hk;unfold execOp;simp only[ho,hx]
 go_simp
theorem zo4(hg:Region.wanted o (yielded ops a.tmps)=true)(ho:o.op= .fieldAddr 120 x 0)(hx:a.eval x= .pointer (some ⟨g,0,none⟩))(hk:K (.pointer (some ⟨g,0,none⟩)) w):rgDo Tryz.prog ops o a w K:=by
 refine z0n hg ?_ hk;unfold execOp;simp only[ho,hx]
 go_simp
theorem zl5(hg:Region.wanted o (yielded ops a.tmps)=true)(ho:o.op= .fieldAddr 120 x 2)(hx:a.eval x= .pointer (some ⟨g,0,none⟩))(hk:K (.pointer (some ⟨g,8,none⟩)) w):rgDo Tryz.prog ops o a w K:=by
 refine z0n hg ?_ hk;unfold execOp;simp only[ho,hx]
 go_simp
theorem zuu(hg:Region.wanted o (yielded ops a.tmps)=true)(ho:o.op= .fieldAddr 120 x 3)(hx:a.eval x= .pointer (some ⟨g,0,none⟩))(hk:K (.pointer (some ⟨g,9,none⟩)) w):rgDo Tryz.prog ops o a w K:=by
 refine z0n hg ?_ hk;unfold execOp;simp only[ho,hx]
 go_simp
theorem zul(hg:Region.wanted o (yielded ops a.tmps)=true)(ho:o.op= .fieldAddr 120 x 4)(hx:a.eval x= .pointer (some ⟨g,0,none⟩))(hk:K (.pointer (some ⟨g,10,none⟩)) w):rgDo Tryz.prog ops o a w K:=by
 refine z0n hg ?_ hk;unfold execOp;simp only[ho,hx]
 go_simp
theorem zfa(hg:Region.wanted o (yielded ops a.tmps)=true){m n k:Int}(ho:o.op= .binOp .add 3 x y 3)(hx:a.eval x= .int .i64 m)(hy:a.eval y= .int .i64 n)(hw:wrap64 (m+n)=k)(hk:K (.int .i64 k) w):rgDo Tryz.prog ops o a w K:=by
 subst hw;refine z0n hg ?_ hk;clear hg hk;generalize a.eval=ev at hx hy ⊢;unfold execOp;simp only[ho,hx,hy]
 go_simp
 exact IntWalk.i64_left _
theorem z3g{r:I4}(hg:Region.wanted o (yielded ops a.tmps)=true)(ho:o.op= .load 65 x)(hx:a.eval x= .pointer (some ⟨g,0,none⟩))(hr:w.heap[g]?=some (riO r))(hk:K (idV r) w):rgDo Tryz.prog ops o a w K:=
 zgj _ hg ho hx hr Tryz.underlying65 rfl (by show _=some 4;kernel_rfl) hk
theorem zcc{tt mx:W4}{bk dl tl:Int}{sl:Bool}(hg:Region.wanted o (yielded ops a.tmps)=true)(ho:o.op= .load 24 x)(hx:a.eval x= .pointer (some ⟨g,0,none⟩))(hr:w.heap[g]?=some (rchO tt mx bk dl tl sl))(hk:K (uV tt) w):rgDo Tryz.prog ops o a w K:=
 zle hg ho hx ⟨(z1f hr).a0,(z1f hr).a1,(z1f hr).a2,(z1f hr).a3⟩ hk
end
def FSq(b:Nat)(w:World)(L:List Nat)(s s2:St)(rs:List (Nat × Obj)):Nat->World->Prop
 | 0,W=>FV b w L s rs W
 | _+1,W=>FV b w L s2 rs W
theorem FSq.row{b:Nat}{w W:World}{L:List Nat}{s s2:St}{rs:List (Nat × Obj)}{p:Nat}(hP:FSq b w L s s2 rs p W){g:Nat}{o:Obj}(hm:(g,o)∈rs):W.heap[g]?=some o:=by
 match p,hP with
 | 0,hP=>exact QV.row hP hm
 | _+1,hP=>exact QV.row hP hm
theorem FSq.below{b:Nat}{w W W':World}{L:List Nat}{s s2:St}{rs:List (Nat × Obj)}{p:Nat}(hP:FSq b w L s s2 rs p W)(hb:Below W.heap.size W W'):FSq b w L s s2 rs p W':=by
 match p,hP with
 | 0,hP=>exact QV.below (rs:=rs) hP hb
 | _+1,hP=>exact QV.below (rs:=rs) hP hb
theorem zvx(w:World)(b:Nat)(L:List Nat)(s:St)(f bk dl:Nat)(tl:Int)(x:I4)(tt mx y:W4)(sl:Bool)(hx:∀ n∈x.l,0<=n/\n<9223372036854775808)(hmx:mx.Ok)(hyo:y.Ok)(hq:RRep w b s L)(hf:s.Fit f)(hm:f<10000000)(hbk:bk<=1099511627776)(hdl:dl<=1099511627776)
  (hkey:∀ z∈(z0t (grS1 s x y) x 1 y (bk+dl)).ents,z.1.size<1000000000000) (hN:z6k ((bk+dl:Nat):Int) (dueE (keyL 26 []) (z0t (grS1 s x y) x 1 y (bk+dl)))=dueN (z0t (grS1 s x y) x 1 y (bk+dl)) (bk+dl)) (h27:(z1z (z0t (grS1 s x y) x 1 y (bk+dl)) (bk+dl) x.l).int K27<1000000000000) :
  Calls Tryz.prog 131 #[.pointer (some ⟨b,0,none⟩),idV x,chV tt mx bk dl tl sl,uV y] w fun e w'=>e= .returned (.tuple #[.int .i64 (grN s x mx y bk dl),.int .i64 (grE s x mx y bk dl)])/\ROn w b L (grSt s x tt mx y bk dl) w':=by
 have hxo:x.Ok:=fun n hn=>(hx n hn).2
 have hB:=(((FV.start hq).alloc (riO x)).alloc (rchO tt mx bk dl tl sl)).alloc (uO y);simp only[World.size_alloc]at hB;have hf1:(grS1 s x y).Fit (f+2):=hf.z09 _ _;have hz:s.size<1000000000000:=Nat.lt_of_le_of_lt hf.size (by omega);have hz1:(grS1 s x y).size<1000000000000:=Nat.lt_of_le_of_lt hf1.size (by omega);have HEN:Hid (∀ rs W,FV b w L s rs W->Calls Tryz.prog 29 #[.pointer (some ⟨b,0,none⟩),.int .i64 x.1,.int .i64 x.2.1] W fun e w'=>e= .returned (uV (s.amt (aAll x)))/\Below W.heap.size W w'):=fun rs W hV=>by
  obtain⟨L',h1,_⟩:=hV.on;exact z4d W b L' s f x.1 x.2.1 (hxo _ (by simp)) (hxo _ (by simp)) h1 hf (by omega)
 have HOF:Hid (∀ W,Calls Tryz.prog 93 #[.int .i64 x.1,.int .i64 x.2.1] W fun e w'=>e= .returned (.string (aAll x))/\Below W.heap.size W w'):=fun W=>z9b x.1 x.2.1 (hxo _ (by simp)) (hxo _ (by simp)) W
 have HAD:Hid (∀ W,Calls Tryz.prog 21 #[uV (s.amt (aAll x)),uV y] W fun e w'=>e= .returned (.tuple #[uV (grA s x y),.bool (sumB (s.amt (aAll x)) y)])/\Below W.heap.size W w'):=fun W=>zl6 _ _ (zb1 _ _) hyo W
 have HCM:Hid (∀ rs W,FV b w L s rs W->Calls Tryz.prog 10 #[uV (grA s x y),uV mx] W fun e w'=>e= .returned (.int .i64 (uCmp (grA s x y) mx))/\FV b w L s rs w'):=fun rs W hV=>(zuo _ mx (zhp _) hmx W).mono fun e w' ⟨he,hb⟩=>⟨he,hV.below hb⟩
 have HSA:Hid (∀ rs W,FV b w L s rs W->Calls Tryz.prog 134 #[.pointer (some ⟨b,0,none⟩),.string (aAll x),uV (grA s x y)] W fun e w'=>e= .returned (.tuple #[])/\FV b w L (grS1 s x y) rs w'):=fun rs W hV=>hV.cset hz (aAll x) (grA s x y)
 have HK29:Hid (∀ W,Calls Tryz.prog 92 #[.int .i64 29,idV x] W fun e w'=>e= .returned (.string (aKey 29 x))/\Below W.heap.size W w'):=fun W=>z4b 29 (by decide) (by decide) x hxo W
 have HS29:Hid (∀ rs W,FV b w L (grS1 s x y) rs W->Calls Tryz.prog 134 #[.pointer (some ⟨b,0,none⟩),.string (aKey 29 x),uV tt] W fun e w'=>e= .returned (.tuple #[])/\FV b w L ((grS1 s x y).z09 (aKey 29 x) tt) rs w'):=fun rs W hV=>hV.cset hz1 (aKey 29 x) tt
 have HWT:Hid (∀ rs W,FV b w L (grS1 s x y) rs W->Calls Tryz.prog 195 #[.pointer (some ⟨b,0,none⟩),idV x,.int .i64 1,uV y,.int .i64 ((bk+dl:Nat):Int)] W fun e w'=>e= .returned (.int .i64 (z3h (bk+dl)))/\FV b w L (z19 (grS1 s x y) x 1 y (bk+dl)) rs w'):=fun rs W hV =>
  QV.call hV fun L' h1=>zoy W b L' (grS1 s x y) (f+2) 1 (bk+dl) x y hx h1 hf1 (by omega) (by decide) (by omega) hkey hN h27
 have hlaw:(z7e s x mx y=true->grN s x mx y bk dl=0/\grE s x mx y bk dl=13/\grSt s x tt mx y bk dl=s)/\(z7e s x mx y=false->dl=0->grN s x mx y bk dl=0/\grE s x mx y bk dl=0/\grSt s x tt mx y bk dl=(grS1 s x y).z09 (aKey 29 x) tt)/\(z7e s x mx y=false->dl≠0->((grN s x mx y bk dl:Nat):Int)=((bk+dl:Nat):Int)/\grE s x mx y bk dl=z3h (bk+dl)/\grSt s x tt mx y bk dl=z19 (grS1 s x y) x 1 y (bk+dl)):=by
  unfold grN grE grSt;refine⟨fun hb => ?_,fun hb h0 => ?_,fun hb h0 => ?_⟩
  ·rw[if_pos hb,if_pos hb,if_pos hb];exact⟨rfl,rfl,rfl⟩
  ·simp[hb,h0]
  ·simp[hb,h0]
 have HLAW:=zh hlaw;have HBAD:Hid (z7e s x mx y=(!sumB (s.amt (aAll x)) y||decide (0<uCmp (grA s x y) mx))):=rfl;have hsum:wrap64 ((bk:Int)+(dl:Int))=((bk+dl:Nat):Int):=by unfold wrap64;omega
 have HSUM:=zh hsum;have HB:=zh hB;have hdn:∀ h0:dl≠0,(((dl:Nat):Int)==0)=false:=fun h0=>beq_eq_false_iff_ne.2 (by omega)
 have HDN:=zh hdn;clear hlaw hB hf1 hz hz1 hq hf hx hxo hmx hyo hm hbk hdl hkey hN h27 hdn hsum;generalize grN s x mx y bk dl=rN at *
 generalize grE s x mx y bk dl=rE at *
 generalize grSt s x tt mx y bk dl=rS at *
 generalize z19 (grS1 s x y) x 1 y (bk+dl)=sW at *
 generalize z3h (bk+dl)=we at *
 generalize ((bk+dl:Nat):Int)=bd at *
 generalize (grS1 s x y).z09 (aKey 29 x) tt=s29 at *
 generalize grS1 s x y=s1 at *
 generalize z7e s x mx y=bad at *
 generalize uCmp (grA s x y) mx=rc at *
 generalize sumB (s.amt (aAll x)) y=sb at *
 generalize grA s x y=sm at *
 generalize s.amt (aAll x)=eA at *
 generalize aAll x=kA at *
 generalize aKey 29 x=k29 at *
 go_enter Tryz.func131,Tryz.ntmps131;go_upto_region 1 with fail;generalize ((w.alloc (riO x)).alloc (rchO tt mx bk dl tl sl)).alloc (uO y)=wA at *
 obtain⟨g,hg⟩:∃ g,g=w.heap.size:=⟨_,rfl⟩;rw[<- hg]at HB ⊢;clear hg;have HB0:=zh (z0h (Below.refl wA.heap.size wA));refine z1g [[],[],[1],[],[3],[0,1,2,3,4],[],[0,1,2,3,4,5,6],[0,1,2,3,4,5,6,7],[0,1,2,3,4,5,6,7,8],[0,1,2,3,4,5,6,7,8],[],[0,1,2,3,4,5,6,7,8,9,11],[0,1,2,3,4,5,6,7,8,9,10,11,12]]
  [rgC (Below wA.heap.size wA),rgV 0 (.pointer (some ⟨b,0,none⟩)),rgV 1 (.pointer (some ⟨g,0,none⟩)),rgV 2 (.int .i64 x.1),rgV 3 (.pointer (some ⟨g,1,none⟩)),rgV 4 (.int .i64 x.2.1),rgV 5 (uV eA),rgV 6 (uV y),rgV 7 (.tuple #[uV sm,.bool sb]),rgV 8 (.tuple #[uV sm,.bool sb]),rgV 9 (uV sm),rgV 10 (.bool sb),rgP 11 (wA.heap.size),rgV 13 (.bool sb),rgS 11 12 (sm)] _ (by kernel_rfl) (by kernel_rfl) (by kernel_rfl)
  (fun vs=>by simp only[z14,z1a,List.setIfInBounds_toArray,List.set_cons_zero,List.set_cons_succ];exact rfl)
  ⟨fun _ _ _ hb h=>z0b h hb,z0e,z0e,z0e,z0e,z0e,z0e,z0e,z0e,z0e,z0e,z0e,zay,z0e,zb4,trivial⟩ ?_ ?_ ?_
 ·refine z3k rfl HB0.out ?_;iterate 14 refine z4l rfl ?_
  exact trivial
 ·refine⟨?_,?_,?_,?_,?_,?_,?_,?_,?_,?_,?_,?_,?_,?_,trivial⟩
  ·intro vs w2 hA K hK;obtain⟨_,_⟩:=hA;refine z0a rfl (.inl rfl) rfl (hK _ _ (.inl zb) ?_);exact z07 1
  ·intro vs w2 hA K hK;obtain⟨_,_⟩:=hA;refine z8s rfl rfl rfl (hK _ _ (.inl zb) ?_);exact z07 2
  ·intro vs w2 hA K hK;obtain⟨hC,e1,_⟩:=hA;refine z0u rfl rfl (rg1 e1) (z0g ((HB.out.below hC).row (g:=g) (o:=riO x) (by simp))).1 (hK _ _ (.inl zb) ?_);exact z07 3
  ·intro vs w2 hA K hK;obtain⟨_,_⟩:=hA;refine z8n rfl rfl rfl (hK _ _ (.inl zb) ?_);exact z07 4
  ·intro vs w2 hA K hK;obtain⟨hC,e3,_⟩:=hA;refine z0u rfl rfl (rg1 e3) (z0g ((HB.out.below hC).row (g:=g) (o:=riO x) (by simp))).2.1 (hK _ _ (.inl zb) ?_);exact z07 5
  ·intro vs w2 hA K hK;obtain⟨hC,e0,_,e2,_,e4,_⟩:=hA;refine z4w rfl rfl rfl (by kernel_rfl) (show [vs 0,vs 2,vs 4]=_ from by rw[rg1 e0,rg1 e2,rg1 e4]) (zm (HEN.out _ _ (HB.out.below hC)) ?_);rintro e w2 ⟨rfl,hb⟩;refine⟨_,rfl,hK _ _ (.inl hb) ?_⟩;exact z07 6
  ·intro vs w2 hA K hK;obtain⟨hC,_⟩:=hA;refine z0p rfl rfl rfl ((HB.out.below hC).u4 (g:=g+1+1) (x:=y) (by simp)) (hK _ _ (.inl zb) ?_);exact z07 7
  ·intro vs w2 hA K hK;obtain⟨_,_,_,_,_,_,e5,e6,_⟩:=hA;refine z4w rfl rfl rfl (by kernel_rfl) (show [vs 5,vs 6]=_ from by rw[rg1 e5,rg1 e6]) (zm (HAD.out _) ?_);rintro e w2 ⟨rfl,hb⟩;refine⟨_,rfl,hK _ _ (.inl hb) ?_⟩;exact z07 8
  ·intro vs w2 hA K hK;obtain⟨_,_,_,_,_,_,_,_,e7,_⟩:=hA;refine z0a rfl (.inl rfl) (rg1 e7) (hK _ _ (.inl zb) ?_);exact z07 9
  ·intro vs w2 hA K hK;obtain⟨_,_,_,_,_,_,_,_,_,e8,_⟩:=hA;refine z0x rfl rfl (rg1 e8) rfl (hK _ _ (.inl zb) ?_);exact z07 10
  ·intro vs w2 hA K hK;obtain⟨_,_,_,_,_,_,_,_,_,e8,_⟩:=hA;refine z0x rfl rfl (rg1 e8) rfl (hK _ _ (.inl zb) ?_);exact z07 11
  ·intro vs w2 hA K hK;obtain⟨hC,_⟩:=hA;refine z4n rfl rfl (hK _ _ (.inl (z00 zb _)) ?_);iterate 12 refine z0v rfl ?_
   refine z18 rfl (fun _=>⟨_,_,rfl,hC.size,heap_alloc_new _ _⟩) ?_;iterate 2 refine z0v rfl ?_
   exact trivial
  ·intro vs w2 hA K hK;obtain⟨hC,_,_,_,_,_,_,_,_,_,e9,⟨_,_,e11,h11,g11⟩,_⟩:=hA;refine z2v rfl rfl (rg1 e11) (rg1 e9) g11 (hK _ _ (.inr ?_) ?_)
   ·refine z0k rfl (fun hC _=>bput hC h11) ?_;iterate 11 refine z0k rfl (fun h _=>h) ?_
    refine z0k rfl (fun h _=>z5y h) ?_;iterate 2 refine z2y rfl ?_
    exact trivial
   ·iterate 14 refine z0v rfl ?_
    refine z18 rfl (fun _=>⟨_,_,by show [vs 11,undef]=_;rw[rg1 e11],setRow_heap _ _ _ _ _ _ g11⟩) ?_;exact trivial
  ·intro vs w2 hA K hK;obtain⟨_,_,_,_,_,_,_,_,_,_,_,e10,_,_,_⟩:=hA;refine z0a rfl (.inr rfl) (rg1 e10) (hK _ _ (.inl zb) ?_);exact z07 13
 ·intro vs w2 hA;obtain⟨hC,e0,e1,e2,e3,e4,e5,e6,e7,e8,e9,e10,⟨p11,_,e11,h11,g11⟩,e13,s12,_⟩:=hA;have e0:=rg1 e0;have e1:=rg1 e1;have e2:=rg1 e2;have e3:=rg1 e3;have e4:=rg1 e4;have e5:=rg1 e5;have e6:=rg1 e6;have e7:=rg1 e7;have e8:=rg1 e8;have e9:=rg1 e9;have e10:=rg1 e10;have e11:=rg1 e11;have e13:=rg1 e13;have s12:=zb6 s12 e11;simp only[e0,e1,e2,e3,e4,e5,e6,e7,e8,e9,e10,e11,e13];have HB2:=zh (HB.out.add1 hC h11 s12);clear e0 e1 e2 e3 e4 e5 e6 e7 e8 e9 e10 e13 g11 s12 h11 hC HEN HAD HB0 HB;cases sb with
  | false =>
   have hL:=HLAW.out.1 (by rw[HBAD.out];rfl);have HL:=zh hL;clear hL HLAW HBAD HCM HSA HK29 HS29 HWT HOF;go_wp2_with fail;exact bodyPost_ret_by (results_tmp2 rfl _ _ _) rfl ⟨by rw[HL.out.1,HL.out.2.1];rfl,by rw[HL.out.2.2];exact FV.done HB2.out⟩
  | true =>
   obtain⟨m0,m1,m2,m3,_⟩:=row4 (HB2.out.u4 (g:=p11) (x:=sm) (by simp));obtain⟨a0,a1,a2,a3,b0,b1,b2,b3,x8,y9,za,tb⟩:=z1f (HB2.out.row (g:=g+1) (o:=rchO tt mx bk dl tl sl) (by simp));go_wp2_with fail;refine zm (HCM.out _ _ HB2.out) ?_;rintro e w3 ⟨rfl,hB3⟩;clear m0 m1 m2 m3 a0 a1 a2 a3 b0 b1 b2 b3 x8 y9 za tb HCM HB2
   by_cases hrc:0<rc
   ·have hgt:decide ((0:Int)<rc)=true:=decide_eq_true hrc;have HL:=zh (HLAW.out.1 (by rw[HBAD.out,hgt];rfl));have HB3:=zh hB3;clear HLAW HBAD hB3;go_wp2_with fail;exact bodyPost_ret_by (results_tmp2 rfl _ _ _) rfl ⟨by rw[HL.out.1,HL.out.2.1];rfl,by rw[HL.out.2.2];exact FV.done HB3.out⟩
   ·have hgt:decide ((0:Int)<rc)=false:=decide_eq_false hrc;have HL:=zh (HLAW.out.2 |>.imp (fun k=>k (by rw[HBAD.out,hgt];rfl)) (fun k=>k (by rw[HBAD.out,hgt];rfl)));have HB3:=zh hB3;clear HLAW HBAD hB3;go_upto_region 4 with fail;have HP0:Hid (FSq b w L s s1 [(p11,uO sm),(g+1+1,uO y),(g+1,rchO tt mx bk dl tl sl),(g,riO x)] 0 w3.drew):=HB3.out.drew;clear HB3;refine z06 [[],[],[1],[],[3],[2,4],[],[0,5,6]]
     [.pointer (some ⟨b,0,none⟩),.pointer (some ⟨g,0,none⟩),.int .i64 x.1,.pointer (some ⟨g,1,none⟩),.int .i64 x.2.1,.string kA,uV sm,.tuple #[]]
     [7] (FSq b w L s s1 [(p11,uO sm),(g+1+1,uO y),(g+1,rchO tt mx bk dl tl sl),(g,riO x)]) _ (by kernel_rfl) (by kernel_rfl) (by kernel_rfl)
     (fun vs=>by simp only[z14,z1a,List.setIfInBounds_toArray,List.set_cons_zero,List.set_cons_succ];exact rfl)
     (by simp only[List.getD_cons_zero,List.getD_cons_succ];exact rfl) HP0.out ?_ ?_
    ·exact⟨
     fun _ _ _ _ hP _=>z0a rfl (.inl rfl) rfl ⟨rfl,hP⟩,
     fun _ _ _ _ hP _=>z8s rfl rfl rfl ⟨rfl,hP⟩,
     fun _ _ _ hA hP _=>z0u rfl rfl hA.1 (z0g (FSq.row (g:=g) (o:=riO x) hP (by simp))).1 ⟨rfl,hP⟩,
     fun _ _ _ _ hP _=>z8n rfl rfl rfl ⟨rfl,hP⟩,
     fun _ _ _ hA hP _=>z0u rfl rfl hA.1 (z0g (FSq.row (g:=g) (o:=riO x) hP (by simp))).2.1 ⟨rfl,hP⟩,
     fun _ _ w1 hA hP _=>z0m rfl rfl rfl (by kernel_rfl) (rgL2 hA.1 hA.2.1) ((HOF.out w1).mono fun _ _ hh=>And.intro hh.1 (FSq.below hP hh.2)) fun _ hP2=>⟨rfl,hP2⟩,
     fun _ _ _ _ hP _=>z0p rfl rfl rfl (FSq.row (g:=p11) (o:=uO sm) hP (by simp)) ⟨rfl,hP⟩,
     fun _ _ _ hA hP hq=>by cases hq 0 rfl;exact z0m rfl rfl rfl (by kernel_rfl) (rgL3 hA.1 hA.2.1 hA.2.2.1) (HSA.out _ _ hP) fun _ hP2=>⟨rfl,hP2⟩,
     trivial⟩
    ·intro W4 hW4;have hV4:FV b w L s1 [(p11,uO sm),(g+1+1,uO y),(g+1,rchO tt mx bk dl tl sl),(g,riO x)] W4:=hW4;obtain⟨a0,a1,a2,a3,b0,b1,b2,b3,x8,y9,za,tb⟩:=z1f (hV4.row (g:=g+1) (o:=rchO tt mx bk dl tl sl) (by simp));have HV4:=zh hV4;clear hW4 hV4 HP0 HSA HOF b0 b1 b2 b3 za tb
     by_cases h0:dl=0
     ·have hd0:(((dl:Nat):Int)==0)=true:=by rw[h0];rfl
      have HLL:=zh (HL.out.1 h0);clear HL h0 HDN HSUM HWT;go_upto_region 6 with fail;have HP1:Hid (FSq b w L s1 s29 [(p11,uO sm),(g+1+1,uO y),(g+1,rchO tt mx bk dl tl sl),(g,riO x)] 0 W4.drew):=HV4.out.drew;clear HV4 a0 a1 a2 a3 x8 y9;refine z06 [[],[],[1],[],[3],[0,2,4]]
       [.pointer (some ⟨b,0,none⟩),idV x,.string k29,.pointer (some ⟨g+1,0,none⟩),uV tt,.tuple #[]]
       [5] (FSq b w L s1 s29 [(p11,uO sm),(g+1+1,uO y),(g+1,rchO tt mx bk dl tl sl),(g,riO x)]) _ (by kernel_rfl) (by kernel_rfl) (by kernel_rfl)
       (fun vs=>by simp only[z14,z1a,List.setIfInBounds_toArray,List.set_cons_zero,List.set_cons_succ];exact rfl)
       (by simp only[List.getD_cons_zero,List.getD_cons_succ];exact rfl) HP1.out ?_ ?_
      ·exact⟨
       fun _ _ _ _ hP _=>z0a rfl (.inl rfl) rfl ⟨rfl,hP⟩,
       fun _ _ _ _ hP _=>z3g rfl rfl rfl (FSq.row (g:=g) (o:=riO x) hP (by simp)) ⟨rfl,hP⟩,
       fun _ _ w1 hA hP _=>z0m rfl rfl rfl (by kernel_rfl) (rgL2 rfl hA.1) ((HK29.out w1).mono fun _ _ hh=>And.intro hh.1 (FSq.below hP hh.2)) fun _ hP2=>⟨rfl,hP2⟩,
       fun _ _ _ _ hP _=>zo4 rfl rfl rfl ⟨rfl,hP⟩,
       fun _ _ _ hA hP _=>zcc rfl rfl hA.1 (FSq.row (g:=g+1) (o:=rchO tt mx bk dl tl sl) hP (by simp)) ⟨rfl,hP⟩,
       fun _ _ _ hA hP hq=>by cases hq 0 rfl;exact z0m rfl rfl rfl (by kernel_rfl) (rgL3 hA.1 hA.2.1 hA.2.2.1) (HS29.out _ _ hP) fun _ hP2=>⟨rfl,hP2⟩,
       trivial⟩
      ·intro W5 hW5;have HR:Hid (ROn w b L s29 W5):=FV.done (rs:=[(p11,uO sm),(g+1+1,uO y),(g+1,rchO tt mx bk dl tl sl),(g,riO x)]) hW5
       clear hW5 HP1 HK29 HS29;go_wp2_with fail;exact bodyPost_ret_by (results_tmp2 rfl _ _ _) rfl ⟨by rw[HLL.out.1,HLL.out.2.1];rfl,by rw[HLL.out.2.2];exact HR.out⟩
     ·have hd0:=HDN.out h0;have HLL:=zh (HL.out.2 h0);clear HL h0 HDN HK29 HS29;go_upto_region 8 with fail;have HP1:Hid (FSq b w L s1 sW [(p11,uO sm),(g+1+1,uO y),(g+1,rchO tt mx bk dl tl sl),(g,riO x)] 0 W4.drew):=HV4.out.drew;clear HV4 a0 a1 a2 a3 x8 y9;refine z06 [[],[0],[],[2],[1,3],[],[],[],[],[8],[],[10],[9,11],[5,6,7,12],[4],[13]]
       [.pointer (some ⟨g+1,8,none⟩),.int .i64 (bk:Int),.pointer (some ⟨g+1,9,none⟩),.int .i64 (dl:Int),.int .i64 bd,.pointer (some ⟨b,0,none⟩),idV x,uV y,.pointer (some ⟨g+1,8,none⟩),.int .i64 (bk:Int),.pointer (some ⟨g+1,9,none⟩),.int .i64 (dl:Int),.int .i64 bd,.int .i64 we,.int .i64 bd,.int .i64 we]
       [13] (FSq b w L s1 sW [(p11,uO sm),(g+1+1,uO y),(g+1,rchO tt mx bk dl tl sl),(g,riO x)]) _ (by kernel_rfl) (by kernel_rfl) (by kernel_rfl)
       (fun vs=>by simp only[z14,z1a,List.setIfInBounds_toArray,List.set_cons_zero,List.set_cons_succ];exact rfl)
       (by simp only[List.getD_cons_zero,List.getD_cons_succ];exact rfl) HP1.out ?_ ?_
      ·exact⟨
       fun _ _ _ _ hP _=>zl5 rfl rfl rfl ⟨rfl,hP⟩,
       fun _ _ _ hA hP _=>z0u rfl rfl hA.1 (z1f (FSq.row (g:=g+1) (o:=rchO tt mx bk dl tl sl) hP (by simp))).x8 ⟨rfl,hP⟩,
       fun _ _ _ _ hP _=>zuu rfl rfl rfl ⟨rfl,hP⟩,
       fun _ _ _ hA hP _=>z0u rfl rfl hA.1 (z1f (FSq.row (g:=g+1) (o:=rchO tt mx bk dl tl sl) hP (by simp))).y9 ⟨rfl,hP⟩,
       fun _ _ _ hA hP _=>zfa rfl rfl hA.1 hA.2.1 HSUM.out ⟨rfl,hP⟩,
       fun _ _ _ _ hP _=>z0a rfl (.inl rfl) rfl ⟨rfl,hP⟩,
       fun _ _ _ _ hP _=>z3g rfl rfl rfl (FSq.row (g:=g) (o:=riO x) hP (by simp)) ⟨rfl,hP⟩,
       fun _ _ _ _ hP _=>z0p rfl rfl rfl (FSq.row (g:=g+1+1) (o:=uO y) hP (by simp)) ⟨rfl,hP⟩,
       fun _ _ _ _ hP _=>zl5 rfl rfl rfl ⟨rfl,hP⟩,
       fun _ _ _ hA hP _=>z0u rfl rfl hA.1 (z1f (FSq.row (g:=g+1) (o:=rchO tt mx bk dl tl sl) hP (by simp))).x8 ⟨rfl,hP⟩,
       fun _ _ _ _ hP _=>zuu rfl rfl rfl ⟨rfl,hP⟩,
       fun _ _ _ hA hP _=>z0u rfl rfl hA.1 (z1f (FSq.row (g:=g+1) (o:=rchO tt mx bk dl tl sl) hP (by simp))).y9 ⟨rfl,hP⟩,
       fun _ _ _ hA hP _=>zfa rfl rfl hA.1 hA.2.1 HSUM.out ⟨rfl,hP⟩,
       fun _ _ _ hA hP hq=>by cases hq 0 rfl;exact z0m rfl rfl rfl (by kernel_rfl) (rgL5 hA.1 hA.2.1 rfl hA.2.2.1 hA.2.2.2.1) (HWT.out _ _ hP) fun _ hP2=>⟨rfl,hP2⟩,
       fun _ _ _ hA hP _=>z0a rfl (.inr rfl) hA.1 ⟨rfl,hP⟩,
       fun _ _ _ hA hP _=>z0a rfl (.inr rfl) hA.1 ⟨rfl,hP⟩,
       trivial⟩
      ·intro W5 hW5;have HR:Hid (ROn w b L sW W5):=FV.done (rs:=[(p11,uO sm),(g+1+1,uO y),(g+1,rchO tt mx bk dl tl sl),(g,riO x)]) hW5
       clear hW5 HP1 HWT;go_wp2_with fail;exact bodyPost_ret_by (results_tmp2 rfl _ _ _) rfl ⟨by rw[HLL.out.1,HLL.out.2.1];rfl,by rw[HLL.out.2.2];exact HR.out⟩
end Go.Proofs.YtnkilceibkkjlaaGreat
