/- What is proved here: exits of the program: Slashable. Conditions: sizes, ints below 2^63. the referen -/
import Derived.Test.YtnkilceibkkjlaaGreatGExC
import Derived.Test.YtnkilceibkkjlaaGreatGExHat
import Derived.Test.YtnkilceibkkjlaaGreatGRHistP
import Derived.Test.YtnkilceibkkjlaaGreatGRExG
set_option maxRecDepth 100000
set_option maxHeartbeats 16000000
namespace Go.Proofs.YtnkilceibkkjlaaGreat
open Go.RowKit
def St.slash(s:St)(o t b d:Int):W4:=if d<0\/b<=d then s.hlast 16 [o,t]else gapW (s.hlast 16 [o,t]) (s.hat 16 [o,t] (b-d-1))
theorem zry(s:St)(o t b d:Int):(s.slash o t b d).Ok:=by
 unfold St.slash;split
 ·exact z9o _ _ _
 ·exact zjs _ _
theorem zni(w:World)(h:Hand)(s:St)(f:Nat)(o t b d:Int)(ho:I63 o)(ht:I63 t)(hd0:d<0)(hq:QSt w h s)(hf:s.Fit f)(hm:f<100000000000) :
  Calls Tryz.prog 46 #[.pointer h.ptr,.int .i64 o,.int .i64 t,.int .i64 b,.int .i64 d] w fun e w'=>e= .returned (uV (s.hlast 16 [o,t]))/\Below w.heap.size w w':=by
 have hB:=(BV.start w).alloc zO
 have hl:IdOk [o,t]:=⟨by simp,fun y hy=>by
  rcases List.mem_cons.1 hy with h | h
  ·subst h;exact ho
  ·rw[List.mem_singleton]at h;subst h;exact ht⟩
 have HLA:Hid (∀ rs W g,(g,i2O o t)∈rs->BV w rs W->Calls Tryz.prog 117 #[.pointer h.ptr,.int .i64 16,.slice (some ⟨g,0,none⟩) 2 2] W fun e w'=>e= .returned (.tuple #[uV (s.hlast 16 [o,t]),.bool (decide (s.hlen 16 [o,t]≠0))])/\BV w rs w'):=fun rs W g hg hV =>
  hV.reads (z81 W h s f 16 (by omega) (by omega) _ _ (z2y (hV.row hg)) hl (hq.below (BV.bl hV)) hf hm)
 have HB:=zh hB;clear hB hl hq hf hm ho ht;have hd2:(d<0)=True:=eq_true hd0;clear hd0;generalize decide (s.hlen 16 [o,t]≠0)=lb at *
 generalize s.hlast 16 [o,t]=hd at *
 go_enter Tryz.func46,Tryz.ntmps46;go_upto_region 2 with fail;have hB2:=HB.out.alloc (i2O o t);rw[World.size_alloc]at hB2;generalize hw2:(w.alloc zO).alloc (i2O o t)=w2 at *
 clear hw2 HB;have HL2:=zh (HLA.out _ _ (w.heap.size+1) (by simp) hB2);clear HLA hB2;go_wp2_with fail;refine zm HL2.out ?_;rintro e w3 ⟨rfl,hB3⟩;have HB4:=zh (hB3.alloc (uO hd));clear HL2 hB3;go_upto_region 3 with fail;generalize hw4:w3.alloc (uO hd)=w4 at *
 generalize w3.heap.size=g4 at *
 clear hw4;have hz:w4.heap[w.heap.size]?=some (.cells (uL (0,0,0,0)) 24 (0,0)):=HB4.out.row (g:=w.heap.size) (o:=zO) (by simp);obtain⟨z0,z1,z2,z3,z4,z5,z6,z7⟩:=row4 (x:=(0,0,0,0)) hz;obtain⟨m0,m1,m2,m3,m4,m5,m6,m7⟩:=row4 (HB4.out.row (g:=g4) (o:=uO hd) (by simp));have HZ:=zh (put4 hz hd);have HBB:=zh (z09 (BV.bl HB4.out) (Nat.le_refl _) (.int .u64 hd.1) (.int .u64 hd.2.1) (.int .u64 hd.2.2.1) (.int .u64 hd.2.2.2));clear hz HB4;go_wp2_with fail;refine bodyPost_ret (results_cell_row rfl _ _ w.heap.size 24 (uL hd) (0,0) _ rfl HZ.out Tryz.underlying24 rfl (by kernel_rfl)) rfl ?_;exact⟨rfl,HBB.out⟩
theorem zpe(w:World)(h:Hand)(s:St)(f:Nat)(o t b d:Int)(ho:I63 o)(ht:I63 t)(hb:I63 b)(hd0:0<=d)(hbd:d<b)(hq:QSt w h s)(hf:s.Fit f)(hm:f<100000000000)(hn62:s.hlen 16 [o,t]<4611686018427387904) :
  Calls Tryz.prog 46 #[.pointer h.ptr,.int .i64 o,.int .i64 t,.int .i64 b,.int .i64 d] w fun e w'=>e= .returned (uV (gapW (s.hlast 16 [o,t]) (s.hat 16 [o,t] (b-d-1))))/\Below w.heap.size w w':=by
 have hB:=(BV.start w).alloc zO
 have hl:IdOk [o,t]:=⟨by simp,fun y hy=>by
  rcases List.mem_cons.1 hy with h | h
  ·subst h;exact ho
  ·rw[List.mem_singleton]at h;subst h;exact ht⟩
 have HLA:Hid (∀ rs W g,(g,i2O o t)∈rs->BV w rs W->Calls Tryz.prog 117 #[.pointer h.ptr,.int .i64 16,.slice (some ⟨g,0,none⟩) 2 2] W fun e w'=>e= .returned (.tuple #[uV (s.hlast 16 [o,t]),.bool (decide (s.hlen 16 [o,t]≠0))])/\BV w rs w'):=fun rs W g hg hV =>
  hV.reads (z81 W h s f 16 (by omega) (by omega) _ _ (z2y (hV.row hg)) hl (hq.below (BV.bl hV)) hf hm)
 have HAT:Hid (∀ rs W g,(g,i2O o t)∈rs->BV w rs W->Calls Tryz.prog 118 #[.pointer h.ptr,.int .i64 16,.slice (some ⟨g,0,none⟩) 2 2,.int .i64 (b-d-1)] W fun e w'=>e= .returned (.tuple #[uV (s.hat 16 [o,t] (b-d-1)),.bool (decide (s.hpos 16 [o,t] (b-d-1)≠0))])/\BV w rs w'):=fun rs W g hg hV =>
  hV.reads (q0f W h s f 16 (by omega) (by omega) _ _ _ (z2y (hV.row hg)) hl (hq.below (BV.bl hV)) hf hm hn62)
 have HSB:Hid (∀ rs W,BV w rs W->Calls Tryz.prog 71 #[uV (s.hlast 16 [o,t]),uV (s.hat 16 [o,t] (b-d-1))] W fun e w'=>e= .returned (.tuple #[uV (gapW (s.hlast 16 [o,t]) (s.hat 16 [o,t] (b-d-1))),.bool (z1y (s.hlast 16 [o,t]) (s.hat 16 [o,t] (b-d-1))==0)])/\BV w rs w'):=fun rs W hV=>hV.reads (za5 _ _ (z9o _ _ _) (zz4 _ _ _ _) W)
 have HB:=zh hB;unfold I63 at hb;have hw1:IntKind.i64.wrap (b-d)=b-d:=by rw[IntKind.wrap_i64];omega
 have hw1':wrap64 (b-d)=b-d:=by unfold wrap64;omega
 obtain⟨bb,hbb⟩:∃ bb,bb=b-d-1:=⟨_,rfl⟩;have hw2:IntKind.i64.wrap (b-d-1)=bb:=by rw[IntKind.wrap_i64];omega
 have hw2':wrap64 (b-d-1)=bb:=by unfold wrap64;omega
 rw[<- hbb]at HAT HSB ⊢;clear hB hl hq hf hm ho ht hn62 hb hbb;have hbd2:(b<=d)=False:=eq_false (by omega);have hd2:(d<0)=False:=eq_false (by omega);clear hbd hd0;generalize decide (s.hlen 16 [o,t]≠0)=lb at *
 generalize decide (s.hpos 16 [o,t] bb≠0)=lc at *
 generalize (z1y (s.hlast 16 [o,t]) (s.hat 16 [o,t] bb)==0)=ld at *
 generalize gapW (s.hlast 16 [o,t]) (s.hat 16 [o,t] bb)=gp at *
 generalize s.hlast 16 [o,t]=hd at *
 generalize s.hat 16 [o,t] bb=ha at *
 go_enter Tryz.func46,Tryz.ntmps46;go_upto_region 2 with fail;have hB2:=HB.out.alloc (i2O o t);rw[World.size_alloc]at hB2;generalize hw2:(w.alloc zO).alloc (i2O o t)=w2 at *
 clear hw2 HB;have HL2:=zh (HLA.out _ _ (w.heap.size+1) (by simp) hB2);clear HLA hB2;go_wp2_with fail;refine zm HL2.out ?_;rintro e w3 ⟨rfl,hB3⟩;have HB4:=zh (hB3.alloc (uO hd));clear HL2 hB3;go_upto_region 5 with fail;generalize hw4:w3.alloc (uO hd)=w4 at *
 generalize w3.heap.size=g4 at *
 clear hw4;have HA4:=zh (HAT.out _ _ (w.heap.size+1) (by simp) HB4.out);clear HAT HB4 hbd2 hd2;go_wp2_with fail;refine zm HA4.out ?_;rintro e w5 ⟨rfl,hB5⟩;have HB6:=zh (hB5.alloc (uO ha));clear HA4 hB5 hw1 hw1' hw2';go_upto_region 6 with fail;generalize hw6:w5.alloc (uO ha)=w6 at *
 generalize w5.heap.size=g6 at *
 clear hw6;obtain⟨m0,m1,m2,m3,m4,m5,m6,m7⟩:=row4 (HB6.out.row (g:=g4) (o:=uO hd) (by simp));obtain⟨n0,n1,n2,n3,n4,n5,n6,n7⟩:=row4 (HB6.out.row (g:=g6) (o:=uO ha) (by simp));have HS6:=zh (HSB.out _ _ HB6.out);clear HSB HB6;go_wp2_with fail;refine zm HS6.out ?_;rintro e w7 ⟨rfl,hB7⟩;have HB8:=zh (hB7.alloc (uO gp));clear HS6 hB7 m0 m1 m2 m3 m4 m5 m6 m7 n0 n1 n2 n3 n4 n5 n6 n7;go_upto_region 7 with fail;generalize hw8:w7.alloc (uO gp)=w8 at *
 generalize w7.heap.size=g8 at *
 clear hw8;have hz:w8.heap[w.heap.size]?=some (.cells (uL (0,0,0,0)) 24 (0,0)):=HB8.out.row (g:=w.heap.size) (o:=zO) (by simp);obtain⟨z0,z1,z2,z3,z4,z5,z6,z7⟩:=row4 (x:=(0,0,0,0)) hz;obtain⟨m0,m1,m2,m3,m4,m5,m6,m7⟩:=row4 (HB8.out.row (g:=g8) (o:=uO gp) (by simp));have HZ:=zh (put4 hz gp);have HBB:=zh (z09 (BV.bl HB8.out) (Nat.le_refl _) (.int .u64 gp.1) (.int .u64 gp.2.1) (.int .u64 gp.2.2.1) (.int .u64 gp.2.2.2));clear hz HB8;go_wp2_with fail;refine bodyPost_ret (results_cell_row rfl _ _ w.heap.size 24 (uL gp) (0,0) _ rfl HZ.out Tryz.underlying24 rfl (by kernel_rfl)) rfl ?_;exact⟨rfl,HBB.out⟩
theorem zk8(w:World)(h:Hand)(s:St)(f:Nat)(o t b d:Int)(ho:I63 o)(ht:I63 t)(hb:I63 b)(hq:QSt w h s)(hf:s.Fit f)(hm:f<100000000000)(hn62:s.hlen 16 [o,t]<4611686018427387904) :
  Calls Tryz.prog 46 #[.pointer h.ptr,.int .i64 o,.int .i64 t,.int .i64 b,.int .i64 d] w fun e w'=>e= .returned (uV (s.slash o t b d))/\Below w.heap.size w w':=by
 unfold St.slash
 by_cases h1:d<0
 ·rw[if_pos (.inl h1)];exact zni w h s f o t b d ho ht h1 hq hf hm
 ·by_cases h2:b<=d
  ·rw[if_pos (.inr h2)];exact zhl w h s f o t b d ho ht (by omega) h2 hq hf hm
  ·rw[if_neg (by omega)];exact zpe w h s f o t b d ho ht hb (by omega) (by omega) hq hf hm hn62
theorem zq6(x y:W4)(hx:x.Ok)(hy:y.Ok)(w:World):Calls Tryz.prog 22 #[uV x,uV y] w fun e w'=>e= .returned (.tuple #[uV (gapW x y),.bool (z1y x y==0)])/\Below w.heap.size w w':=by
 have h:=zvs x y hx hy w;obtain⟨h1,h2⟩:=zjq hx hy;rw[<- h1,<- h2]at h;exact h
theorem zyn(s:St)(t:Nat)(l:List Int)(b:Int):(s.rat t l b).Ok:=by
 unfold St.rat St.rcur;split
 ·exact z6u
 ·exact zn7 _
def St.z9j(s:St)(o t b d:Int):W4:=if b<0\/d<0\/b<=d then s.hlast 16 [o,t]else gapW (s.hlast 16 [o,t]) (s.rat 16 [o,t] (b-d-1))
theorem zp6(w:World)(sb:Nat)(s:St)(L:List Nat)(f:Nat)(o t b d:Int)(ho:I63 o)(ht:I63 t)(hc:b<0)(hq:RRep w sb s L)(hf:s.Fit f)(hm:f<100000000000) :
  Calls Tryz.prog 49 #[.pointer (some ⟨sb,0,none⟩),.int .i64 o,.int .i64 t,.int .i64 b,.int .i64 d] w fun e w'=>e= .returned (uV (s.hlast 16 [o,t]))/\Below w.heap.size w w':=by
 have hB:=(BV.start w).alloc zO
 have hl:IdOk [o,t]:=⟨by simp,fun y hy=>by
  rcases List.mem_cons.1 hy with h | h
  ·subst h;exact ho
  ·rw[List.mem_singleton]at h;subst h;exact ht⟩
 have HLA:Hid (∀ rs W g,(g,i2O o t)∈rs->BV w rs W->Calls Tryz.prog 123 #[.pointer (some ⟨sb,0,none⟩),.int .i64 16,.slice (some ⟨g,0,none⟩) 2 2] W fun e w'=>e= .returned (.tuple #[uV (s.hlast 16 [o,t]),.bool (decide (s.hlen 16 [o,t]≠0))])/\BV w rs w'):=fun rs W g hg hV =>
  hV.reads (z9p W sb s L f 16 (by omega) (by omega) _ _ (z2y (hV.row hg)) hl (hq.below (BV.bl hV)) hf hm)
 have HB:=zh hB;clear hB hl hq hf hm ho ht;have hf1:(b<0)=True:=eq_true hc;clear hc;generalize decide (s.hlen 16 [o,t]≠0)=lb at *
 generalize s.hlast 16 [o,t]=hd at *
 go_enter Tryz.func49,Tryz.ntmps49;go_upto_region 2 with fail;have hB2:=HB.out.alloc (i2O o t);rw[World.size_alloc]at hB2;generalize hw2:(w.alloc zO).alloc (i2O o t)=w2 at *
 clear hw2 HB;have HL2:=zh (HLA.out _ _ (w.heap.size+1) (by simp) hB2);clear HLA hB2;go_wp2_with fail;refine zm HL2.out ?_;rintro e w3 ⟨rfl,hB3⟩;have HB4:=zh (hB3.alloc (uO hd));clear HL2 hB3;go_upto_region 3 with fail;generalize hw4:w3.alloc (uO hd)=w4 at *
 generalize w3.heap.size=g4 at *
 clear hw4;have hz:w4.heap[w.heap.size]?=some (.cells (uL (0,0,0,0)) 24 (0,0)):=HB4.out.row (g:=w.heap.size) (o:=zO) (by simp);obtain⟨z0,z1,z2,z3,z4,z5,z6,z7⟩:=row4 (x:=(0,0,0,0)) hz;obtain⟨m0,m1,m2,m3,m4,m5,m6,m7⟩:=row4 (HB4.out.row (g:=g4) (o:=uO hd) (by simp));have HZ:=zh (put4 hz hd);have HBB:=zh (z09 (BV.bl HB4.out) (Nat.le_refl _) (.int .u64 hd.1) (.int .u64 hd.2.1) (.int .u64 hd.2.2.1) (.int .u64 hd.2.2.2));clear hz HB4;go_wp2_with fail;refine bodyPost_ret (results_cell_row rfl _ _ w.heap.size 24 (uL hd) (0,0) _ rfl HZ.out Tryz.underlying24 rfl (by kernel_rfl)) rfl ?_;exact⟨rfl,HBB.out⟩
theorem zns(w:World)(sb:Nat)(s:St)(L:List Nat)(f:Nat)(o t b d:Int)(ho:I63 o)(ht:I63 t)(hc0:¬ b<0)(hc:d<0)(hq:RRep w sb s L)(hf:s.Fit f)(hm:f<100000000000) :
  Calls Tryz.prog 49 #[.pointer (some ⟨sb,0,none⟩),.int .i64 o,.int .i64 t,.int .i64 b,.int .i64 d] w fun e w'=>e= .returned (uV (s.hlast 16 [o,t]))/\Below w.heap.size w w':=by
 have hB:=(BV.start w).alloc zO
 have hl:IdOk [o,t]:=⟨by simp,fun y hy=>by
  rcases List.mem_cons.1 hy with h | h
  ·subst h;exact ho
  ·rw[List.mem_singleton]at h;subst h;exact ht⟩
 have HLA:Hid (∀ rs W g,(g,i2O o t)∈rs->BV w rs W->Calls Tryz.prog 123 #[.pointer (some ⟨sb,0,none⟩),.int .i64 16,.slice (some ⟨g,0,none⟩) 2 2] W fun e w'=>e= .returned (.tuple #[uV (s.hlast 16 [o,t]),.bool (decide (s.hlen 16 [o,t]≠0))])/\BV w rs w'):=fun rs W g hg hV =>
  hV.reads (z9p W sb s L f 16 (by omega) (by omega) _ _ (z2y (hV.row hg)) hl (hq.below (BV.bl hV)) hf hm)
 have HB:=zh hB;clear hB hl hq hf hm ho ht;have hf1:(b<0)=False:=eq_false hc0;have hf2:(d<0)=True:=eq_true hc;clear hc hc0;generalize decide (s.hlen 16 [o,t]≠0)=lb at *
 generalize s.hlast 16 [o,t]=hd at *
 go_enter Tryz.func49,Tryz.ntmps49;go_upto_region 2 with fail;have hB2:=HB.out.alloc (i2O o t);rw[World.size_alloc]at hB2;generalize hw2:(w.alloc zO).alloc (i2O o t)=w2 at *
 clear hw2 HB;have HL2:=zh (HLA.out _ _ (w.heap.size+1) (by simp) hB2);clear HLA hB2;go_wp2_with fail;refine zm HL2.out ?_;rintro e w3 ⟨rfl,hB3⟩;have HB4:=zh (hB3.alloc (uO hd));clear HL2 hB3;go_upto_region 3 with fail;generalize hw4:w3.alloc (uO hd)=w4 at *
 generalize w3.heap.size=g4 at *
 clear hw4;have hz:w4.heap[w.heap.size]?=some (.cells (uL (0,0,0,0)) 24 (0,0)):=HB4.out.row (g:=w.heap.size) (o:=zO) (by simp);obtain⟨z0,z1,z2,z3,z4,z5,z6,z7⟩:=row4 (x:=(0,0,0,0)) hz;obtain⟨m0,m1,m2,m3,m4,m5,m6,m7⟩:=row4 (HB4.out.row (g:=g4) (o:=uO hd) (by simp));have HZ:=zh (put4 hz hd);have HBB:=zh (z09 (BV.bl HB4.out) (Nat.le_refl _) (.int .u64 hd.1) (.int .u64 hd.2.1) (.int .u64 hd.2.2.1) (.int .u64 hd.2.2.2));clear hz HB4;go_wp2_with fail;refine bodyPost_ret (results_cell_row rfl _ _ w.heap.size 24 (uL hd) (0,0) _ rfl HZ.out Tryz.underlying24 rfl (by kernel_rfl)) rfl ?_;exact⟨rfl,HBB.out⟩
theorem zri(w:World)(sb:Nat)(s:St)(L:List Nat)(f:Nat)(o t b d:Int)(ho:I63 o)(ht:I63 t)(hc0:¬ b<0)(hc1:¬ d<0)(hc:b<=d)(hq:RRep w sb s L)(hf:s.Fit f)(hm:f<100000000000) :
  Calls Tryz.prog 49 #[.pointer (some ⟨sb,0,none⟩),.int .i64 o,.int .i64 t,.int .i64 b,.int .i64 d] w fun e w'=>e= .returned (uV (s.hlast 16 [o,t]))/\Below w.heap.size w w':=by
 have hB:=(BV.start w).alloc zO
 have hl:IdOk [o,t]:=⟨by simp,fun y hy=>by
  rcases List.mem_cons.1 hy with h | h
  ·subst h;exact ho
  ·rw[List.mem_singleton]at h;subst h;exact ht⟩
 have HLA:Hid (∀ rs W g,(g,i2O o t)∈rs->BV w rs W->Calls Tryz.prog 123 #[.pointer (some ⟨sb,0,none⟩),.int .i64 16,.slice (some ⟨g,0,none⟩) 2 2] W fun e w'=>e= .returned (.tuple #[uV (s.hlast 16 [o,t]),.bool (decide (s.hlen 16 [o,t]≠0))])/\BV w rs w'):=fun rs W g hg hV =>
  hV.reads (z9p W sb s L f 16 (by omega) (by omega) _ _ (z2y (hV.row hg)) hl (hq.below (BV.bl hV)) hf hm)
 have HB:=zh hB;clear hB hl hq hf hm ho ht;have hf1:(b<0)=False:=eq_false hc0;have hf2:(d<0)=False:=eq_false hc1;have hf3:(b<=d)=True:=eq_true hc;clear hc hc0 hc1;generalize decide (s.hlen 16 [o,t]≠0)=lb at *
 generalize s.hlast 16 [o,t]=hd at *
 go_enter Tryz.func49,Tryz.ntmps49;go_upto_region 2 with fail;have hB2:=HB.out.alloc (i2O o t);rw[World.size_alloc]at hB2;generalize hw2:(w.alloc zO).alloc (i2O o t)=w2 at *
 clear hw2 HB;have HL2:=zh (HLA.out _ _ (w.heap.size+1) (by simp) hB2);clear HLA hB2;go_wp2_with fail;refine zm HL2.out ?_;rintro e w3 ⟨rfl,hB3⟩;have HB4:=zh (hB3.alloc (uO hd));clear HL2 hB3;go_upto_region 3 with fail;generalize hw4:w3.alloc (uO hd)=w4 at *
 generalize w3.heap.size=g4 at *
 clear hw4;have hz:w4.heap[w.heap.size]?=some (.cells (uL (0,0,0,0)) 24 (0,0)):=HB4.out.row (g:=w.heap.size) (o:=zO) (by simp);obtain⟨z0,z1,z2,z3,z4,z5,z6,z7⟩:=row4 (x:=(0,0,0,0)) hz;obtain⟨m0,m1,m2,m3,m4,m5,m6,m7⟩:=row4 (HB4.out.row (g:=g4) (o:=uO hd) (by simp));have HZ:=zh (put4 hz hd);have HBB:=zh (z09 (BV.bl HB4.out) (Nat.le_refl _) (.int .u64 hd.1) (.int .u64 hd.2.1) (.int .u64 hd.2.2.1) (.int .u64 hd.2.2.2));clear hz HB4;go_wp2_with fail;refine bodyPost_ret (results_cell_row rfl _ _ w.heap.size 24 (uL hd) (0,0) _ rfl HZ.out Tryz.underlying24 rfl (by kernel_rfl)) rfl ?_;exact⟨rfl,HBB.out⟩
theorem zq0(w:World)(sb:Nat)(s:St)(L:List Nat)(f:Nat)(o t b d:Int)(ho:I63 o)(ht:I63 t)(hb:I63 b)(hd0:0<=d)(hbd:d<b)(hq:RRep w sb s L)(hf:s.Fit f)(hm:f<100000000000)(hn62:s.hlen 16 [o,t]<4611686018427387904) :
  Calls Tryz.prog 49 #[.pointer (some ⟨sb,0,none⟩),.int .i64 o,.int .i64 t,.int .i64 b,.int .i64 d] w fun e w'=>e= .returned (uV (gapW (s.hlast 16 [o,t]) (s.rat 16 [o,t] (b-d-1))))/\Below w.heap.size w w':=by
 have hB:=(BV.start w).alloc zO
 have hl:IdOk [o,t]:=⟨by simp,fun y hy=>by
  rcases List.mem_cons.1 hy with h | h
  ·subst h;exact ho
  ·rw[List.mem_singleton]at h;subst h;exact ht⟩
 have HLA:Hid (∀ rs W g,(g,i2O o t)∈rs->BV w rs W->Calls Tryz.prog 123 #[.pointer (some ⟨sb,0,none⟩),.int .i64 16,.slice (some ⟨g,0,none⟩) 2 2] W fun e w'=>e= .returned (.tuple #[uV (s.hlast 16 [o,t]),.bool (decide (s.hlen 16 [o,t]≠0))])/\BV w rs w'):=fun rs W g hg hV =>
  hV.reads (z9p W sb s L f 16 (by omega) (by omega) _ _ (z2y (hV.row hg)) hl (hq.below (BV.bl hV)) hf hm)
 have HAT:Hid (∀ rs W g,(g,i2O o t)∈rs->BV w rs W->Calls Tryz.prog 124 #[.pointer (some ⟨sb,0,none⟩),.int .i64 16,.slice (some ⟨g,0,none⟩) 2 2,.int .i64 (b-d-1)] W fun e w'=>e= .returned (.tuple #[uV (s.rat 16 [o,t] (b-d-1)),.bool (nz (s.rpos 16 [o,t] (b-d-1)))])/\BV w rs w'):=fun rs W g hg hV =>
  hV.reads (zzd W sb s L f 16 (by omega) (by omega) _ _ _ (z2y (hV.row hg)) hl (hq.below (BV.bl hV)) hf hm hn62)
 have HSB:Hid (∀ rs W,BV w rs W->Calls Tryz.prog 22 #[uV (s.hlast 16 [o,t]),uV (s.rat 16 [o,t] (b-d-1))] W fun e w'=>e= .returned (.tuple #[uV (gapW (s.hlast 16 [o,t]) (s.rat 16 [o,t] (b-d-1))),.bool (z1y (s.hlast 16 [o,t]) (s.rat 16 [o,t] (b-d-1))==0)])/\BV w rs w'):=fun rs W hV=>hV.reads (zq6 _ _ (z9o _ _ _) (zyn _ _ _ _) W)
 have HB:=zh hB;unfold I63 at hb;have hw1:IntKind.i64.wrap (b-d)=b-d:=by rw[IntKind.wrap_i64];omega
 have hw1':wrap64 (b-d)=b-d:=by unfold wrap64;omega
 obtain⟨bb,hbb⟩:∃ bb,bb=b-d-1:=⟨_,rfl⟩;have hw2:IntKind.i64.wrap (b-d-1)=bb:=by rw[IntKind.wrap_i64];omega
 have hw2':wrap64 (b-d-1)=bb:=by unfold wrap64;omega
 rw[<- hbb]at HAT HSB ⊢;clear hB hl hq hf hm ho ht hn62 hb hbb;have hbd2:(b<=d)=False:=eq_false (by omega);have hd2:(d<0)=False:=eq_false (by omega);have hf1:(b<0)=False:=eq_false (by omega);clear hbd hd0;generalize decide (s.hlen 16 [o,t]≠0)=lb at *
 generalize nz (s.rpos 16 [o,t] bb)=lc at *
 generalize (z1y (s.hlast 16 [o,t]) (s.rat 16 [o,t] bb)==0)=ld at *
 generalize gapW (s.hlast 16 [o,t]) (s.rat 16 [o,t] bb)=gp at *
 generalize s.hlast 16 [o,t]=hd at *
 generalize s.rat 16 [o,t] bb=ha at *
 go_enter Tryz.func49,Tryz.ntmps49;go_upto_region 2 with fail;have hB2:=HB.out.alloc (i2O o t);rw[World.size_alloc]at hB2;generalize hw2:(w.alloc zO).alloc (i2O o t)=w2 at *
 clear hw2 HB;have HL2:=zh (HLA.out _ _ (w.heap.size+1) (by simp) hB2);clear HLA hB2;go_wp2_with fail;refine zm HL2.out ?_;rintro e w3 ⟨rfl,hB3⟩;have HB4:=zh (hB3.alloc (uO hd));clear HL2 hB3;go_upto_region 5 with fail;generalize hw4:w3.alloc (uO hd)=w4 at *
 generalize w3.heap.size=g4 at *
 clear hw4;have HA4:=zh (HAT.out _ _ (w.heap.size+1) (by simp) HB4.out);clear HAT HB4 hbd2 hd2;go_wp2_with fail;refine zm HA4.out ?_;rintro e w5 ⟨rfl,hB5⟩;have HB6:=zh (hB5.alloc (uO ha));clear HA4 hB5 hw1 hw1' hw2';go_upto_region 6 with fail;generalize hw6:w5.alloc (uO ha)=w6 at *
 generalize w5.heap.size=g6 at *
 clear hw6;obtain⟨m0,m1,m2,m3,m4,m5,m6,m7⟩:=row4 (HB6.out.row (g:=g4) (o:=uO hd) (by simp));obtain⟨n0,n1,n2,n3,n4,n5,n6,n7⟩:=row4 (HB6.out.row (g:=g6) (o:=uO ha) (by simp));have HS6:=zh (HSB.out _ _ HB6.out);clear HSB HB6;go_wp2_with fail;refine zm HS6.out ?_;rintro e w7 ⟨rfl,hB7⟩;have HB8:=zh (hB7.alloc (uO gp));clear HS6 hB7 m0 m1 m2 m3 m4 m5 m6 m7 n0 n1 n2 n3 n4 n5 n6 n7;go_upto_region 7 with fail;generalize hw8:w7.alloc (uO gp)=w8 at *
 generalize w7.heap.size=g8 at *
 clear hw8;have hz:w8.heap[w.heap.size]?=some (.cells (uL (0,0,0,0)) 24 (0,0)):=HB8.out.row (g:=w.heap.size) (o:=zO) (by simp);obtain⟨z0,z1,z2,z3,z4,z5,z6,z7⟩:=row4 (x:=(0,0,0,0)) hz;obtain⟨m0,m1,m2,m3,m4,m5,m6,m7⟩:=row4 (HB8.out.row (g:=g8) (o:=uO gp) (by simp));have HZ:=zh (put4 hz gp);have HBB:=zh (z09 (BV.bl HB8.out) (Nat.le_refl _) (.int .u64 gp.1) (.int .u64 gp.2.1) (.int .u64 gp.2.2.1) (.int .u64 gp.2.2.2));clear hz HB8;go_wp2_with fail;refine bodyPost_ret (results_cell_row rfl _ _ w.heap.size 24 (uL gp) (0,0) _ rfl HZ.out Tryz.underlying24 rfl (by kernel_rfl)) rfl ?_;exact⟨rfl,HBB.out⟩
theorem zl8(w:World)(sb:Nat)(s:St)(L:List Nat)(f:Nat)(o t b d:Int)(ho:I63 o)(ht:I63 t)(hb:I63 b)(hq:RRep w sb s L)(hf:s.Fit f)(hm:f<100000000000)(hn62:s.hlen 16 [o,t]<4611686018427387904) :
  Calls Tryz.prog 49 #[.pointer (some ⟨sb,0,none⟩),.int .i64 o,.int .i64 t,.int .i64 b,.int .i64 d] w fun e w'=>e= .returned (uV (s.z9j o t b d))/\Below w.heap.size w w':=by
 unfold St.z9j
 by_cases h0:b<0
 ·rw[if_pos (.inl h0)];exact zp6 w sb s L f o t b d ho ht h0 hq hf hm
 by_cases h1:d<0
 ·rw[if_pos (.inr (.inl h1))];exact zns w sb s L f o t b d ho ht h0 h1 hq hf hm
 by_cases h2:b<=d
 ·rw[if_pos (.inr (.inr h2))];exact zri w sb s L f o t b d ho ht h0 h1 h2 hq hf hm
 ·rw[if_neg (by omega)];exact zq0 w sb s L f o t b d ho ht hb (by omega) (by omega) hq hf hm hn62
end Go.Proofs.YtnkilceibkkjlaaGreat
