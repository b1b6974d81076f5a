/- What is proved here: one thing done of the alloc laws, on -/
import Derived.Test.YtnkilceibkkjlaaGreatKAlPg
import Derived.Test.YtnkilceibkkjlaaGreatKPairV
set_option maxRecDepth 100000
set_option maxHeartbeats 16000000
namespace Go.Proofs.YtnkilceibkkjlaaGreat
open Go.RowKit
def z6g(s:St)(A:LAct):St:=if A.kd=0 then mdSt s A.x A.tt A.mx A.bk A.dl A.tl A.sl else if A.kd=1 then mtSt s A.x else ctSt s A.x A.fv
def z6v(s:St)(A:LAct):St:=if A.kd=0 then mdSt s A.x A.tt A.mx A.bk A.dl A.tl A.sl else if A.kd=1 then mtSt s A.x else z98 s A.x A.fv
def LPh(h:Hand)(b:Nat)(w:World)(K:List Nat)(s s1 m m1:St)(rs:List (Nat × Obj)):Nat->World->Prop
 | 0,W=>PV h b m w K s rs W
 | 1,W=>PV h b m w K s1 rs W
 | _+2,W=>PV h b m1 w K s1 rs W
theorem LPh.row{h:Hand}{b:Nat}{w W:World}{K:List Nat}{s s1 m m1:St}{rs:List (Nat × Obj)}{p:Nat}(hP:LPh h b w K s s1 m m1 rs p W){g:Nat}{o:Obj}(hm:(g,o)∈rs):W.heap[g]?=some o:=by
 match p,hP with
 | 0,hP=>exact QV.row hP hm
 | 1,hP=>exact QV.row hP hm
 | _+2,hP=>exact QV.row hP hm
section
variable {ops:Array Oper} {o:Oper} {a:Go.Act} {w:World} {K:Value->World->Prop} {x y:Operand} {g:Nat}
theorem z4k{A:LAct}(hg:Region.wanted o (yielded ops a.tmps)=true)(ho:o.op= .load 34 x)(hx:a.eval x= .pointer (some ⟨g,1,none⟩))(hr:w.heap[g]?=some (actO A))(hk:K (idV A.x) w):rgDo Tryz.prog ops o a w K:=by
 obtain⟨_,⟨c0,c1,c2,c3⟩,_⟩:=z8i hr;refine z0n hg ?_ hk;clear hg hk hr;generalize a.eval=ev at hx ⊢;unfold execOp;simp only[ho,hx]
 go_simp
theorem zwr(hg:Region.wanted o (yielded ops a.tmps)=true){u:Bool}(ho:o.op= .binOp .eql 4 x y 4)(hx:a.eval x= .bool u)(hy:a.eval y= .bool u)(hk:K (.bool true) w):rgDo Tryz.prog ops o a w K:=by
 refine z0n hg ?_ hk;clear hg hk;generalize a.eval=ev at hx hy ⊢;unfold execOp;simp only[ho,hx,hy];cases u<;>go_simp
end
theorem ztf(w:World)(h:Hand)(b:Nat)(K:List Nat)(s m:St)(f0 k:Nat)(A:LAct)(hkd:A.kd=0)(hon:h.on=true)(hA:A.Ok)(hP:z96 h.ptr h.on b m w K s)(hfs:s.Fit f0)(hfm:m.Fit f0)(hm:f0<1000000)(hg:AG k s)(he:s.ents=m.ents)(hk:k<100000) :
  Calls Tryz.prog 16 #[.pointer h.ptr,.pointer (some ⟨b,0,none⟩),.agg A.L] w fun e w'=>e= .returned (.bool true)/\POn h b w K (mdSt s A.x A.tt A.mx A.bk A.dl A.tl A.sl) (mdSt m A.x A.tt A.mx A.bk A.dl A.tl A.sl) w':=by
 have hB:=((QV.start (z5c _ _ _ _) hP).alloc (actO A)).alloc (riO A.x);simp only[World.size_alloc]at hB;have hgm:=hg.congr he;have HT:Hid (∀ rs W',PV h b m w K s rs W'->Calls Tryz.prog 19 #[.pointer h.ptr,idV A.x,chV A.tt A.mx A.bk A.dl A.tl A.sl] W' fun e w'=>e= .returned (.tuple #[.int .i64 (mdN s A.x A.tt A.mx A.bk A.dl A.tl A.sl),.int .i64 (mdE s A.x A.tt A.mx A.bk A.dl A.tl A.sl)])/\PV h b m w K (mdSt s A.x A.tt A.mx A.bk A.dl A.tl A.sl) rs w'):=fun rs W' hW=>PV.zr2 hW fun L h1=>zca W' ⟨h.ptr,h.on,L⟩ s f0 A.bk A.dl A.tl A.x A.tt A.mx A.sl hon hA.x hA.tt hA.mx h1 hfs (by omega) fun _ _=>zjx hg hk hfs (by omega) _ _ _ _ _ _ _
 have HR:Hid (∀ s1 rs W',PV h b m w K s1 rs W'->Calls Tryz.prog 60 #[.pointer (some ⟨b,0,none⟩),idV A.x,chV A.tt A.mx A.bk A.dl A.tl A.sl] W' fun e w'=>e= .returned (.tuple #[.int .i64 (mdN s A.x A.tt A.mx A.bk A.dl A.tl A.sl),.int .i64 (mdE s A.x A.tt A.mx A.bk A.dl A.tl A.sl)])/\PV h b (mdSt m A.x A.tt A.mx A.bk A.dl A.tl A.sl) w K s1 rs w'):=fun s1 rs W' hW=>by
  rw[zpy he,znq he];exact PV.zx8 hW fun M h1=>zps W' b M m f0 A.bk A.dl A.tl A.x A.tt A.mx A.sl hA.x hA.tt hA.mx h1 hfm (by omega) fun _ hb=>⟨zjx hgm hk hfm (by omega) _ _ _ _ _ _ _,zwq hgm hk _ _ hb⟩
 have HB:=zh hB;clear hB hgm hP hfs hfm hg he hA hon;generalize mdSt s A.x A.tt A.mx A.bk A.dl A.tl A.sl=s1 at *
 generalize mdSt m A.x A.tt A.mx A.bk A.dl A.tl A.sl=m1 at *
 generalize mdN s A.x A.tt A.mx A.bk A.dl A.tl A.sl=aN at *
 generalize mdE s A.x A.tt A.mx A.bk A.dl A.tl A.sl=aE at *
 obtain⟨kd,⟨x0,x1,x2,x3⟩,T,M,B,D,N,S,F⟩:=A;dsimp only at *
 subst hkd;go_enter Tryz.func16,Tryz.ntmps16;go_upto_region 1 with fail;generalize hwA:w.alloc (.cells (LAct.L ⟨0,(x0,x1,x2,x3),T,M,B,D,N,S,F⟩) 38)=wA at *
 have hrA:wA.heap[w.heap.size]?=some (actO ⟨0,(x0,x1,x2,x3),T,M,B,D,N,S,F⟩):=by rw[<- hwA];exact heap_alloc_new w _
 have hzA:wA.heap.size=w.heap.size+1:=by rw[<- hwA];exact World.size_alloc ..
 obtain⟨_,⟨cx0,cx1,cx2,cx3⟩,_⟩:=z8i hrA;clear hwA hrA;go_upto_region 2 with fail;generalize wA.alloc (riO (x0,x1,x2,x3))=w1 at *
 generalize w.heap.size=g1 at *
 clear cx0 cx1 cx2 cx3 hzA;obtain⟨ck,⟨cx0,cx1,cx2,cx3⟩,⟨ct0,ct1,ct2,ct3⟩,⟨cm0,cm1,cm2,cm3⟩,⟨cb,cd,cl,cs⟩,_⟩:=z8i (HB.out.row (g:=g1) (o:=actO ⟨0,(x0,x1,x2,x3),T,M,B,D,N,S,F⟩) (by simp));have HT1:=zh (HT.out _ _ HB.out);clear HB HT;go_wp2_with fail;refine zm HT1.out ?_;rintro e w2 ⟨rfl,hB2⟩;clear HT1 ck cx0 cx1 cx2 cx3 ct0 ct1 ct2 ct3 cm0 cm1 cm2 cm3 cb cd cl cs;obtain⟨ck,_,⟨ct0,ct1,ct2,ct3⟩,⟨cm0,cm1,cm2,cm3⟩,⟨cb,cd,cl,cs⟩,_⟩:=z8i (hB2.row (g:=g1) (o:=actO ⟨0,(x0,x1,x2,x3),T,M,B,D,N,S,F⟩) (by simp));obtain⟨i0,i1,i2,i3⟩:=z0g (hB2.row (g:=g1+1) (o:=riO (x0,x1,x2,x3)) (by simp));have HR2:=zh (HR.out _ _ _ hB2);clear hB2 HR;go_wp2_with fail;refine zm HR2.out ?_;rintro e w3 ⟨rfl,hB3⟩;have HD:=zh (PV.done hB3);clear hB3 HR2 ck ct0 ct1 ct2 ct3 cm0 cm1 cm2 cm3 cb cd cl cs i0 i1 i2 i3;go_wp2_with fail;go_ret;exact⟨by first | rfl | simp,HD.out⟩
theorem ztt(w:World)(h:Hand)(b:Nat)(K:List Nat)(s m:St)(f0 k:Nat)(A:LAct)(hkd:A.kd=1)(hon:h.on=true)(hA:A.Ok)(hP:z96 h.ptr h.on b m w K s)(hfs:s.Fit f0)(hfm:m.Fit f0)(hm:f0<1000000)(hg:AG k s)(he:s.ents=m.ents)(hk:k<100000) :
  Calls Tryz.prog 16 #[.pointer h.ptr,.pointer (some ⟨b,0,none⟩),.agg A.L] w fun e w'=>e= .returned (.bool true)/\POn h b w K (mtSt s A.x) (mtSt m A.x) w':=by
 have hB:=((QV.start (z5c _ _ _ _) hP).alloc (actO A)).alloc (riO A.x);simp only[World.size_alloc]at hB;have hgm:=hg.congr he;have HT:Hid (∀ rs W',PV h b m w K s rs W'->Calls Tryz.prog 23 #[.pointer h.ptr,idV A.x] W' fun e w'=>e= .returned (.bool (!decide ((pend s A.x).1=0)))/\PV h b m w K (mtSt s A.x) rs w'):=fun rs W' hW=>PV.zr2 hW fun L h1=>zd6 W' ⟨h.ptr,h.on,L⟩ s f0 A.x hon hA.x h1 hfs (by omega) (Nat.lt_of_le_of_lt ((zb2 hg A.x).eb _ _) (by omega))
 have HR:Hid (∀ s1 rs W',PV h b m w K s1 rs W'->Calls Tryz.prog 61 #[.pointer (some ⟨b,0,none⟩),idV A.x] W' fun e w'=>e= .returned (.bool (!decide ((pend s A.x).1=0)))/\PV h b (mtSt m A.x) w K s1 rs w'):=fun s1 rs W' hW=>by
  rw[z4h he];exact PV.zx8 hW fun M h1=>zqo W' b M m f0 A.x hA.x (zxz hgm A.x) h1 hfm (by omega) (Nat.lt_of_le_of_lt ((zb2 hgm A.x).eb _ _) (by omega))
 have HB:=zh hB;clear hB hgm hP hfs hfm hg he hA hon;generalize mtSt s A.x=s1 at *
 generalize mtSt m A.x=m1 at *
 generalize (!decide ((pend s A.x).1=0))=bv at *
 obtain⟨kd,⟨x0,x1,x2,x3⟩,T,M,B,D,N,S,F⟩:=A;dsimp only at *
 subst hkd;go_enter Tryz.func16,Tryz.ntmps16;go_upto_region 1 with fail;generalize hwA:w.alloc (.cells (LAct.L ⟨1,(x0,x1,x2,x3),T,M,B,D,N,S,F⟩) 38)=wA at *
 have hrA:wA.heap[w.heap.size]?=some (actO ⟨1,(x0,x1,x2,x3),T,M,B,D,N,S,F⟩):=by rw[<- hwA];exact heap_alloc_new w _
 have hzA:wA.heap.size=w.heap.size+1:=by rw[<- hwA];exact World.size_alloc ..
 obtain⟨_,⟨cx0,cx1,cx2,cx3⟩,_⟩:=z8i hrA;clear hwA hrA;go_upto_region 2 with fail;generalize wA.alloc (riO (x0,x1,x2,x3))=w1 at *
 generalize w.heap.size=g1 at *
 clear cx0 cx1 cx2 cx3 hzA;obtain⟨ck,_⟩:=z8i (HB.out.row (g:=g1) (o:=actO ⟨1,(x0,x1,x2,x3),T,M,B,D,N,S,F⟩) (by simp));have H0:Hid (PV h b m w K s [(g1+1,riO (x0,x1,x2,x3)),(g1,actO ⟨1,(x0,x1,x2,x3),T,M,B,D,N,S,F⟩)] w1.drew):=zh (HB.out.below (z0h (Below.refl _ w1)));clear HB;go_upto_region 8 with fail;refine z06 [[],[],[1],[0,2],[],[],[3,4,5],[3,6],[7]]
  [.pointer h.ptr,.pointer (some ⟨g1,1,none⟩),idV (x0,x1,x2,x3),.bool bv,.pointer (some ⟨b,0,none⟩),idV (x0,x1,x2,x3),.bool bv,.bool true,.bool true]
  [3,6] (LPh h b w K s s1 m m1 [(g1+1,riO (x0,x1,x2,x3)),(g1,actO ⟨1,(x0,x1,x2,x3),T,M,B,D,N,S,F⟩)]) _ (by kernel_rfl) (by kernel_rfl) (by kernel_rfl)
  (fun vs=>by simp only[z14,z1a,List.setIfInBounds_toArray,List.set_cons_zero,List.set_cons_succ];exact rfl)
  (by simp only[List.getD_cons_zero,List.getD_cons_succ];exact rfl) H0.out ?_ ?_
 ·exact⟨
  fun _ _ _ _ hP _=>z0a rfl (.inl rfl) rfl ⟨rfl,hP⟩,
  fun _ _ _ _ hP _=>zdl rfl rfl rfl ⟨rfl,hP⟩,
  fun _ _ _ hA hP _=>z4k (A:=⟨1,(x0,x1,x2,x3),T,M,B,D,N,S,F⟩) rfl rfl hA.1 (hP.row (by simp)) ⟨rfl,hP⟩,
  fun _ _ _ hA hP hq=>by cases hq 0 rfl;exact z0m rfl rfl rfl (by kernel_rfl) (rgL2 hA.1 hA.2.1) (HT.out _ _ hP) fun _ hP2=>⟨rfl,hP2⟩,
  fun _ _ _ _ hP _=>z0a rfl (.inl rfl) rfl ⟨rfl,hP⟩,
  fun _ _ _ _ hP _=>z3g rfl rfl rfl (hP.row (by simp)) ⟨rfl,hP⟩,
  fun _ _ _ hA hP hq=>by cases hq 1 rfl;exact z0m rfl rfl rfl (by kernel_rfl) (rgL2 hA.2.1 hA.2.2.1) (HR.out _ _ _ hP) fun _ hP2=>⟨rfl,hP2⟩,
  fun _ _ _ hA hP _=>zwr rfl rfl hA.1 hA.2.1 ⟨rfl,hP⟩,
  fun _ _ _ hA hP _=>z0a rfl (.inr rfl) hA.1 ⟨rfl,hP⟩,
  trivial⟩
 intro w5 hB5;have HD:=zh (PV.done (rs:=[(g1+1,riO (x0,x1,x2,x3)),(g1,actO ⟨1,(x0,x1,x2,x3),T,M,B,D,N,S,F⟩)]) hB5);clear hB5 ck HT HR H0;go_wp2_with fail;go_ret;exact⟨by first | rfl | simp,HD.out⟩
theorem zr4(w:World)(h:Hand)(b:Nat)(K:List Nat)(s m:St)(f0:Nat)(A:LAct)(h0:A.kd≠0)(h1:A.kd≠1)(hon:h.on=true)(hA:A.Ok)(hP:z96 h.ptr h.on b m w K s)(hfs:s.Fit f0)(hfm:m.Fit f0)(hm:f0<1000000)(he:s.ents=m.ents) :
  Calls Tryz.prog 16 #[.pointer h.ptr,.pointer (some ⟨b,0,none⟩),.agg A.L] w fun e w'=>e= .returned (.bool true)/\POn h b w K (ctSt s A.x A.fv) (z98 m A.x A.fv) w':=by
 have hB:=((QV.start (z5c _ _ _ _) hP).alloc (actO A)).alloc (riO A.x);simp only[World.size_alloc]at hB;have HT:Hid (∀ rs W',PV h b m w K s rs W'->Calls Tryz.prog 25 #[.pointer h.ptr,idV A.x,uV A.fv] W' fun e w'=>e= .returned (.tuple #[uV (ctW s A.x A.fv),.int .i64 (ctE s A.x A.fv)])/\PV h b m w K (ctSt s A.x A.fv) rs w'):=fun rs W' hW=>PV.zr2 hW fun L h1=>zyx W' ⟨h.ptr,h.on,L⟩ s f0 A.x A.fv hon hA.x hA.fv h1 hfs (by omega)
 have HR:Hid (∀ s1 rs W',PV h b m w K s1 rs W'->Calls Tryz.prog 62 #[.pointer (some ⟨b,0,none⟩),idV A.x,uV A.fv] W' fun e w'=>e= .returned (.tuple #[uV (ctW s A.x A.fv),.int .i64 (ctE s A.x A.fv)])/\PV h b (z98 m A.x A.fv) w K s1 rs w'):=fun s1 rs W' hW=>by
  rw[zn6 he,zc1 he];exact PV.zx8 hW fun M h1=>zya W' b M m f0 A.x A.fv hA.x hA.fv h1 hfm (by omega)
 have HB:=zh hB;clear hB hP hfs hfm he hA hon;generalize ctSt s A.x A.fv=s1 at *
 generalize z98 m A.x A.fv=m1 at *
 generalize ctW s A.x A.fv=u1 at *
 generalize ctE s A.x A.fv=aE at *
 obtain⟨kd,⟨x0,x1,x2,x3⟩,T,M,B,D,N,S,F⟩:=A;dsimp only at *
 have d0:(kd==0)=false:=by rw[beq_eq_false_iff_ne];exact h0
 have d1:(kd==1)=false:=by rw[beq_eq_false_iff_ne];exact h1
 clear h0 h1;go_enter Tryz.func16,Tryz.ntmps16;go_upto_region 1 with fail;generalize hwA:w.alloc (.cells (LAct.L ⟨kd,(x0,x1,x2,x3),T,M,B,D,N,S,F⟩) 38)=wA at *
 have hrA:wA.heap[w.heap.size]?=some (actO ⟨kd,(x0,x1,x2,x3),T,M,B,D,N,S,F⟩):=by rw[<- hwA];exact heap_alloc_new w _
 have hzA:wA.heap.size=w.heap.size+1:=by rw[<- hwA];exact World.size_alloc ..
 obtain⟨_,⟨cx0,cx1,cx2,cx3⟩,_⟩:=z8i hrA;clear hwA hrA;go_upto_region 2 with fail;generalize wA.alloc (riO (x0,x1,x2,x3))=w1 at *
 generalize w.heap.size=g1 at *
 clear cx0 cx1 cx2 cx3 hzA;obtain⟨ck,⟨cx0,cx1,cx2,cx3⟩,_,_,_,⟨cf0,cf1,cf2,cf3⟩,_⟩:=z8i (HB.out.row (g:=g1) (o:=actO ⟨kd,(x0,x1,x2,x3),T,M,B,D,N,S,F⟩) (by simp));have HT1:=zh (HT.out _ _ HB.out);clear HB HT;go_wp2_with fail;refine zm HT1.out ?_;rintro e w2 ⟨rfl,hB2⟩;have HB3:=zh (hB2.alloc (uO u1));clear HT1 hB2 ck cx0 cx1 cx2 cx3 cf0 cf1 cf2 cf3;go_upto_region 10 with fail;generalize w2.alloc (uO u1)=w3 at *
 generalize w2.heap.size=g3 at *
 obtain⟨_,_,_,_,_,⟨cf0,cf1,cf2,cf3⟩,_⟩:=z8i (HB3.out.row (g:=g1) (o:=actO ⟨kd,(x0,x1,x2,x3),T,M,B,D,N,S,F⟩) (by simp));obtain⟨i0,i1,i2,i3⟩:=z0g (HB3.out.row (g:=g1+1) (o:=riO (x0,x1,x2,x3)) (by simp));have HR3:=zh (HR.out _ _ _ HB3.out);clear HB3 HR;go_wp2_with fail;refine zm HR3.out ?_;rintro e w4 ⟨rfl,hB4⟩;have HB5:=zh (hB4.alloc (uO u1));clear HR3 hB4 cf0 cf1 cf2 cf3 i0 i1 i2 i3;go_upto_region 11 with fail;generalize w4.alloc (uO u1)=w5 at *
 generalize w4.heap.size=g5 at *
 obtain⟨a0,a1,a2,a3,_⟩:=row4 (HB5.out.row (g:=g3) (o:=uO u1) (by simp));obtain⟨b0,b1,b2,b3,_⟩:=row4 (HB5.out.row (g:=g5) (o:=uO u1) (by simp));have HD:=zh (PV.done HB5.out);have hE:∀ w,(Op.equalIn 10000 24 (uV u1) (uV u1)).run Tryz.prog w= .ok true w:=fun w=>by
  have:=eqU u1 u1 w
  rwa [decide_eq_true rfl]at this
 clear HB5;go_wp2_with fail;go_ret;exact⟨by first | rfl | simp,HD.out⟩
theorem zry(w:World)(h:Hand)(b:Nat)(K:List Nat)(s m:St)(f0 k:Nat)(A:LAct)(hon:h.on=true)(hA:A.Ok)(hP:z96 h.ptr h.on b m w K s)(hfs:s.Fit f0)(hfm:m.Fit f0)(hm:f0<1000000)(hg:AG k s)(he:s.ents=m.ents)(hk:k<100000) :
  Calls Tryz.prog 16 #[.pointer h.ptr,.pointer (some ⟨b,0,none⟩),.agg A.L] w fun e w'=>e= .returned (.bool true)/\POn h b w K (z6g s A) (z6v m A) w':=by
 unfold z6g z6v
 by_cases h0:A.kd=0
 ·rw[if_pos h0,if_pos h0];exact ztf w h b K s m f0 k A h0 hon hA hP hfs hfm hm hg he hk
 ·rw[if_neg h0,if_neg h0]
  by_cases h1:A.kd=1
  ·rw[if_pos h1,if_pos h1];exact ztt w h b K s m f0 k A h1 hon hA hP hfs hfm hm hg he hk
  ·rw[if_neg h1,if_neg h1];exact zr4 w h b K s m f0 A h0 h1 hon hA hP hfs hfm hm he
theorem zv0{n:Nat}{s m:St}(h:AG n s)(he:s.ents=m.ents)(A:LAct):(z6g s A).ents=(z6v m A).ents:=by
 unfold z6g z6v;split
 ·exact zm6 he _ _ _ _ _ _ _ (z90 h.srt _ _ _ _ _ _ _) (z90 (he▸h.srt) _ _ _ _ _ _ _)
 ·split
  ·exact zlv he _
  ·exact zxr he h.srt h.ne _ _
theorem zww{n:Nat}{s:St}(h:AG n s)(hn:n<100000)(A:LAct):AG (n+2) (z6g s A):=by
 unfold z6g;split
 ·exact zrk h hn _ _ _ _ _ _ _
 ·split
  ·exact(zy8 h hn _).mono (by omega)
  ·exact(zzz h _ _).mono (by omega)
theorem znd{s:St}{f:Nat}(hf:s.Fit f)(x:I4)(tt mx:W4)(bk dl tl:Int)(sl:Bool):(mdSt s x tt mx bk dl tl sl).Fit (f+16):=by
 obtain⟨j,hj,h⟩:=zsg x s tt mx bk dl tl sl;unfold mdSt;split
 ·split
  ·exact(h.fit hf).mono (by omega)
  ·rw[(z90 hf.srt x tt mx bk dl tl sl).2];exact hf.mono (by omega)
 ·exact hf.mono (by omega)
theorem zs3{s:St}{f:Nat}(hf:s.Fit f)(A:LAct):(z6g s A).Fit (f+16):=by
 unfold z6g;split
 ·exact znd hf _ _ _ _ _ _ _
 ·split
  ·obtain⟨j,hj,h⟩:=ztn A.x s;exact(h.fit hf).mono (by omega)
  ·obtain⟨j,hj,h⟩:=q06 A.x s A.fv;exact(h.fit hf).mono (by omega)
theorem zp1{s:St}{f:Nat}(hf:s.Fit f)(A:LAct):(z6v s A).Fit (f+16):=by
 unfold z6v;split
 ·exact znd hf _ _ _ _ _ _ _
 ·split
  ·obtain⟨j,hj,h⟩:=ztn A.x s;exact(h.fit hf).mono (by omega)
  ·obtain⟨j,hj,h⟩:=zyu A.x s A.fv;exact(h.fit hf).mono (by omega)
theorem ztk(w:World)(q:Option Addr)(s:St)(t:Nat)(ht1:1<=t)(ht2:t<=255)(ad:Option Addr)(c:Nat)(l:List Int)(hv:z0w w (.slice ad l.length c) l)(hl:l.length<1000000)(hr:∀ n∈l,n<9223372036854775808)(h:z1c w.heap.size w q s):Calls Tryz.prog 63 #[.pointer q,.int .i64 t,.slice ad l.length c] w fun e w'=>e= .returned (.int .i64 (((ends s t l).2-(ends s t l).1:Nat):Int))/\Below w.heap.size w w':=by
 have HO:=zh (zk4 w q s t ht1 ht2 ad c l hv hl hr h);have HL:Hid (∀ w1,Below w.heap.size w w1->Calls Tryz.prog 139 #[.agg (qL q t (.slice ad l.length c) (ends s t l).1 (ends s t l).2)] w1 fun e w'=>e= .returned (.int .i64 (((ends s t l).2-(ends s t l).1:Nat):Int))/\Below w.heap.size w w'):=fun w1 hb=>(zfx w1 q t _ _ _ (z5o s t l) (zbd s t l).2).mono fun e w' ⟨he,h1⟩=>⟨he,z0b hb h1⟩
 clear h hv hr;generalize (ends s t l).1=x at *
 generalize (ends s t l).2=y at *
 go_enter Tryz.func63,Tryz.ntmps63;go_wp2_with fail;refine zm HO.out ?_;rintro e w1 ⟨rfl,hb1⟩;go_wp2_with fail;refine zm (HL.out _ hb1) ?_;rintro e w2 ⟨rfl,hb2⟩;go_wp2_with fail;go_ret;exact⟨rfl,hb2⟩
theorem znn(w:World)(q:Option Addr)(s:St)(a b:Int)(ha:a<9223372036854775808)(hb:b<9223372036854775808)(h:∀ w1,Below w.heap.size w w1->z1c w1.heap.size w1 q s):Calls Tryz.prog 17 #[.pointer q,.int .i64 a,.int .i64 b] w fun e w'=>e= .returned (.int .i64 (((ends s 33 [a,b]).2-(ends s 33 [a,b]).1:Nat):Int))/\Below w.heap.size w w':=by
 have hb0:=z00 (Below.refl _ w) (.cells #[.int .i64 a,.int .i64 b] 3);have HL:Hid (Calls Tryz.prog 63 #[.pointer q,.int .i64 33,.slice (some ⟨w.heap.size,0,none⟩) 2 2] (w.alloc (.cells #[.int .i64 a,.int .i64 b] 3)) fun e w'=>e= .returned (.int .i64 (((ends s 33 [a,b]).2-(ends s 33 [a,b]).1:Nat):Int))/\Below w.heap.size w w'):=
  (ztk _ q s 33 (by decide) (by decide) _ 2 [a,b] (z2u _ _ _ _ (heap_alloc_new w (.cells #[.int .i64 a,.int .i64 b] 3))) (by simp) (fun m hm=>by
   simp only[List.mem_cons,List.not_mem_nil,or_false]at hm
   rcases hm with rfl | rfl<;>assumption) (h _ hb0)).mono fun e w' ⟨he,h1⟩=>⟨he,z0b hb0 h1⟩
 clear h;generalize (ends s 33 [a,b]).2-(ends s 33 [a,b]).1=n at *
 go_enter Tryz.func17,Tryz.ntmps17;go_wp2_with fail;refine zm HL.out ?_;rintro e w1 ⟨rfl,hb1⟩;go_wp2_with fail;go_ret;exact⟨rfl,hb1⟩
def gva:St:=mdSt z2g x7 z9i oneW 3 5 0 false
def gvb:St:=mtSt gva x7
theorem zyj:pend gva x7=(1,z9i,8):=by kernel_rfl
theorem zzl:cur gvb x7=z9i:=by kernel_rfl
theorem q04:z2p (gvb.val (keyL 32 [7,1]))=z9i:=by kernel_rfl
theorem zze:mdN z2g x7 z9i oneW 3 5 0 false=8:=by kernel_rfl
theorem zzx:mdE z2g x7 z9i oneW 3 5 0 false=0:=by kernel_rfl
theorem zvn:Und z2g (mdTS z2g x7 z9i oneW 3 5 0 false):=z90 AG.empty.srt _ _ _ _ _ _ _
theorem zj9:gva.Fit 20:=by
 obtain⟨j,hj,h⟩:=zsg x7 z2g z9i oneW 3 5 0 false;unfold gva mdSt;split
 ·split
  ·exact(h.fit St.Fit.empty).mono (by omega)
  ·rw[zvn.2];exact St.Fit.empty.mono (by omega)
 ·exact St.Fit.empty.mono (by omega)
theorem znh:gvb.Fit 40:=by
 obtain⟨j,hj,h⟩:=ztn x7 gva;exact(h.fit zj9).mono (by omega)
theorem zo1(w:World)(b:Nat)(L:List Nat)(h:SRep w b z2g L):Calls Tryz.prog 19 #[.pointer (some ⟨b,0,none⟩),idV x7,chV z9i oneW 3 5 0 false] w (z2m w b L (.tuple #[.int .i64 8,.int .i64 0]) gva):=by
 have hC:=zca w ⟨some ⟨b,0,none⟩,true,L⟩ z2g 0 3 5 0 x7 z9i oneW false rfl zse zv5 zo0 (.inl ⟨rfl,b,rfl,h⟩) St.Fit.empty (by decide) fun _ _=>zjx AG.empty (by decide) St.Fit.empty (by decide) _ _ _ _ _ _ _
 rw[zze,zzx]at hC;exact hC.mono fun e w' ⟨he,hq⟩=>⟨he,zqz hq⟩
theorem zpb(w:World)(b:Nat)(L:List Nat)(h:SRep w b gva L):Calls Tryz.prog 23 #[.pointer (some ⟨b,0,none⟩),idV x7] w fun e W'=>e= .returned (.bool true)/\On w b L gvb W':=by
 have hC:=zd6 w ⟨some ⟨b,0,none⟩,true,L⟩ gva 20 x7 rfl zse (.inl ⟨rfl,b,rfl,h⟩) zj9 (by decide) (Nat.lt_of_le_of_lt ((zb2 (zrk AG.empty (by decide) x7 z9i oneW 3 5 0 false) x7).eb _ _) (by decide));rw[zyj]at hC;exact hC.mono fun e w' ⟨he,hq⟩=>⟨he,zqz hq⟩
theorem zfk(w:World):Calls Tryz.prog 14 #[] w fun e w'=>e= .returned (.bool true)/\Below w.heap.size w w':=by
 have HN:Hid (Calls Tryz.prog 15 #[] w fun e w1=>∃ b L,e= .returned (.pointer (some ⟨b,0,none⟩))/\SRep w1 b z2g L/\Below w.heap.size w w1/\∀ k∈L,w.heap.size<=k):=(new_any w).mono fun e w1 ⟨b,L,he,hS,hF,hL⟩=>⟨b,L,he,hS,⟨hF.os,hF.tape,hF.output,hF.size,fun k hk=>hF.block k hk (fun h=>h)⟩,hL⟩
 have HONE:=zh (fun W=>one_any W);have hbuild:∀ w,(Instr.build 36 #[(0,.agg #[.int .u64 500000000000000000,.int .u64 0,.int .u64 0,.int .u64 0]),(1,.agg #[.int .u64 1000000000000000000,.int .u64 0,.int .u64 0,.int .u64 0]),(2,.int .i64 3),(3,.int .i64 5)]).run Tryz.prog w= .ok (.agg #[.int .u64 500000000000000000,.int .u64 0,.int .u64 0,.int .u64 0,.int .u64 1000000000000000000,.int .u64 0,.int .u64 0,.int .u64 0,.int .i64 3,.int .i64 5,.int .i64 0,.bool false]) w:=fun w=>by kernel_rfl
 have hE:∀ w,(Op.equalIn 10000 24 (.agg #[.int .u64 500000000000000000,.int .u64 0,.int .u64 0,.int .u64 0]) (.agg #[.int .u64 500000000000000000,.int .u64 0,.int .u64 0,.int .u64 0])).run Tryz.prog w= .ok true w:=fun w=>eqU z9i z9i w
 go_enter Tryz.func14,Tryz.ntmps14;go_wp2_with fail;refine zm HN.out ?_;rintro e w1 ⟨b,L,rfl,hS,hB1,hL⟩;have hW0:=z00 (z00 (Below.refl _ w1) (.cells #[.int .u64 500000000000000000,.int .u64 0,.int .u64 0,.int .u64 0] 24)) (.cells #[.int .i64 7,.int .i64 1,.int .i64 9,.int .i64 0] 34);have hS0:=hS.below hW0;have hlt:=hS.lt;have hrH:((w1.alloc (.cells #[.int .u64 500000000000000000,.int .u64 0,.int .u64 0,.int .u64 0] 24)).alloc (.cells #[.int .i64 7,.int .i64 1,.int .i64 9,.int .i64 0] 34)).heap[w1.heap.size]?=some (.cells #[.int .u64 500000000000000000,.int .u64 0,.int .u64 0,.int .u64 0] 24 (0,0)):=by
  rw[heap_alloc_old _ _ (by simp)];exact heap_alloc_new w1 _
 have hrX:((w1.alloc (.cells #[.int .u64 500000000000000000,.int .u64 0,.int .u64 0,.int .u64 0] 24)).alloc (.cells #[.int .i64 7,.int .i64 1,.int .i64 9,.int .i64 0] 34)).heap[w1.heap.size+1]?=some (.cells #[.int .i64 7,.int .i64 1,.int .i64 9,.int .i64 0] 34 (0,0)):=by
  have:=heap_alloc_new (w1.alloc (.cells #[.int .u64 500000000000000000,.int .u64 0,.int .u64 0,.int .u64 0] 24)) (.cells #[.int .i64 7,.int .i64 1,.int .i64 9,.int .i64 0] 34);rw[World.size_alloc]at this;exact this
 have hsz:((w1.alloc (.cells #[.int .u64 500000000000000000,.int .u64 0,.int .u64 0,.int .u64 0] 24)).alloc (.cells #[.int .i64 7,.int .i64 1,.int .i64 9,.int .i64 0] 34)).heap.size=w1.heap.size+2:=by simp
 have HOK:Hid (∀ W,On ((w1.alloc (.cells #[.int .u64 500000000000000000,.int .u64 0,.int .u64 0,.int .u64 0] 24)).alloc (.cells #[.int .i64 7,.int .i64 1,.int .i64 9,.int .i64 0] 34)) b L gvb W->Below w.heap.size w W):=fun W hO=>by
  obtain⟨L',hS',st⟩:=hO;have hb:=z0b hB1 hW0;refine⟨st.fr.os.trans hb.os,st.fr.tape.trans hb.tape,st.fr.output.trans hb.output,Nat.le_trans hb.size st.fr.size,fun k hk => ?_⟩;rw[st.fr.block k (Nat.lt_of_lt_of_le hk hb.size) (fun hm=>absurd (hL k hm) (by omega))];exact hb.block k hk
 generalize hw2:((w1.alloc (.cells #[.int .u64 500000000000000000,.int .u64 0,.int .u64 0,.int .u64 0] 24)).alloc (.cells #[.int .i64 7,.int .i64 1,.int .i64 9,.int .i64 0] 34))=w2 at *
 have HF:Hid (∀ s' W,On w2 b L s' W->LvC w1.heap.size W):=fun s' W hO=>by
  have n1:w1.heap.size∉L:=fun hm=>absurd (hlt _ hm) (by omega)
  have n2:w1.heap.size+1∉L:=fun hm=>absurd (hlt _ hm) (by omega)
  have q1:=(hO.heap (by omega) n1).trans hrH;have q2:=(hO.heap (by omega) n2).trans hrX;exact⟨⟨by rw[cell_of_row _ _ _ _ _ _ q1];rfl,by rw[cell_of_row _ _ _ _ _ _ q1];rfl,by rw[cell_of_row _ _ _ _ _ _ q1];rfl,by rw[cell_of_row _ _ _ _ _ _ q1];rfl⟩,by rw[cell_of_row _ _ _ _ _ _ q2];rfl,by rw[cell_of_row _ _ _ _ _ _ q2];rfl,by rw[cell_of_row _ _ _ _ _ _ q2];rfl,by rw[cell_of_row _ _ _ _ _ _ q2];rfl⟩
 have HO0:=zh (On.start (w:=w2) hS0);have HO0d:=zh HO0.out.drew;have HMOD:Hid (∀ W,On w2 b L z2g W->Calls Tryz.prog 19 #[.pointer (some ⟨b,0,none⟩),.agg #[.int .i64 7,.int .i64 1,.int .i64 9,.int .i64 0],.agg #[.int .u64 500000000000000000,.int .u64 0,.int .u64 0,.int .u64 0,.int .u64 1000000000000000000,.int .u64 0,.int .u64 0,.int .u64 0,.int .i64 3,.int .i64 5,.int .i64 0,.bool false]] W fun e W'=>e= .returned (.tuple #[.int .i64 8,.int .i64 0])/\On w2 b L gva W'):=fun W hO=>hO.call fun L' hS'=>zo1 W b L' hS'
 have HPEN:Hid (∀ W,On w2 b L gva W->Calls Tryz.prog 20 #[.pointer (some ⟨b,0,none⟩),.agg #[.int .i64 7,.int .i64 1,.int .i64 9,.int .i64 0]] W fun e W'=>e= .returned (.tuple #[.int .i64 1,.agg #[.int .u64 500000000000000000,.int .u64 0,.int .u64 0,.int .u64 0],.int .i64 8])/\On w2 b L gva W'):=fun W hO=>(z5p W _ gva x7 zse (hO.read zj9 (by decide))).mono fun e W' ⟨he,hb⟩=>⟨by rw[he,zyj];rfl,hO.below hb⟩
 have HMAT:Hid (∀ W,On w2 b L gva W->Calls Tryz.prog 23 #[.pointer (some ⟨b,0,none⟩),.agg #[.int .i64 7,.int .i64 1,.int .i64 9,.int .i64 0]] (W.alloc (.cells #[.int .u64 500000000000000000,.int .u64 0,.int .u64 0,.int .u64 0] 24)) fun e W'=>e= .returned (.bool true)/\On w2 b L gvb W'/\W'.heap[W.heap.size]?=some (.cells #[.int .u64 500000000000000000,.int .u64 0,.int .u64 0,.int .u64 0] 24 (0,0))):=fun W hO=>by
  obtain⟨L1,hS1,st1⟩:=hO;have hS2:=hS1.alloc (.cells #[.int .u64 500000000000000000,.int .u64 0,.int .u64 0,.int .u64 0] 24);have st:=st1.trans (⟨Fr.of_below (z00 (Below.refl _ W) (.cells #[.int .u64 500000000000000000,.int .u64 0,.int .u64 0,.int .u64 0] 24)) _,fun _ h => .inl h⟩:Step W L1 _ L1);exact(zpb _ b L1 hS2).mono fun e W' ⟨he,L2,hS3,st2⟩=>⟨he,⟨L2,hS3,st.trans st2⟩,(st2.fr.block _ (by simp) (fun hm=>absurd (hS1.lt _ hm) (by omega))).trans (heap_alloc_new W _)⟩
 have HCUR:Hid (∀ W,On w2 b L gvb W->Calls Tryz.prog 18 #[.pointer (some ⟨b,0,none⟩),.agg #[.int .i64 7,.int .i64 1,.int .i64 9,.int .i64 0]] W fun e W'=>e= .returned (.agg #[.int .u64 500000000000000000,.int .u64 0,.int .u64 0,.int .u64 0])/\Below W.heap.size W W'):=fun W hO=>(z5e W _ gvb x7 zse (hO.read znh (by decide))).mono fun e W' ⟨he,hb⟩=>⟨by rw[he,zzl];rfl,hb⟩
 have HENC:Hid (∀ W,On w2 b L gvb W->Calls Tryz.prog 27 #[.pointer (some ⟨b,0,none⟩),.int .i64 7,.int .i64 1] W fun e W'=>e= .returned (.agg #[.int .u64 500000000000000000,.int .u64 0,.int .u64 0,.int .u64 0])/\Below W.heap.size W W'):=fun W hO=>(zdy W _ gvb 7 1 (by decide) (by decide) (hO.read znh (by decide))).mono fun e W' ⟨he,hb⟩=>⟨by rw[he,q04];rfl,hb⟩
 obtain⟨⟨h0,h1,h2,h3⟩,x0,x1,x2,x3⟩:=HF.out _ _ HO0.out;clear hS hW0 hS0 hrH hrX hL hB1 HN;have HW2:=zh hw2;clear hw2;go_wp2_with fail;rw[HW2.out]
 go_region_held3 (fun w'=>w'.cell? ⟨w1.heap.size,0,none⟩=some (.int .u64 500000000000000000)/\w'.cell? ⟨w1.heap.size,1,none⟩=some (.int .u64 0)/\w'.cell? ⟨w1.heap.size,2,none⟩=some (.int .u64 0)/\w'.cell? ⟨w1.heap.size,3,none⟩=some (.int .u64 0)/\w'.cell? ⟨w1.heap.size+1,0,none⟩=some (.int .i64 7)/\w'.cell? ⟨w1.heap.size+1,1,none⟩=some (.int .i64 1)/\w'.cell? ⟨w1.heap.size+1,2,none⟩=some (.int .i64 9)/\w'.cell? ⟨w1.heap.size+1,3,none⟩=some (.int .i64 0)) (first | assumption | go_keep)
  (first
   | (go_at_call 24;refine zm (HONE.out _) ?_;rintro e w3 ⟨rfl,hb3⟩;have HO3:=zh (HO0d.out.below hb3);obtain⟨⟨j0,j1,j2,j3⟩,k0,k1,k2,k3⟩:=HF.out _ _ HO3.out)
   | (go_at_call 19;refine zm (HMOD.out _ HO3.out) ?_;rintro e w4 ⟨rfl,hO4⟩;have HO4:=zh hO4;obtain⟨⟨l0,l1,l2,l3⟩,m0,m1,m2,m3⟩:=HF.out _ _ hO4;clear hO4))
 all_goals
  have HP4:=zh (HPEN.out _ HO4.out);go_wp2_with fail;refine zm HP4.out ?_;rintro e w5 ⟨rfl,hO5⟩;have HM5:=zh (HMAT.out _ hO5);have HO5:=zh (hO5.alloc (.cells #[.int .u64 500000000000000000,.int .u64 0,.int .u64 0,.int .u64 0] 24));obtain⟨_,n0,n1,n2,n3⟩:=HF.out _ _ HO5.out;clear hO5 HP4;go_wp2_with fail;refine zm HM5.out ?_;rintro e w6 ⟨rfl,hO6,hP6⟩;have HO6:=zh hO6.drew;have HP6:Hid (w6.drew.heap[w5.heap.size]?=some (.cells #[.int .u64 500000000000000000,.int .u64 0,.int .u64 0,.int .u64 0] 24 (0,0))):=hP6;have HPC:Hid (∀ W:World,W.heap[w5.heap.size]?=some (.cells #[.int .u64 500000000000000000,.int .u64 0,.int .u64 0,.int .u64 0] 24 (0,0))->W.cell? ⟨w5.heap.size,0,none⟩=some (.int .u64 500000000000000000)/\W.cell? ⟨w5.heap.size,1,none⟩=some (.int .u64 0)/\W.cell? ⟨w5.heap.size,2,none⟩=some (.int .u64 0)/\W.cell? ⟨w5.heap.size,3,none⟩=some (.int .u64 0)):=fun W h=>⟨by rw[cell_of_row _ _ _ _ _ _ h];rfl,by rw[cell_of_row _ _ _ _ _ _ h];rfl,by rw[cell_of_row _ _ _ _ _ _ h];rfl,by rw[cell_of_row _ _ _ _ _ _ h];rfl⟩
  have HPB:Hid (∀ W W':World,W.heap[w5.heap.size]?=some (.cells #[.int .u64 500000000000000000,.int .u64 0,.int .u64 0,.int .u64 0] 24 (0,0))->Below W.heap.size W W'->W'.heap[w5.heap.size]?=some (.cells #[.int .u64 500000000000000000,.int .u64 0,.int .u64 0,.int .u64 0] 24 (0,0))):=fun W W' h hb=>(hb.block _ (Array.getElem?_eq_some_iff.1 h).1).trans h
  obtain⟨⟨p0,p1,p2,p3⟩,q0,q1,q2,q3⟩:=HF.out _ _ hO6;obtain⟨r0,r1,r2,r3⟩:=HPC.out _ hP6;clear hO6 hP6 HM5 HMOD HPEN HMAT HO0 HO0d HO4 HO5 HONE;go_wp2_with fail
  go_region_held3 (fun w'=>w'.cell? ⟨w1.heap.size,0,none⟩=some (.int .u64 500000000000000000)/\w'.cell? ⟨w1.heap.size,1,none⟩=some (.int .u64 0)/\w'.cell? ⟨w1.heap.size,2,none⟩=some (.int .u64 0)/\w'.cell? ⟨w1.heap.size,3,none⟩=some (.int .u64 0)/\w'.cell? ⟨w1.heap.size+1,0,none⟩=some (.int .i64 7)/\w'.cell? ⟨w1.heap.size+1,1,none⟩=some (.int .i64 1)/\w'.cell? ⟨w1.heap.size+1,2,none⟩=some (.int .i64 9)/\w'.cell? ⟨w1.heap.size+1,3,none⟩=some (.int .i64 0)/\w'.cell? ⟨w5.heap.size,0,none⟩=some (.int .u64 500000000000000000)/\w'.cell? ⟨w5.heap.size,1,none⟩=some (.int .u64 0)/\w'.cell? ⟨w5.heap.size,2,none⟩=some (.int .u64 0)/\w'.cell? ⟨w5.heap.size,3,none⟩=some (.int .u64 0)) (first | assumption | go_keep)
   (first
    | (go_at_call 18;refine zm (HCUR.out _ HO6.out) ?_;rintro e w7 ⟨rfl,hb7⟩;have HO7:=zh (HO6.out.below hb7);have HP7:=zh (HPB.out _ _ HP6.out hb7);obtain⟨⟨s0,s1,s2,s3⟩,t0,t1,t2,t3⟩:=HF.out _ _ HO7.out;obtain⟨u0,u1,u2,u3⟩:=HPC.out _ HP7.out)
    | (go_at_call 27;refine zm (HENC.out _ HO7.out) ?_;rintro e w8 ⟨rfl,hb8⟩;have HO8:=zh (HO7.out.below hb8);have HP8:=zh (HPB.out _ _ HP7.out hb8);obtain⟨⟨v0,v1,v2,v3⟩,y0,y1,y2,y3⟩:=HF.out _ _ HO8.out;obtain⟨z0,z1,z2,z3⟩:=HPC.out _ HP8.out))
  all_goals
   go_wp2_with fail;go_ret;exact⟨rfl,HOK.out _ HO8.out⟩
structure AT (w w3:World) (q:Option Addr) (b k:Nat) (s t:St) (rs:List (Nat × Obj)) (W:World):Prop where
 pv:∃ K,(∀ j∈K,w.heap.size<=j)/\Below w.heap.size w w3/\PV ⟨q,true,[]⟩ b t w3 K s rs W
 fs:s.Fit (16*k)
 ft:t.Fit (16*k)
 he:s.ents=t.ents
 hg:AG (2*k) s
section
variable {w w3 W W':World} {q:Option Addr} {b k:Nat} {s t:St} {rs rs':List (Nat × Obj)}
theorem AT.alloc(h:AT w w3 q b k s t rs W)(o:Obj):AT w w3 q b k s t ((W.heap.size,o)::rs) (W.alloc o):=by
 obtain⟨K,a,c,h1⟩:=h.pv;exact⟨⟨K,a,c,QV.alloc h1 o⟩,h.fs,h.ft,h.he,h.hg⟩
theorem AT.less(h:AT w w3 q b k s t rs W)(hs:∀ x,x∈rs'->x∈rs):AT w w3 q b k s t rs' W:=by
 obtain⟨K,a,c,h1⟩:=h.pv;exact⟨⟨K,a,c,QV.less h1 hs⟩,h.fs,h.ft,h.he,h.hg⟩
theorem AT.row(h:AT w w3 q b k s t rs W){g:Nat}{o:Obj}(hm:(g,o)∈rs):W.heap[g]?=some o:=by
 obtain⟨K,a,c,h1⟩:=h.pv;exact QV.row h1 hm
theorem AT.z2o(h:AT w w3 q b k s t rs W):Below w.heap.size w W:=by
 obtain⟨K,a,c,h1⟩:=h.pv;obtain⟨K',_,st⟩:=QV.done h1
 exact(zcl c a st).1
theorem AT.act(h:AT w w3 q b k s t rs W)(hk:k<1000)(A:LAct)(hA:A.Ok):Calls Tryz.prog 16 #[.pointer q,.pointer (some ⟨b,0,none⟩),.agg A.L] W fun e W'=>e= .returned (.bool true)/\AT w w3 q b (k+1) (z6g s A) (z6v t A) rs W':=by
 obtain⟨K,a,c,h1⟩:=h.pv;have hC:Calls Tryz.prog 16 #[.pointer q,.pointer (some ⟨b,0,none⟩),.agg A.L] W fun e W'=>e= .returned (.bool true)/\PV ⟨q,true,[]⟩ b (z6v t A) w3 K (z6g s A) rs W':=
  QV.zz1 h1 (z5c _ _ _ _) fun K' hK'=>zry W ⟨q,true,[]⟩ b K' s t (16*k) (2*k) A rfl hA hK' h.fs h.ft (by omega) h.hg h.he (by omega)
 exact hC.mono fun e W' ⟨he,h2⟩=>⟨he,⟨K,a,c,h2⟩,(zs3 h.fs A).mono (by omega),(zp1 h.ft A).mono (by omega),zv0 h.hg h.he A,(zww h.hg (by omega) A).mono (by omega)⟩
end
theorem at_new(w:World):Calls Tryz.prog 15 #[] w fun e w2=>∃ q,e= .returned (.pointer q)/\∀ m,m=w2.heap.size->AT w (w2.alloc (.cells #[.slice none 0 0,.slice none 0 0] 45)) q m 0 z2g z2g [] (w2.alloc (.cells #[.slice none 0 0,.slice none 0 0] 45)):=by
 refine(newB w).mono fun e w2 ⟨b,L,he,hS,hb,hL⟩=>⟨_,he,fun m hm => ?_⟩
 subst hm;have hbA:=z00 (Below.refl w2.heap.size w2) (.cells #[.slice none 0 0,.slice none 0 0] 45);refine⟨⟨L ++ [w2.heap.size],fun j hj => ?_,z0b hb hbA,QV.start (z5c _ _ _ _) ⟨L,[w2.heap.size],rfl,fun k hk hm => ?_,.inl ⟨rfl,b,rfl,hS.below hbA⟩,znm w2⟩⟩,St.Fit.empty,St.Fit.empty,rfl,AG.empty⟩
 ·rcases List.mem_append.1 hj with h | h
  ·exact hL j h
  ·rw[List.mem_singleton]at h;subst h;exact hb.size
 ·rw[List.mem_singleton]at hm;subst hm;exact Nat.lt_irrefl _ (hS.lt _ hk)
end Go.Proofs.YtnkilceibkkjlaaGreat
