/- What is proved here: ExitPays' walk. Conditions: words below 2^64. the given statement ExitPaysSaid: the law ExitPays returns true at every input, and what was there when it was called stands. -/
import Derived.Test.YtnkilceibkkjlaaGreatFExPL
import Derived.Test.YtnkilceibkkjlaaGreatFExLv
import Derived.Test.YtnkilceibkkjlaaGreatFRQuo
import Derived.Test.YtnkilceibkkjlaaGreatFRow
import Derived.Test.YtnkilceibkkjlaaGreatFOpenA24
set_option maxRecDepth 100000
set_option maxHeartbeats 16000000
namespace Go.Proofs.YtnkilceibkkjlaaGreat
open Go.RowKit
theorem exitPays_walk (x:Ex) (m n:W4) (hx:x.Ok) (hm:m.Ok) (hn:n.Ok) (w:World) :
  Calls Tryz.prog 3 #[.agg x.L,uV m,uV n] w fun e w'=>e = .returned (.bool true)∧Below w.heap.size w w':=by
 have hB:=(((BV.start w).alloc (exO x)).alloc (uO m)).alloc (uO n)
 simp only [World.size_alloc] at hB
 have HLV:Hid (∀ rs W,BV w rs W→Calls Tryz.prog 12 #[] W fun e w'=>e = .returned (.bool true)∧BV w rs w'):=fun rs W h=>h.reads (lives24 W)
 have HC1:Hid (∀ rs W,BV w rs W→Calls Tryz.prog 10 #[uV m,uV n] W fun e w'=>e = .returned (.int .i64 (uCmp m n))∧BV w rs w'):=fun rs W h=>h.reads (rcmp_u m n hm hn W)
 have HC2:Hid (∀ rs W,BV w rs W→Calls Tryz.prog 10 #[uV n,uV x.mx] W fun e w'=>e = .returned (.int .i64 (uCmp n x.mx))∧BV w rs w'):=fun rs W h=>h.reads (rcmp_u n x.mx hn hx.mx W)
 have HC3:Hid (∀ rs W,BV w rs W→Calls Tryz.prog 10 #[uV (paysW x m),uV (paysW x n)] W fun e w'=>e = .returned (.int .i64 (uCmp (paysW x m) (paysW x n)))∧BV w rs w'):=fun rs W h=>h.reads (rcmp_u _ _ (paysW_ok hx.wo _) (paysW_ok hx.wo _) W)
 have HC4:Hid (∀ rs W,BV w rs W→Calls Tryz.prog 10 #[uV (paysW x n),uV x.wo] W fun e w'=>e = .returned (.int .i64 (uCmp (paysW x n) x.wo))∧BV w rs w'):=fun rs W h=>h.reads (rcmp_u _ _ (paysW_ok hx.wo _) hx.wo W)
 have HAM:Hid (∀ rs W,BV w rs W→Calls Tryz.prog 11 #[uV x.wo] W fun e w'=>e = .returned (.bool (decide (uN x.wo < M128)))∧BV w rs w'):=fun rs W h=>h.reads (wamount_any x.wo hx.wo W)
 have HP1:Hid (∀ W,Calls Tryz.prog 13 #[.agg x.L,uV m] W fun e w'=>e = .returned (uV (paysW x m))∧Below W.heap.size W w'):=pays_any x m hx.wo hx.mx hm
 have HP2:Hid (∀ W,Calls Tryz.prog 13 #[.agg x.L,uV n] W fun e w'=>e = .returned (uV (paysW x n))∧Below W.heap.size W w'):=pays_any x n hx.wo hx.mx hn
 have HP3:Hid (∀ W,Calls Tryz.prog 13 #[.agg x.L,uV x.mx] W fun e w'=>e = .returned (uV (paysW x x.mx))∧Below W.heap.size W w'):=pays_any x x.mx hx.wo hx.mx hx.mx
 have hlaw:¬ 0 < uCmp m n→¬ 0 < uCmp n x.mx→¬ 0 < uCmp (paysW x m) (paysW x n)∧¬ 0 < uCmp (paysW x n) x.wo∧(x.op=0∨x.mx≠(0,0,0,0)→paysW x x.mx=x.wo)∧(x.op=0→paysW x m=x.wo):=fun h1 h2=>by
  rw [uCmp_gt0,Nat.not_lt] at h1 h2
  have h3:=pays_law x m n hx.wo h1 h2
  rw [uCmp_gt0,uCmp_gt0,Nat.not_lt,Nat.not_lt]
  exact h3
 have HL:=Lib.hid hlaw
 have HB:=Lib.hid hB
 clear hlaw hB hx hm hn
 generalize uCmp (paysW x m) (paysW x n)=c3 at *
 generalize uCmp (paysW x n) x.wo=c4 at *
 generalize uCmp m n=c1 at *
 generalize uCmp n x.mx=c2 at *
 generalize paysW x x.mx=pc at *
 generalize paysW x n=pb at *
 generalize paysW x m=pa at *
 generalize decide (uN x.wo < M128)=am at *
 obtain ⟨xs,xo,xt,xb,W,M⟩:=x
 dsimp only [exO,Ex.L] at HL HB HC2 HC4 HAM HP1 HP2 HP3 ⊢
 go_enter Tryz.func3,Tryz.ntmps3
 go_upto_region 1 with fail
 generalize hw1:((w.alloc (.cells #[.int .i64 xs,.int .i64 xo,.int .i64 xt,.int .i64 xb,.int .u64 W.1,.int .u64 W.2.1,.int .u64 W.2.2.1,.int .u64 W.2.2.2,.int .u64 M.1,.int .u64 M.2.1,.int .u64 M.2.2.1,.int .u64 M.2.2.2] 26)).alloc (uO m)).alloc (uO n)=w1 at *
 clear hw1
 obtain ⟨m0,m1,m2,m3,_⟩:=row4 (HB.out.row (g:=w.heap.size+1) (o:=uO m) (by simp))
 obtain ⟨n0,n1,n2,n3,_⟩:=row4 (HB.out.row (g:=w.heap.size+1+1) (o:=uO n) (by simp))
 have HC:=Lib.hid (HC1.out _ _ HB.out)
 clear HB HC1
 go_wp2_with fail
 refine Calls.mono HC.out ?_
 rintro e w2 ⟨rfl,hB2⟩
 clear HC m0 m1 m2 m3 n0 n1 n2 n3
 by_cases g1:0 < c1
 ·have HV:=Lib.hid (HLV.out _ _ hB2)
  clear hB2 HC2 HC3 HC4 HAM HP1 HP2 HP3 HL HLV
  go_wp2_with fail
  refine Calls.mono HV.out ?_
  rintro e w3 ⟨rfl,hB3⟩
  have HBL:=Lib.hid (BV.bl hB3)
  clear hB3 HV
  go_wp2_with fail
  go_ret
  exact ⟨rfl,HBL.out⟩
 ·obtain ⟨n0,n1,n2,n3,_⟩:=row4 (hB2.row (g:=w.heap.size+1+1) (o:=uO n) (by simp))
  obtain ⟨⟨k0,k1,k2,k3⟩,⟨p0,p1,p2,p3⟩,⟨q0,q1,q2,q3⟩⟩:=rowE (x:=⟨xs,xo,xt,xb,W,M⟩) (hB2.row (g:=w.heap.size) (o:=(.cells #[.int .i64 xs,.int .i64 xo,.int .i64 xt,.int .i64 xb,.int .u64 W.1,.int .u64 W.2.1,.int .u64 W.2.2.1,.int .u64 W.2.2.2,.int .u64 M.1,.int .u64 M.2.1,.int .u64 M.2.2.1,.int .u64 M.2.2.2] 26)) (by simp))
  have HL:=Lib.hid (HL.out (Int.not_lt.1 g1))
  have HC:=Lib.hid (HC2.out _ _ hB2)
  clear hB2 HC2
  go_wp2_with fail
  refine Calls.mono HC.out ?_
  rintro e w3 ⟨rfl,hB3⟩
  clear HC n0 n1 n2 n3 k0 k1 k2 k3 p0 p1 p2 p3 q0 q1 q2 q3
  by_cases g2:0 < c2
  ·have HV:=Lib.hid (HLV.out _ _ hB3)
   clear hB3 HC3 HC4 HAM HP1 HP2 HP3 HL HLV
   go_wp2_with fail
   refine Calls.mono HV.out ?_
   rintro e w4 ⟨rfl,hB4⟩
   have HBL:=Lib.hid (BV.bl hB4)
   clear hB4 HV
   go_wp2_with fail
   go_ret
   exact ⟨rfl,HBL.out⟩
  ·obtain ⟨l1,l2,l3,l4⟩:=HL.out (Int.not_lt.1 g2)
   have g3:=Int.not_lt.2 l1
   have g4:=Int.not_lt.2 l2
   have HG34:=Lib.hid (And.intro g3 g4)
   have HL:=Lib.hid (And.intro l3 l4)
   clear l1 l2 l3 l4 g3 g4
   obtain ⟨⟨k0,k1,k2,k3⟩,⟨p0,p1,p2,p3⟩,⟨q0,q1,q2,q3⟩⟩:=rowE (x:=⟨xs,xo,xt,xb,W,M⟩) (hB3.row (g:=w.heap.size) (o:=(.cells #[.int .i64 xs,.int .i64 xo,.int .i64 xt,.int .i64 xb,.int .u64 W.1,.int .u64 W.2.1,.int .u64 W.2.2.1,.int .u64 W.2.2.2,.int .u64 M.1,.int .u64 M.2.1,.int .u64 M.2.2.1,.int .u64 M.2.2.2] 26)) (by simp))
   have HC:=Lib.hid (HAM.out _ _ hB3)
   clear hB3 HAM
   go_wp2_with fail
   refine Calls.mono HC.out ?_
   rintro e w4 ⟨rfl,hB4⟩
   clear HC k0 k1 k2 k3 p0 p1 p2 p3 q0 q1 q2 q3
   cases am with
   | false =>
    have HV:=Lib.hid (HLV.out _ _ hB4)
    clear hB4 HC3 HC4 HP1 HP2 HP3 HL HLV
    go_wp2_with fail
    refine Calls.mono HV.out ?_
    rintro e w5 ⟨rfl,hB5⟩
    have HBL:=Lib.hid (BV.bl hB5)
    clear hB5 HV
    go_wp2_with fail
    go_ret
    exact ⟨rfl,HBL.out⟩
   | true =>
    have HQ:=Lib.hid hB4
    have HB0:=Lib.hid (bl_drew (Below.refl w4.heap.size w4))
    clear hB4
    go_upto_region 3 with fail
    clear g1 g2
    refine wp_region_rely [[],[],[0,1],[],[],[0,1,2,3,4],[],[],[7],[0,1,2,3,4,5,6,7,8],[],[],[],[0,1,2,3,4,5,6,7,8,9,10,11,12],[0,1,2,3,4,5,6,7,8,9,10,11,12,13],[0,1,2,3,4,5,6,7,8,9,10,11,12,13,14]]
     [rgC (Below w4.heap.size w4),rgV 0 (.agg #[.int .i64 xs,.int .i64 xo,.int .i64 xt,.int .i64 xb,.int .u64 W.1,.int .u64 W.2.1,.int .u64 W.2.2.1,.int .u64 W.2.2.2,.int .u64 M.1,.int .u64 M.2.1,.int .u64 M.2.2.1,.int .u64 M.2.2.2]),rgV 1 (uV m),rgV 2 (uV pa),rgV 3 (.agg #[.int .i64 xs,.int .i64 xo,.int .i64 xt,.int .i64 xb,.int .u64 W.1,.int .u64 W.2.1,.int .u64 W.2.2.1,.int .u64 W.2.2.2,.int .u64 M.1,.int .u64 M.2.1,.int .u64 M.2.2.1,.int .u64 M.2.2.2]),rgV 4 (uV n),rgV 5 (uV pb),rgV 6 (.agg #[.int .i64 xs,.int .i64 xo,.int .i64 xt,.int .i64 xb,.int .u64 W.1,.int .u64 W.2.1,.int .u64 W.2.2.1,.int .u64 W.2.2.2,.int .u64 M.1,.int .u64 M.2.1,.int .u64 M.2.2.1,.int .u64 M.2.2.2]),rgV 7 (.pointer (some ⟨w.heap.size,8,none⟩)),rgV 8 (uV M),rgV 9 (uV pc),rgP 10 (w4.heap.size),rgP 11 (w4.heap.size),rgP 12 (w4.heap.size),rgNe 10 11,rgNe 10 12,rgNe 11 12,rgS 10 13 (pa),rgS 11 14 (pb),rgS 12 15 (pc)] _ (by kernel_rfl) (by kernel_rfl) (by kernel_rfl)
     (fun vs=>by simp only [rgAct,rgPut,List.setIfInBounds_toArray,List.set_cons_zero,List.set_cons_succ]; exact rfl)
     ⟨fun _ _ _ hb h=>bl_then h hb,rgV_st,rgV_st,rgV_st,rgV_st,rgV_st,rgV_st,rgV_st,rgV_st,rgV_st,rgV_st,rgP_st,rgP_st,rgP_st,rgNe_st,rgNe_st,rgNe_st,rgS_st,rgS_st,rgS_st,trivial⟩ ?_ ?_ ?_
    ·refine rgAll_yes rfl HB0.out ?_
     iterate 19 refine rgAll_no rfl ?_
     exact trivial
    ·refine ⟨?_,?_,?_,?_,?_,?_,?_,?_,?_,?_,?_,?_,?_,?_,?_,?_,trivial⟩
     ·intro vs w5 hA K hK
      obtain ⟨hC,_⟩:=hA
      refine rg_loadEx rfl rfl rfl (X:=⟨xs,xo,xt,xb,W,M⟩) ((HQ.out.below hC).row (g:=w.heap.size) (o:=.cells #[.int .i64 xs,.int .i64 xo,.int .i64 xt,.int .i64 xb,.int .u64 W.1,.int .u64 W.2.1,.int .u64 W.2.2.1,.int .u64 W.2.2.2,.int .u64 M.1,.int .u64 M.2.1,.int .u64 M.2.2.1,.int .u64 M.2.2.2] 26) (by simp)) (hK _ _ (.inl (Below.refl _ _)) ?_)
      exact rgNew_one 1 rfl fun _=>rfl
     ·intro vs w5 hA K hK
      obtain ⟨hC,_⟩:=hA
      refine rg_loadU rfl rfl rfl ((HQ.out.below hC).u4 (g:=w.heap.size+1) (x:=m) (by simp)) (hK _ _ (.inl (Below.refl _ _)) ?_)
      exact rgNew_one 2 rfl fun _=>rfl
     ·intro vs w5 hA K hK
      obtain ⟨_,e0,e1,_⟩:=hA
      refine rg_fn rfl rfl rfl (by kernel_rfl) (show [vs 0,vs 1]=_ from by rw [rg1 e0,rg1 e1]) (Calls.mono (HP1.out _) ?_)
      rintro e w2 ⟨rfl,hb⟩
      refine ⟨_,rfl,hK _ _ (.inl hb) ?_⟩
      exact rgNew_one 3 rfl fun _=>rfl
     ·intro vs w5 hA K hK
      obtain ⟨hC,_⟩:=hA
      refine rg_loadEx rfl rfl rfl (X:=⟨xs,xo,xt,xb,W,M⟩) ((HQ.out.below hC).row (g:=w.heap.size) (o:=.cells #[.int .i64 xs,.int .i64 xo,.int .i64 xt,.int .i64 xb,.int .u64 W.1,.int .u64 W.2.1,.int .u64 W.2.2.1,.int .u64 W.2.2.2,.int .u64 M.1,.int .u64 M.2.1,.int .u64 M.2.2.1,.int .u64 M.2.2.2] 26) (by simp)) (hK _ _ (.inl (Below.refl _ _)) ?_)
      exact rgNew_one 4 rfl fun _=>rfl
     ·intro vs w5 hA K hK
      obtain ⟨hC,_⟩:=hA
      refine rg_loadU rfl rfl rfl ((HQ.out.below hC).u4 (g:=w.heap.size+1+1) (x:=n) (by simp)) (hK _ _ (.inl (Below.refl _ _)) ?_)
      exact rgNew_one 5 rfl fun _=>rfl
     ·intro vs w5 hA K hK
      obtain ⟨_,_,_,_,e3,e4,_⟩:=hA
      refine rg_fn rfl rfl rfl (by kernel_rfl) (show [vs 3,vs 4]=_ from by rw [rg1 e3,rg1 e4]) (Calls.mono (HP2.out _) ?_)
      rintro e w2 ⟨rfl,hb⟩
      refine ⟨_,rfl,hK _ _ (.inl hb) ?_⟩
      exact rgNew_one 6 rfl fun _=>rfl
     ·intro vs w5 hA K hK
      obtain ⟨hC,_⟩:=hA
      refine rg_loadEx rfl rfl rfl (X:=⟨xs,xo,xt,xb,W,M⟩) ((HQ.out.below hC).row (g:=w.heap.size) (o:=.cells #[.int .i64 xs,.int .i64 xo,.int .i64 xt,.int .i64 xb,.int .u64 W.1,.int .u64 W.2.1,.int .u64 W.2.2.1,.int .u64 W.2.2.2,.int .u64 M.1,.int .u64 M.2.1,.int .u64 M.2.2.1,.int .u64 M.2.2.2] 26) (by simp)) (hK _ _ (.inl (Below.refl _ _)) ?_)
      exact rgNew_one 7 rfl fun _=>rfl
     ·intro vs w5 hA K hK
      obtain ⟨_,_⟩:=hA
      refine rg_ex5 rfl rfl rfl (hK _ _ (.inl (Below.refl _ _)) ?_)
      exact rgNew_one 8 rfl fun _=>rfl
     ·intro vs w5 hA K hK
      obtain ⟨hC,e7,_⟩:=hA
      refine rg_load4 rfl rfl (rg1 e7) (rowE (x:=⟨xs,xo,xt,xb,W,M⟩) ((HQ.out.below hC).row (g:=w.heap.size) (o:=.cells #[.int .i64 xs,.int .i64 xo,.int .i64 xt,.int .i64 xb,.int .u64 W.1,.int .u64 W.2.1,.int .u64 W.2.2.1,.int .u64 W.2.2.2,.int .u64 M.1,.int .u64 M.2.1,.int .u64 M.2.2.1,.int .u64 M.2.2.2] 26) (by simp))).2.2 (hK _ _ (.inl (Below.refl _ _)) ?_)
      exact rgNew_one 9 rfl fun _=>rfl
     ·intro vs w5 hA K hK
      obtain ⟨_,_,_,_,_,_,_,e6,_,e8,_⟩:=hA
      refine rg_fn rfl rfl rfl (by kernel_rfl) (show [vs 6,vs 8]=_ from by rw [rg1 e6,rg1 e8]) (Calls.mono (HP3.out _) ?_)
      rintro e w2 ⟨rfl,hb⟩
      refine ⟨_,rfl,hK _ _ (.inl hb) ?_⟩
      exact rgNew_one 10 rfl fun _=>rfl
     ·intro vs w5 hA K hK
      obtain ⟨hC,_⟩:=hA
      refine rg_allocU rfl rfl (hK _ _ (.inl (bl_alloc (Below.refl _ _) _)) ?_)
      iterate 11 refine rgNew_no rfl ?_
      refine rgNew_yes rfl (fun _=>⟨_,_,rfl,hC.size,heap_alloc_new _ _⟩) ?_
      iterate 2 refine rgNew_no rfl ?_
      refine rgNew_yes rfl (fun hB=>by obtain ⟨_,q11,_⟩:=hB; exact rgNe_fst q11) ?_
      refine rgNew_yes rfl (fun hB=>by obtain ⟨_,q12,_⟩:=hB; exact rgNe_fst q12) ?_
      iterate 4 refine rgNew_no rfl ?_
      exact trivial
     ·intro vs w5 hA K hK
      obtain ⟨hC,_⟩:=hA
      refine rg_allocU rfl rfl (hK _ _ (.inl (bl_alloc (Below.refl _ _) _)) ?_)
      iterate 12 refine rgNew_no rfl ?_
      refine rgNew_yes rfl (fun _=>⟨_,_,rfl,hC.size,heap_alloc_new _ _⟩) ?_
      refine rgNew_no rfl ?_
      refine rgNew_yes rfl (fun hB=>by obtain ⟨_,q10,_⟩:=hB; exact rgNe_snd q10) ?_
      refine rgNew_no rfl ?_
      refine rgNew_yes rfl (fun hB=>by obtain ⟨_,q12,_⟩:=hB; exact rgNe_fst q12) ?_
      iterate 3 refine rgNew_no rfl ?_
      exact trivial
     ·intro vs w5 hA K hK
      obtain ⟨hC,_⟩:=hA
      refine rg_allocU rfl rfl (hK _ _ (.inl (bl_alloc (Below.refl _ _) _)) ?_)
      iterate 13 refine rgNew_no rfl ?_
      refine rgNew_yes rfl (fun _=>⟨_,_,rfl,hC.size,heap_alloc_new _ _⟩) ?_
      refine rgNew_no rfl ?_
      refine rgNew_yes rfl (fun hB=>by obtain ⟨_,q10,_⟩:=hB; exact rgNe_snd q10) ?_
      refine rgNew_yes rfl (fun hB=>by obtain ⟨_,q11,_⟩:=hB; exact rgNe_snd q11) ?_
      iterate 3 refine rgNew_no rfl ?_
      exact trivial
     ·intro vs w5 hA K hK
      obtain ⟨hC,_,_,e2,_,_,_,_,_,_,_,⟨_,_,e10,h10,g10⟩,_,_,_,_,_,_⟩:=hA
      refine rg_storeU rfl rfl (rg1 e10) (rg1 e2) g10 (hK _ _ (.inr ?_) ?_)
      ·refine rgStay_yes rfl (fun hC _=>bput hC h10) ?_
       iterate 10 refine rgStay_yes rfl (fun h _=>h) ?_
       refine rgStay_yes rfl (fun h _=>rgP_put h) ?_
       refine rgStay_yes rfl (fun h _=>rgP_put h) ?_
       refine rgStay_yes rfl (fun h _=>rgP_put h) ?_
       iterate 3 refine rgStay_yes rfl (fun h _=>h) ?_
       iterate 3 refine rgStay_no rfl ?_
       exact trivial
      ·iterate 17 refine rgNew_no rfl ?_
       refine rgNew_yes rfl (fun _=>⟨_,_,by show [vs 10,undef]=_; rw [rg1 e10],setRow_heap _ _ _ _ _ _ g10⟩) ?_
       iterate 2 refine rgNew_no rfl ?_
       exact trivial
     ·intro vs w5 hA K hK
      obtain ⟨hC,_,_,_,_,_,e5,_,_,_,_,_,⟨_,_,e11,h11,g11⟩,_,n10_11,_,_,_,_⟩:=hA
      refine rg_storeU rfl rfl (rg1 e11) (rg1 e5) g11 (hK _ _ (.inr ?_) ?_)
      ·refine rgStay_yes rfl (fun hC _=>bput hC h11) ?_
       iterate 10 refine rgStay_yes rfl (fun h _=>h) ?_
       refine rgStay_yes rfl (fun h _=>rgP_put h) ?_
       refine rgStay_yes rfl (fun h _=>rgP_put h) ?_
       refine rgStay_yes rfl (fun h _=>rgP_put h) ?_
       iterate 3 refine rgStay_yes rfl (fun h _=>h) ?_
       refine rgStay_yes rfl (fun h hB=>by obtain ⟨_,_,_,_,_,_,_,_,_,_,_,_,_,_,n10_11,_,_,_,_⟩:=hB; exact rgS_put h fun p u hx=>by have h1:=(rg2 hx).1; exact rgNe_at n10_11 (by show [vs 10,vs 11]=_; rw [h1,rg1 e11])) ?_
       iterate 2 refine rgStay_no rfl ?_
       exact trivial
      ·iterate 18 refine rgNew_no rfl ?_
       refine rgNew_yes rfl (fun _=>⟨_,_,by show [vs 11,undef]=_; rw [rg1 e11],setRow_heap _ _ _ _ _ _ g11⟩) ?_
       refine rgNew_no rfl ?_
       exact trivial
     ·intro vs w5 hA K hK
      obtain ⟨hC,_,_,_,_,_,_,_,_,_,e9,_,_,⟨_,_,e12,h12,g12⟩,_,n10_12,n11_12,_,_,_⟩:=hA
      refine rg_storeU rfl rfl (rg1 e12) (rg1 e9) g12 (hK _ _ (.inr ?_) ?_)
      ·refine rgStay_yes rfl (fun hC _=>bput hC h12) ?_
       iterate 10 refine rgStay_yes rfl (fun h _=>h) ?_
       refine rgStay_yes rfl (fun h _=>rgP_put h) ?_
       refine rgStay_yes rfl (fun h _=>rgP_put h) ?_
       refine rgStay_yes rfl (fun h _=>rgP_put h) ?_
       iterate 3 refine rgStay_yes rfl (fun h _=>h) ?_
       refine rgStay_yes rfl (fun h hB=>by obtain ⟨_,_,_,_,_,_,_,_,_,_,_,_,_,_,_,n10_12,_,_,_,_⟩:=hB; exact rgS_put h fun p u hx=>by have h1:=(rg2 hx).1; exact rgNe_at n10_12 (by show [vs 10,vs 12]=_; rw [h1,rg1 e12])) ?_
       refine rgStay_yes rfl (fun h hB=>by obtain ⟨_,_,_,_,_,_,_,_,_,_,_,_,_,_,_,_,n11_12,_,_,_⟩:=hB; exact rgS_put h fun p u hx=>by have h1:=(rg2 hx).1; exact rgNe_at n11_12 (by show [vs 11,vs 12]=_; rw [h1,rg1 e12])) ?_
       refine rgStay_no rfl ?_
       exact trivial
      ·iterate 19 refine rgNew_no rfl ?_
       refine rgNew_yes rfl (fun _=>⟨_,_,by show [vs 12,undef]=_; rw [rg1 e12],setRow_heap _ _ _ _ _ _ g12⟩) ?_
       exact trivial
    ·intro vs w5 hA
     obtain ⟨hC,e0,e1,e2,e3,e4,e5,e6,e7,e8,e9,⟨p10,_,e10,h10,g10⟩,⟨p11,_,e11,h11,g11⟩,⟨p12,_,e12,h12,g12⟩,n10_11,n10_12,n11_12,s13,s14,s15,_⟩:=hA
     have e0:=rg1 e0
     have e1:=rg1 e1
     have e2:=rg1 e2
     have e3:=rg1 e3
     have e4:=rg1 e4
     have e5:=rg1 e5
     have e6:=rg1 e6
     have e7:=rg1 e7
     have e8:=rg1 e8
     have e9:=rg1 e9
     have e10:=rg1 e10
     have e11:=rg1 e11
     have e12:=rg1 e12
     have s13:=rgS_at s13 e10
     have s14:=rgS_at s14 e11
     have s15:=rgS_at s15 e12
     simp only [e0,e1,e2,e3,e4,e5,e6,e7,e8,e9,e10,e11,e12]
     have hB5:=HQ.out.addl hC [(p10,uO pa),(p11,uO pb),(p12,uO pc)] (by
      intro g o hg
      simp only [List.mem_cons,List.not_mem_nil,or_false,Prod.mk.injEq] at hg
      rcases hg with ⟨rfl,rfl⟩ | ⟨rfl,rfl⟩ | ⟨rfl,rfl⟩
      ·exact ⟨h10,s13⟩
      ·exact ⟨h11,s14⟩
      ·exact ⟨h12,s15⟩)
     have HB5:=Lib.hid hB5
     clear hB5 e0 e1 e2 e3 e4 e5 e6 e7 e8 e9 h10 h11 h12 g10 g11 g12 s13 s14 s15 hC HP1 HP2 HP3 HB0 HQ n10_11 n10_12 n11_12
     obtain ⟨a0,a1,a2,a3,_⟩:=row4 (HB5.out.row (g:=p10) (o:=uO pa) (by simp))
     obtain ⟨b0,b1,b2,b3,_⟩:=row4 (HB5.out.row (g:=p11) (o:=uO pb) (by simp))
     have HC:=Lib.hid (HC3.out _ _ HB5.out)
     obtain ⟨g3,g4⟩:=HG34.out
     clear HC3 HB5 HG34
     go_wp2_with fail
     refine Calls.mono HC.out ?_
     rintro e w6 ⟨rfl,hB6⟩
     clear HC a0 a1 a2 a3 b0 b1 b2 b3
     obtain ⟨b0,b1,b2,b3,_⟩:=row4 (hB6.row (g:=p11) (o:=uO pb) (by simp))
     obtain ⟨⟨k0,k1,k2,k3⟩,⟨p0,p1,p2,p3⟩,⟨q0,q1,q2,q3⟩⟩:=rowE (x:=⟨xs,xo,xt,xb,W,M⟩) (hB6.row (g:=w.heap.size) (o:=(.cells #[.int .i64 xs,.int .i64 xo,.int .i64 xt,.int .i64 xb,.int .u64 W.1,.int .u64 W.2.1,.int .u64 W.2.2.1,.int .u64 W.2.2.2,.int .u64 M.1,.int .u64 M.2.1,.int .u64 M.2.2.1,.int .u64 M.2.2.2] 26)) (by simp))
     have HC:=Lib.hid (HC4.out _ _ hB6)
     clear HC4 hB6
     go_wp2_with fail
     refine Calls.mono HC.out ?_
     rintro e w7 ⟨rfl,hB7⟩
     clear HC b0 b1 b2 b3 k0 k1 k2 k3 p0 p1 p2 p3 q0 q1 q2 q3
     obtain ⟨a0,a1,a2,a3,_⟩:=row4 (hB7.row (g:=p10) (o:=uO pa) (by simp))
     obtain ⟨b0,b1,b2,b3,_⟩:=row4 (hB7.row (g:=p12) (o:=uO pc) (by simp))
     obtain ⟨⟨k0,k1,k2,k3⟩,⟨p0,p1,p2,p3⟩,⟨q0,q1,q2,q3⟩⟩:=rowE (x:=⟨xs,xo,xt,xb,W,M⟩) (hB7.row (g:=w.heap.size) (o:=(.cells #[.int .i64 xs,.int .i64 xo,.int .i64 xt,.int .i64 xb,.int .u64 W.1,.int .u64 W.2.1,.int .u64 W.2.2.1,.int .u64 W.2.2.2,.int .u64 M.1,.int .u64 M.2.1,.int .u64 M.2.2.1,.int .u64 M.2.2.2] 26)) (by simp))
     have HV:=Lib.hid (HLV.out _ _ hB7)
     clear hB7 HLV
     have hEW:∀ w,(Op.equalIn 10000 24 (.agg #[.int .u64 W.1,.int .u64 W.2.1,.int .u64 W.2.2.1,.int .u64 W.2.2.2]) (.agg #[.int .u64 W.1,.int .u64 W.2.1,.int .u64 W.2.2.1,.int .u64 W.2.2.2])).run Tryz.prog w = .ok true w:=fun w=>by
      have:=eqU W W w
      rw [decide_eq_true rfl] at this
      exact this
     by_cases h0:xo=0
     ·have e1:=HL.out.1 (.inl h0)
      have e2:=HL.out.2 h0
      have hb0:(xo != 0)=false:=by rw [h0]; rfl
      subst e1 e2
      clear HL h0
      go_wp2_with fail
      refine Calls.mono HV.out ?_
      rintro e w8 ⟨rfl,hB8⟩
      have HBL:=Lib.hid (BV.bl hB8)
      clear hB8 HV
      go_wp2_with fail
      go_ret
      exact ⟨rfl,HBL.out⟩
     ·have hb0:(xo != 0)=true:=by rw [bne_iff_ne]; exact h0
      by_cases hM:M=(0,0,0,0)
      ·have hE:∀ w,(Op.equalIn 10000 24 (.agg #[.int .u64 M.1,.int .u64 M.2.1,.int .u64 M.2.2.1,.int .u64 M.2.2.2]) (.agg #[.int .u64 0,.int .u64 0,.int .u64 0,.int .u64 0])).run Tryz.prog w = .ok true w:=fun w=>by
        have:=eqU M (0,0,0,0) w
        rw [decide_eq_true hM] at this
        exact this
       clear HL h0 hM
       go_wp2_with fail
       refine Calls.mono HV.out ?_
       rintro e w8 ⟨rfl,hB8⟩
       have HBL:=Lib.hid (BV.bl hB8)
       clear hB8 HV
       go_wp2_with fail
       go_ret
       exact ⟨rfl,HBL.out⟩
      ·have hE:∀ w,(Op.equalIn 10000 24 (.agg #[.int .u64 M.1,.int .u64 M.2.1,.int .u64 M.2.2.1,.int .u64 M.2.2.2]) (.agg #[.int .u64 0,.int .u64 0,.int .u64 0,.int .u64 0])).run Tryz.prog w = .ok false w:=fun w=>by
        have:=eqU M (0,0,0,0) w
        rw [decide_eq_false hM] at this
        exact this
       have e1:=HL.out.1 (.inr hM)
       subst e1
       clear HL h0 hM
       go_wp2_with fail
       refine Calls.mono HV.out ?_
       rintro e w8 ⟨rfl,hB8⟩
       have HBL:=Lib.hid (BV.bl hB8)
       clear hB8 HV
       go_wp2_with fail
       go_ret
       exact ⟨rfl,HBL.out⟩
end Go.Proofs.YtnkilceibkkjlaaGreat
namespace Go.Proofs.YtnkilceibkkjlaaGreat.exitPays
open Go.ChangeShapes Go.WideShapes Go.ChangeAt Go.RowKit
set_option linter.unusedVariables false
theorem params:Tryz.f3.params = #[26,24,24]:=rfl
theorem lifted (os:Os) (started:os.Started) (H:Type) (enc:TypeId × Value→H) :
  ReturnsInHanded {} Tryz.checked os 3 .any (Rows.exitPaysSpec.pre6 enc Tryz.prog Tryz.f3 Rows.exitPaysRow.domain false) (Rows.exitPaysSpec.post enc Tryz.prog Tryz.f3 false true false false):=by
 refine returnsInHanded_of_change (C:=Tryz.checked) own started (by kernel_rfl) Tryz.func3
  (ChangeSpec.witness6 (enc:=enc) (C:=Tryz.checked) false ⟨#[],#[.agg #[.int .i64 0,.int .i64 0,.int .i64 0,.int .i64 0,.int .u64 0,.int .u64 0,.int .u64 0,.int .u64 0,.int .u64 0,.int .u64 0,.int .u64 0,.int .u64 0],.agg #[.int .u64 0,.int .u64 0,.int .u64 0,.int .u64 0],.agg #[.int .u64 0,.int .u64 0,.int .u64 0,.int .u64 0]],[]⟩ 8 (by kernel_rfl) (by kernel_rfl) (by kernel_rfl) (by kernel_rfl)) ?_
 intro W base args ds gs before hval0 hW hcnd _
 have hval:∀ (j:Nat) t v,Tryz.f3.params[j]? = some t→args[j]? = some v→Value.okWide Tryz.prog W .any base t v:=hval0
 have hW':=hW
 obtain ⟨p,q,hA0,hV,rfl,hfz,hnd⟩:=hW
 have hA:DataW.TrodAll enc Tryz.prog W 0 (fun _=>true) true Tryz.f3.params.toList args.toList ds p:=hA0
 rw [params] at hA hval
 obtain ⟨v0,vs0,d0,ds0,p0,q0,hargs,rfl,rfl,h0,r0⟩:=trodAll_cons hA
 obtain ⟨v1,vs1,d1,ds1,p1,q1,rfl,rfl,rfl,h1,r1⟩:=trodAll_cons r0
 obtain ⟨v2,vs2,d2,ds2,p2,q2,rfl,rfl,rfl,h2,r2⟩:=trodAll_cons r1
 obtain ⟨rfl,rfl,rfl⟩:=trodAll_nil r2
 obtain rfl:args = #[v0,v1,v2]:=by cases args; simp_all
 obtain ⟨rfl,rfl⟩:=trodVars_none hV
 obtain ⟨A0,rfl,hX0⟩:=open_ex (hval 0 26 v0 rfl rfl) h0
 obtain ⟨u1,rfl,hu1⟩:=open_u4 (hval 1 24 v1 rfl rfl) h1
 obtain ⟨u2,rfl,hu2⟩:=open_u4 (hval 2 24 v2 rfl rfl) h2
 clear hA0 hval0
 refine (exitPays_walk A0 u1 u2 hX0 hu1 hu2 W).mono fun e W' ⟨he,hg⟩ => ?_
 subst he
 exact ⟨_,rfl,post_true laid (tb:=4) (by kernel_rfl) rfl (fine_all (by kernel_rfl)) rfl hW' rfl hg⟩
theorem over:Rows.exitPaysRow.holds Tryz.pinned (OpenSpec.ofChange Rows.exitPaysSpec) :=
 OpenClaim.holds_of_wide 3 Tryz.f3 rfl rfl rfl rfl rfl rfl rfl ⟨rfl,rfl,rfl,rfl,rfl⟩ rfl rfl rfl rfl rfl (by kernel_rfl) Tryz.func3 (by kernel_rfl)
  (of_decide_eq_true (by kernel_rfl)) (by unfold Func.isWrapper; first | (rw [if_pos (by decide +kernel)]; kernel_rfl) | (rw [if_neg (by decide +kernel)]; exact ⟨rfl,rfl⟩))
  (fun os started H enc _=>lifted os started H enc)
theorem proved:Rows.ExitPaysSaid :=
 over
#print axioms proved
end Go.Proofs.YtnkilceibkkjlaaGreat.exitPays
