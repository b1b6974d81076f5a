/- What is proved here: the reference's factor.Worth and factor. Their condition: words below 2^64; a divisor that is not nought. the reference's factor.Grow and factor.Move. Their condition: words below 2^64. -/
import Derived.Test.YtpojljieakdgiaaGreatDRFacA
set_option maxRecDepth 100000
set_option maxHeartbeats 16000000
namespace Go.Proofs.YtpojljieakdgiaaGreat
open Go.RowKit
abbrev rgD (i n:Nat):RgFact:=([i],fun l w=>DgAt w (l.headD undef) (digs n))
abbrev rgT (i n m:Nat):RgFact:=([i],fun l w=>∃ u v,l = [.tuple #[u,v]]∧DgAt w u (digs n)∧DgAt w v (digs m))
theorem rgD_st {i n:Nat}:∀ x w w',Below w.heap.size w w'→(rgD i n).2 x w→(rgD i n).2 x w':=fun _ _ _ hb h=>DgAt.below h hb
theorem rgT_st {i n m:Nat}:∀ x w w',Below w.heap.size w w'→(rgT i n m).2 x w→(rgT i n m).2 x w':=fun _ _ _ hb ⟨u,v,h1,h2,h3⟩=>⟨u,v,h1,h2.below hb,h3.below hb⟩
theorem of_w (x:W4) (hx:x.Ok) (W:World):Calls Tryz.prog 66 #[uV x] W fun e w'=>(∃ v,e = .returned v∧DgAt w' v (digs (uN x)))∧Below W.heap.size W w' :=
 (rof_any x hx W).mono fun _ _ ⟨⟨v,he,hD⟩,hb⟩=>⟨⟨v,he,hD.dg⟩,hb⟩
theorem times_w (a b:Nat) (ha:(digs a).length < 10000) (hb:(digs b).length < 10000) (W:World) (u v:Value) (hu:DgAt W u (digs a)) (hv:DgAt W v (digs b)):Calls Tryz.prog 65 #[u,v] W fun e w'=>(∃ v,e = .returned v∧DgAt w' v (digs (a*b)))∧Below W.heap.size W w':=by
 have:=times_any W u v _ _ (digs_ok _) (digs_ok _) ha hb hu hv
 rw [natOf_digs,natOf_digs] at this
 exact this.mono fun e w' ⟨⟨u,he,hD⟩,hb⟩=>⟨⟨u,he,hD.dg⟩,hb⟩
theorem quorem_w (a b:Nat) (ha:(digs a).length < 10000) (hb:(digs b).length < 10000) (h0:b≠0) (W:World) (u v:Value) (hu:DgAt W u (digs a)) (hv:DgAt W v (digs b)):Calls Tryz.prog 67 #[u,v] W fun e w'=>(∃ u v,e = .returned (.tuple #[u,v])∧DgAt w' u (digs (a / b))∧DgAt w' v (digs (a % b)))∧Below W.heap.size W w':=by
 have:=quorem_any W u v _ _ (digs_ok _) (digs_ok _) ha hb hu hv (by rw [natOf_digs]; exact h0)
 rw [natOf_digs,natOf_digs] at this
 exact this.mono fun e w' ⟨⟨u,v,he,hD⟩,hb⟩=>⟨⟨u,v,he,hD⟩,hb⟩
theorem tou_w (a:Nat) (ha:(digs a).length < 1000000) (W:World) (u:Value) (hu:DgAt W u (digs a)):Calls Tryz.prog 68 #[u] W fun e w'=>e = .returned (.tuple #[uV (toW a),.bool (toB a)])∧Below W.heap.size W w':=by
 have:=tou_any W u _ (digs_ok _) ha hu
 rwa [natOf_digs] at this
theorem rfworth_any (d f m:W4) (hd:d.Ok) (hf:f.Ok) (hm:m.Ok) (w:World):Calls Tryz.prog 92 #[uV d,uV f,uV m] w fun e w'=>e = .returned (.tuple #[uV (worthW d f m),.bool (goodB d f m)])∧Below w.heap.size w w':=by
 have HV:=Lib.hid (VAt.vr (l:=[d,f,m]) (VAt.start w [d,f,m,(0,0,0,0)])).vp
 have HG:Hid (∀ W,VP w [d,f,m] 3 [] W→Calls Tryz.prog 164 #[uV d,uV f,uV m] W fun e w'=>e = .returned (.bool (goodB d f m))∧VP w [d,f,m] 3 [] w'):=fun W hW =>
  (rfgood_any d f m hd hf hm W).mono fun e w' ⟨he,hb⟩=>⟨he,hW.below hb⟩
 have l0:=u_len d hd
 have l1:=u_len f hf
 have l2:=u_len m hm
 have l3:=mul_len d f hd hf
 have HD:=Lib.hid (of_w d hd)
 have HF:=Lib.hid (of_w f hf)
 have HM:=Lib.hid (of_w m hm)
 have HT1:=Lib.hid (times_w (uN d) (uN f) (by omega) (by omega))
 have HT2:=Lib.hid (times_w (uN d*uN f) (uN m) (by omega) (by omega))
 have l4:goodB d f m=true→(digs (uN d*uN f*uN m)).length < 10000:=fun hg=>by
  obtain ⟨h1,h2,h3⟩:=good_iff.1 hg
  have h4:uN d*uN f*uN m≤M128*1000000000000000000000000000000000000*1000000000000000000:=Nat.mul_le_mul (Nat.mul_le_mul (Nat.le_of_lt h1) h2) h3
  have e:BP 17=13407807929942597099574024998205846127479365820592393377723561443721764030073546976801874298166903427690031858186486050853753882811946569946433649006084096*4294967296:=by decide
  have:(digs (uN d*uN f*uN m)).length≤17:=digs_len (by unfold M128 at h4; omega)
  omega
 have HQ:Hid (goodB d f m=true→∀ ps W u v,VP w [d,f,m] 3 ps W→DgAt W u (digs (uN d*uN f*uN m))→DgAt W v (digs (uN sqW))→Calls Tryz.prog 67 #[u,v] W fun e w'=>(∃ u v,e = .returned (.tuple #[u,v])∧DgAt w' u (digs (worthN d f m)))∧VP w [d,f,m] 3 ps w'):=fun hg ps W u v hW hu hv =>
  (quorem_w _ _ (l4 hg) (by have:=u_len sqW sq_ok; omega) (by rw [sq_nat]; decide) W u v hu hv).mono fun e w' ⟨⟨u,v,he,hD,_⟩,hb⟩=>⟨⟨u,v,he,by rw [sq_nat] at hD; exact hD⟩,hW.below hb⟩
 have HU:Hid (goodB d f m=true→∀ ps W u,VP w [d,f,m] 3 ps W→DgAt W u (digs (worthN d f m))→Calls Tryz.prog 68 #[u] W fun e w'=>e = .returned (.tuple #[uV (worthW d f m),.bool true])∧VP w [d,f,m] 3 ps w'):=fun hg ps W u hW hu=>by
  have hfit:worthN d f m < 115792089237316195423570985008687907853269984665640564039457584007913129639936:=by
   have:=worth_le hg
   have:=(good_iff.1 hg).1
   unfold M128 at *; omega
  have e1:toW (worthN d f m)=worthW d f m:=by unfold toW worthW W256; rw [if_pos hfit,if_pos hg]
  have e2:toB (worthN d f m)=true:=decide_eq_true hfit
  rw [← e1,← e2]
  have hl:(digs (worthN d f m)).length < 1000000:=by
   have:=digs_mono (Nat.div_le_self (uN d*uN f*uN m) 1000000000000000000000000000000000000)
   have:=l4 hg
   unfold worthN; omega
  exact (tou_w _ hl W u hu).mono fun e w' ⟨he,hb⟩=>⟨he,hW.below hb⟩
 have HSQ:Hid (∀ ps W u,VP w [d,f,m] 3 ps W→DgAt W u (digs (uN d*uN f*uN m))→Calls Tryz.prog 165 #[] W fun e w'=>e = .returned (uV sqW)∧VP w [d,f,m] 3 ps w'∧DgAt w' u (digs (uN d*uN f*uN m))):=fun ps W u hW hu =>
  (rsquare_any W).mono fun e w' ⟨he,hb⟩=>⟨he,hW.below hb,hu.below hb⟩
 have HOS:Hid (∀ ps W u,VP w [d,f,m] 3 ps W→DgAt W u (digs (uN d*uN f*uN m))→Calls Tryz.prog 66 #[uV sqW] W fun e w'=>(∃ v,e = .returned v∧DgAt w' v (digs (uN sqW)))∧VP w [d,f,m] 3 ps w'∧DgAt w' u (digs (uN d*uN f*uN m))):=fun ps W u hW hu =>
  (of_w sqW sq_ok W).mono fun e w' ⟨he,hb⟩=>⟨he,hW.below hb,hu.below hb⟩
 have HW0:Hid (goodB d f m=false→worthW d f m=(0,0,0,0)):=worth_not
 clear l0 l1 l2 l3 l4
 generalize worthW d f m=u at *
 generalize goodB d f m=g at *
 generalize worthN d f m=wn at *
 go_enter Tryz.func92,Tryz.ntmps92
 go_wp2_with fail
 refine Calls.mono (HG.out _ HV.out) ?_
 rintro e w3 ⟨rfl,hV3⟩
 obtain ⟨z,z0,z1,z2,z3,z4,z5,z6,z7⟩:=hV3.vr.zc
 have HV3:=Lib.hid hV3.drew
 have HR0:=Lib.hid (hV3.vr.res (0,0,0,0))
 clear hV3 HV HG
 cases g with
 | false =>
  obtain rfl:=HW0.out rfl
  go_wp2_with fail
  refine bodyPost_ret (results_cell_row2 rfl _ _ (w.heap.size+3) 28 (uL (0,0,0,0)) (0,0) _ rfl HR0.out.2 Tryz.underlying28 rfl (by kernel_rfl)) rfl ?_
  exact ⟨rfl,HR0.out.1⟩
 | true =>
  have HQ2:=Lib.hid (HQ.out rfl)
  have HU2:=Lib.hid (HU.out rfl)
  clear HQ HU HR0 z z0 z1 z2 z3 z4 z5 z6 z7 HW0
  go_wp2_with fail
  go_upto_region 3 with fail
  refine wp_region_rely [[],[0],[],[0,1,2],[0,1,2,3],[],[0,1,2,3,4,5],[0,1,2,3,4,5,6],[0,1,2,3,4,5,6,7]]
   [rgC (VP w [d,f,m] 3 []),rgV 0 (uV d),rgD 1 (uN d),rgV 2 (uV f),rgD 3 (uN f),rgD 4 (uN d*uN f),rgV 5 (uV m),rgD 6 (uN m),rgD 7 (uN d*uN f*uN m),rgD 8 (uN d*uN f*uN m)] _ (by kernel_rfl) (by kernel_rfl) (by kernel_rfl)
   (fun vs=>by simp only [rgAct,rgPut,List.setIfInBounds_toArray,List.set_cons_zero,List.set_cons_succ]; exact rfl)
   ⟨fun _ _ _ hb h=>h.below hb,rgV_st,rgD_st,rgV_st,rgD_st,rgD_st,rgV_st,rgD_st,rgD_st,rgD_st,trivial⟩ ?_ ?_ ?_
  ·refine rgAll_yes rfl HV3.out ?_
   iterate 9 refine rgAll_no rfl ?_
   exact trivial
  ·refine ⟨?_,?_,?_,?_,?_,?_,?_,?_,?_,trivial⟩
   ·rintro vs w1 ⟨hC,_⟩ K hK
    refine rg_loadU rfl rfl rfl hC.r0 (hK _ _ (.inl (Below.refl _ _)) ?_)
    exact rgNew_one 1 rfl fun _=>rfl
   ·rintro vs w1 ⟨_,e0,_⟩ K hK
    refine rg_fn rfl rfl rfl (by kernel_rfl) (show [vs 0]=_ from by rw [rg1 e0]) (Calls.mono (HD.out _) ?_)
    rintro e w2 ⟨⟨v,rfl,hD⟩,hb⟩
    refine ⟨_,rfl,hK _ _ (.inl hb) ?_⟩
    iterate 2 refine rgNew_no rfl ?_
    refine rgNew_yes rfl (fun _=>hD) ?_
    iterate 7 refine rgNew_no rfl ?_
    exact trivial
   ·rintro vs w1 ⟨hC,_⟩ K hK
    refine rg_loadU rfl rfl rfl (hC.r 1 f rfl) (hK _ _ (.inl (Below.refl _ _)) ?_)
    exact rgNew_one 3 rfl fun _=>rfl
   ·rintro vs w1 ⟨_,_,_,e2,_⟩ K hK
    refine rg_fn rfl rfl rfl (by kernel_rfl) (show [vs 2]=_ from by rw [rg1 e2]) (Calls.mono (HF.out _) ?_)
    rintro e w2 ⟨⟨v,rfl,hD⟩,hb⟩
    refine ⟨_,rfl,hK _ _ (.inl hb) ?_⟩
    iterate 4 refine rgNew_no rfl ?_
    refine rgNew_yes rfl (fun _=>hD) ?_
    iterate 5 refine rgNew_no rfl ?_
    exact trivial
   ·rintro vs w1 ⟨_,_,d1,_,d3,_⟩ K hK
    refine rg_fn rfl rfl rfl (by kernel_rfl) rfl (Calls.mono (HT1.out _ _ _ d1 d3) ?_)
    rintro e w2 ⟨⟨v,rfl,hD⟩,hb⟩
    refine ⟨_,rfl,hK _ _ (.inl hb) ?_⟩
    iterate 5 refine rgNew_no rfl ?_
    refine rgNew_yes rfl (fun _=>hD) ?_
    iterate 4 refine rgNew_no rfl ?_
    exact trivial
   ·rintro vs w1 ⟨hC,_⟩ K hK
    refine rg_loadU rfl rfl rfl (hC.r 2 m rfl) (hK _ _ (.inl (Below.refl _ _)) ?_)
    exact rgNew_one 6 rfl fun _=>rfl
   ·rintro vs w1 ⟨_,_,_,_,_,_,e5,_⟩ K hK
    refine rg_fn rfl rfl rfl (by kernel_rfl) (show [vs 5]=_ from by rw [rg1 e5]) (Calls.mono (HM.out _) ?_)
    rintro e w2 ⟨⟨v,rfl,hD⟩,hb⟩
    refine ⟨_,rfl,hK _ _ (.inl hb) ?_⟩
    iterate 7 refine rgNew_no rfl ?_
    refine rgNew_yes rfl (fun _=>hD) ?_
    iterate 2 refine rgNew_no rfl ?_
    exact trivial
   ·rintro vs w1 ⟨_,_,_,_,_,d4,_,d6,_⟩ K hK
    refine rg_fn rfl rfl rfl (by kernel_rfl) rfl (Calls.mono (HT2.out _ _ _ d4 d6) ?_)
    rintro e w2 ⟨⟨v,rfl,hD⟩,hb⟩
    refine ⟨_,rfl,hK _ _ (.inl hb) ?_⟩
    iterate 8 refine rgNew_no rfl ?_
    refine rgNew_yes rfl (fun _=>hD) ?_
    refine rgNew_no rfl ?_
    exact trivial
   ·rintro vs w1 ⟨_,_,_,_,_,_,_,_,d7,_⟩ K hK
    refine rg_move rfl (.inr rfl) rfl (hK _ _ (.inl (Below.refl _ _)) ?_)
    iterate 9 refine rgNew_no rfl ?_
    refine rgNew_yes rfl (fun _=>d7) ?_
    exact trivial
  ·intro vs w1 hA
   obtain ⟨hC,e0,d1,e2,d3,d4,e5,d6,d7,d8,_⟩:=hA
   have e0:=rg1 e0
   have e2:=rg1 e2
   have e5:=rg1 e5
   simp only [e0,e2,e5]
   have HC:=Lib.hid hC
   have HD8:Hid (DgAt w1 (vs 8) (digs (uN d*uN f*uN m))):=d8
   clear d1 d3 d4 d6 d7 d8 hC HV3 HD HF HM HT1 HT2
   generalize vs 8=v8 at *
   generalize vs 1=v1
   generalize vs 3=v3
   generalize vs 4=v4
   generalize vs 6=v6
   generalize vs 7=v7
   go_wp2_with fail
   refine Calls.mono (HSQ.out _ _ _ HC.out HD8.out) ?_
   rintro e w4 ⟨rfl,hV4,hD4⟩
   have HS4:=Lib.hid (HOS.out _ _ _ hV4 hD4)
   clear hV4 hD4 HC HD8 HSQ HOS
   go_wp2_with fail
   refine Calls.mono HS4.out ?_
   rintro e w5 ⟨⟨v9,rfl,hD9⟩,hV5,hD5⟩
   have HS5:=Lib.hid (HQ2.out _ _ _ _ hV5 hD5 hD9)
   clear hV5 hD5 hD9 HS4 HQ2
   go_wp2_with fail
   refine Calls.mono HS5.out ?_
   rintro e w6 ⟨⟨u6,v6',rfl,hD6⟩,hV6⟩
   have HS6:=Lib.hid (HU2.out _ _ _ hV6 hD6)
   clear hV6 hD6 HS5 HU2
   go_wp2_with fail
   refine Calls.mono HS6.out ?_
   rintro e w7 ⟨rfl,hV7⟩
   obtain ⟨z,z0,z1,z2,z3,z4,z5,z6,z7⟩:=hV7.vr.zc
   have HR0:=Lib.hid (hV7.vr.res u)
   clear hV7 HS6
   go_wp2_with fail
   refine bodyPost_ret (results_cell_row2 rfl _ _ (w.heap.size+3) 28 (uL u) (0,0) _ rfl HR0.out.2 Tryz.underlying28 rfl (by kernel_rfl)) rfl ?_
   exact ⟨rfl,HR0.out.1⟩
theorem rfac_to (w d m:W4):(toB (facN w d m)=false→facB w d m=false)∧(toW (facN w d m)=(0,0,0,0)→facB w d m=false)∧(0 < uCmp (toW (facN w d m)) sqW→facB w d m=false) ∧
  (toB (facN w d m)=true→toW (facN w d m)≠(0,0,0,0)→¬ 0 < uCmp (toW (facN w d m)) sqW→facB w d m=true∧facW w d m=toW (facN w d m))∧(facB w d m=false→facW w d m=(0,0,0,0)):=by
 unfold toB toW W256
 by_cases hb:facN w d m < 115792089237316195423570985008687907853269984665640564039457584007913129639936
 ·rw [if_pos hb,decide_eq_true hb]
  refine ⟨fun h=>(by cases h),fun h => ?_,fun h => ?_,fun _ h1 h2 => ?_,fac_no⟩
  ·have:=u0_iff.1 h
   rw [uN_of hb] at this
   unfold facB; rw [this]; rfl
  ·rw [uCmp_gt0,uN_of hb,sq_nat] at h
   unfold facB
   rw [decide_eq_false (show ¬ facN w d m≤1000000000000000000000000000000000000 by omega),Bool.and_false]
  ·rw [uCmp_gt0,uN_of hb,sq_nat] at h2
   have h1':facN w d m≠0:=fun e=>h1 (by rw [e]; rfl)
   have:facB w d m=true:=by
    unfold facB
    rw [decide_eq_true (show 0 < facN w d m by omega),decide_eq_true (show facN w d m≤1000000000000000000000000000000000000 by omega)]; rfl
   exact ⟨this,by unfold facW; rw [if_pos this]⟩
 ·rw [if_neg hb,decide_eq_false hb]
  have hf:facB w d m=false:=by
   unfold facB
   rw [decide_eq_false (show ¬ facN w d m≤1000000000000000000000000000000000000 by omega),Bool.and_false]
  exact ⟨fun _=>hf,fun _=>hf,fun _=>hf,fun h=>(by cases h),fac_no⟩
theorem rffac_any (x d m:W4) (hx:x.Ok) (hd:d.Ok) (hm:m.Ok) (hd0:uN d≠0) (hm0:uN m≠0) (w:World):Calls Tryz.prog 196 #[uV x,uV d,uV m] w fun e w'=>e = .returned (.tuple #[uV (facW x d m),.bool (facB x d m)])∧Below w.heap.size w w':=by
 have HV:=Lib.hid (VAt.vr (l:=[x,d,m]) (VAt.start w [x,d,m,(0,0,0,0)])).vp
 have l0:=u_len x hx
 have l1:=u_len d hd
 have l2:=u_len m hm
 have l3:=mul_len d m hd hm
 have l4:=u_len sqW sq_ok
 have l5:=mul_len x sqW hx sq_ok
 have HX:Hid (∀ W,VP w [x,d,m] 3 [] W→Calls Tryz.prog 66 #[uV x] W fun e w'=>(∃ v,e = .returned v∧DgAt w' v (digs (uN x)))∧VP w [x,d,m] 3 [] w'):=fun W hW=>(of_w x hx W).mono fun e w' ⟨he,hb⟩=>⟨he,hW.below hb⟩
 have HSQ:Hid (∀ W u,VP w [x,d,m] 3 [] W→DgAt W u (digs (uN x))→Calls Tryz.prog 165 #[] W fun e w'=>e = .returned (uV sqW)∧VP w [x,d,m] 3 [] w'∧DgAt w' u (digs (uN x))):=fun W u hW hu =>
  (rsquare_any W).mono fun e w' ⟨he,hb⟩=>⟨he,hW.below hb,hu.below hb⟩
 have HOS:Hid (∀ W u,VP w [x,d,m] 3 [] W→DgAt W u (digs (uN x))→Calls Tryz.prog 66 #[uV sqW] W fun e w'=>(∃ v,e = .returned v∧DgAt w' v (digs (uN sqW)))∧VP w [x,d,m] 3 [] w'∧DgAt w' u (digs (uN x))):=fun W u hW hu =>
  (of_w sqW sq_ok W).mono fun e w' ⟨he,hb⟩=>⟨he,hW.below hb,hu.below hb⟩
 have HT0:Hid (∀ W u v,VP w [x,d,m] 3 [] W→DgAt W u (digs (uN x))→DgAt W v (digs (uN sqW))→Calls Tryz.prog 65 #[u,v] W fun e w'=>(∃ v,e = .returned v∧DgAt w' v (digs (uN x*uN sqW)))∧VP w [x,d,m] 3 [] w'):=fun W u v hW hu hv =>
  (times_w _ _ (by omega) (by omega) W u v hu hv).mono fun e w' ⟨he,hb⟩=>⟨he,hW.below hb⟩
 have HD:=Lib.hid (of_w d hd)
 have HM:=Lib.hid (of_w m hm)
 have HT:=Lib.hid (times_w (uN d) (uN m) (by omega) (by omega))
 have HQ:=Lib.hid (quorem_w (uN x*uN sqW) (uN d*uN m) (by omega) (by omega) (Nat.mul_ne_zero hd0 hm0))
 have hN:uN x*uN sqW / (uN d*uN m)=facN x d m:=by unfold facN; rw [sq_nat]
 have hl:=digs_mono (Nat.div_le_self (uN x*uN sqW) (uN d*uN m))
 have HU:Hid (∀ ps W u,VP w [x,d,m] 3 ps W→DgAt W u (digs (uN x*uN sqW / (uN d*uN m)))→Calls Tryz.prog 68 #[u] W fun e w'=>e = .returned (.tuple #[uV (toW (facN x d m)),.bool (toB (facN x d m))])∧VP w [x,d,m] 3 ps w'):=fun ps W u hW hu=>by
  rw [← hN]
  exact (tou_w _ (by omega) W u hu).mono fun e w' ⟨he,hb⟩=>⟨he,hW.below hb⟩
 have HP:=Lib.hid (rfac_to x d m)
 have hfo:=toW_ok (facN x d m)
 clear hN hl l0 l1 l2 l3 l4 l5 hd0 hm0
 generalize facW x d m=u at *
 generalize facB x d m=v at *
 generalize toW (facN x d m)=f at *
 generalize toB (facN x d m)=b at *
 generalize uN x*uN sqW / (uN d*uN m)=N2 at *
 generalize uN x*uN sqW % (uN d*uN m)=N3 at *
 generalize uN x*uN sqW=N1 at *
 have HF:Hid (∀ W,Calls Tryz.prog 23 #[uV f,uV sqW] W fun e w'=>e = .returned (.int .i64 (uCmp f sqW))∧Below W.heap.size W w'):=rcmp_u f sqW hfo sq_ok
 go_enter Tryz.func196,Tryz.ntmps196
 go_wp2_with fail
 refine Calls.mono (HX.out _ HV.out) ?_
 rintro e w3 ⟨⟨v3,rfl,hD3⟩,hV3⟩
 have HS3:=Lib.hid (HSQ.out _ _ hV3 hD3)
 clear hV3 hD3 HV HX HSQ
 go_wp2_with fail
 refine Calls.mono HS3.out ?_
 rintro e w4 ⟨rfl,hV4,hD4⟩
 have HS4:=Lib.hid (HOS.out _ _ hV4 hD4)
 clear hV4 hD4 HS3 HOS
 go_wp2_with fail
 refine Calls.mono HS4.out ?_
 rintro e w5 ⟨⟨v5,rfl,hD5⟩,hV5,hD5'⟩
 have HS5:=Lib.hid (HT0.out _ _ _ hV5 hD5' hD5)
 clear hV5 hD5 hD5' HS4 HT0
 go_wp2_with fail
 refine Calls.mono HS5.out ?_
 rintro e w6 ⟨⟨v6,rfl,hD6⟩,hV6⟩
 have HC6:Hid (VP w [x,d,m] 3 [] w6.drew∧DgAt w6.drew v6 (digs N1)):=⟨hV6.drew,hD6.below (bl_drew (Below.refl _ _))⟩
 clear hV6 hD6 HS5
 go_wp2_with fail
 go_upto_region 2 with fail
 refine wp_region_rely [[],[],[1],[],[1,2,3],[1,2,3,4],[0,1,2,3,4,5],[0,1,2,3,4,5,6],[0,1,2,3,4,5,6,7],[0,1,2,3,4,5,6,7],[0,1,2,3,4,5,6,7,8],[0,1,2,3,4,5,6,7,8,9,10]]
  [rgC (fun w'=>VP w [x,d,m] 3 [] w'∧DgAt w' v6 (digs N1)),rgD 0 (N1),rgV 1 (uV d),rgD 2 (uN d),rgV 3 (uV m),rgD 4 (uN m),rgD 5 (uN d*uN m),rgT 6 (N2) (N3),rgT 7 (N2) (N3),rgD 8 (N2),rgD 9 (N3),rgD 10 (N2),rgD 11 (N3)] _ (by kernel_rfl) (by kernel_rfl) (by kernel_rfl)
  (fun vs=>by simp only [rgAct,rgPut,List.setIfInBounds_toArray,List.set_cons_zero,List.set_cons_succ]; exact rfl)
  ⟨fun _ _ _ hb h=>⟨h.1.below hb,h.2.below hb⟩,rgD_st,rgV_st,rgD_st,rgV_st,rgD_st,rgD_st,rgT_st,rgT_st,rgD_st,rgD_st,rgD_st,rgD_st,trivial⟩ ?_ ?_ ?_
 ·refine rgAll_yes rfl HC6.out ?_
  iterate 12 refine rgAll_no rfl ?_
  exact trivial
 ·refine ⟨?_,?_,?_,?_,?_,?_,?_,?_,?_,?_,?_,?_,trivial⟩
  ·rintro vs w1 ⟨hC,_⟩ K hK
   refine rg_move rfl (.inl rfl) rfl (hK _ _ (.inl (Below.refl _ _)) ?_)
   refine rgNew_no rfl ?_
   refine rgNew_yes rfl (fun _=>hC.2) ?_
   iterate 11 refine rgNew_no rfl ?_
   exact trivial
  ·rintro vs w1 ⟨hC,_⟩ K hK
   refine rg_loadU rfl rfl rfl (hC.1.r 1 d rfl) (hK _ _ (.inl (Below.refl _ _)) ?_)
   exact rgNew_one 2 rfl fun _=>rfl
  ·rintro vs w1 ⟨_,e1,_⟩ K hK
   refine rg_fn rfl rfl rfl (by kernel_rfl) (show [vs 1]=_ from by rw [rg1 e1]) (Calls.mono (HD.out _) ?_)
   rintro e w2 ⟨⟨v,rfl,hD⟩,hb⟩
   refine ⟨_,rfl,hK _ _ (.inl hb) ?_⟩
   iterate 3 refine rgNew_no rfl ?_
   refine rgNew_yes rfl (fun _=>hD) ?_
   iterate 9 refine rgNew_no rfl ?_
   exact trivial
  ·rintro vs w1 ⟨hC,_⟩ K hK
   refine rg_loadU rfl rfl rfl (hC.1.r 2 m rfl) (hK _ _ (.inl (Below.refl _ _)) ?_)
   exact rgNew_one 4 rfl fun _=>rfl
  ·rintro vs w1 ⟨_,_,_,e3,_⟩ K hK
   refine rg_fn rfl rfl rfl (by kernel_rfl) (show [vs 3]=_ from by rw [rg1 e3]) (Calls.mono (HM.out _) ?_)
   rintro e w2 ⟨⟨v,rfl,hD⟩,hb⟩
   refine ⟨_,rfl,hK _ _ (.inl hb) ?_⟩
   iterate 5 refine rgNew_no rfl ?_
   refine rgNew_yes rfl (fun _=>hD) ?_
   iterate 7 refine rgNew_no rfl ?_
   exact trivial
  ·rintro vs w1 ⟨_,_,d2,_,d4,_⟩ K hK
   refine rg_fn rfl rfl rfl (by kernel_rfl) rfl (Calls.mono (HT.out _ _ _ d2 d4) ?_)
   rintro e w2 ⟨⟨v,rfl,hD⟩,hb⟩
   refine ⟨_,rfl,hK _ _ (.inl hb) ?_⟩
   iterate 6 refine rgNew_no rfl ?_
   refine rgNew_yes rfl (fun _=>hD) ?_
   iterate 6 refine rgNew_no rfl ?_
   exact trivial
  ·rintro vs w1 ⟨_,d0,_,_,_,_,d5,_⟩ K hK
   refine rg_fn rfl rfl rfl (by kernel_rfl) rfl (Calls.mono (HQ.out _ _ _ d0 d5) ?_)
   rintro e w2 ⟨⟨u,v,rfl,hD1,hD2⟩,hb⟩
   refine ⟨_,rfl,hK _ _ (.inl hb) ?_⟩
   iterate 7 refine rgNew_no rfl ?_
   refine rgNew_yes rfl (fun _=>⟨_,_,rfl,hD1,hD2⟩) ?_
   iterate 5 refine rgNew_no rfl ?_
   exact trivial
  ·rintro vs w1 ⟨_,_,_,_,_,_,_,⟨_,_,e6,d6a,d6b⟩,_⟩ K hK
   refine rg_move rfl (.inl rfl) (rg1 e6) (hK _ _ (.inl (Below.refl _ _)) ?_)
   iterate 8 refine rgNew_no rfl ?_
   refine rgNew_yes rfl (fun _=>⟨_,_,rfl,d6a,d6b⟩) ?_
   iterate 4 refine rgNew_no rfl ?_
   exact trivial
  ·rintro vs w1 ⟨_,_,_,_,_,_,_,_,⟨_,_,e7,d7a,_⟩,_⟩ K hK
   refine rg_extract rfl rfl (rg1 e7) rfl (hK _ _ (.inl (Below.refl _ _)) ?_)
   iterate 9 refine rgNew_no rfl ?_
   refine rgNew_yes rfl (fun _=>d7a) ?_
   iterate 3 refine rgNew_no rfl ?_
   exact trivial
  ·rintro vs w1 ⟨_,_,_,_,_,_,_,_,⟨_,_,e7,_,d7b⟩,_⟩ K hK
   refine rg_extract rfl rfl (rg1 e7) rfl (hK _ _ (.inl (Below.refl _ _)) ?_)
   iterate 10 refine rgNew_no rfl ?_
   refine rgNew_yes rfl (fun _=>d7b) ?_
   iterate 2 refine rgNew_no rfl ?_
   exact trivial
  ·rintro vs w1 ⟨_,_,_,_,_,_,_,_,_,d8,_⟩ K hK
   refine rg_move rfl (.inr rfl) rfl (hK _ _ (.inl (Below.refl _ _)) ?_)
   iterate 11 refine rgNew_no rfl ?_
   refine rgNew_yes rfl (fun _=>d8) ?_
   refine rgNew_no rfl ?_
   exact trivial
  ·rintro vs w1 ⟨_,_,_,_,_,_,_,_,_,_,d9,_,_⟩ K hK
   refine rg_move rfl (.inr rfl) rfl (hK _ _ (.inl (Below.refl _ _)) ?_)
   iterate 12 refine rgNew_no rfl ?_
   refine rgNew_yes rfl (fun _=>d9) ?_
   exact trivial
 ·intro vs w1 hA
  obtain ⟨hC,d0,e1,d2,e3,d4,d5,⟨u6,v6,e6,d6a,d6b⟩,⟨u7,v7,e7,d7a,d7b⟩,d8,d9,d10,d11,_⟩:=hA
  have e1:=rg1 e1
  have e3:=rg1 e3
  have e6:=rg1 e6
  have e7:=rg1 e7
  simp only [e1,e3,e6,e7]
  have hV:=hC.1
  have HD10:Hid (DgAt w1 (vs 10) (digs N2)):=d10
  clear d0 d2 d4 d5 d6a d6b d7a d7b d8 d9 d10 d11 hC HC6 HD HM HT HQ
  generalize vs 10=v10 at *
  generalize vs 0=v0
  generalize vs 2=v2
  generalize vs 4=v4
  generalize vs 5=v5'
  generalize vs 8=v8
  generalize vs 9=v9
  generalize vs 11=v11
  have HS7:=Lib.hid (HU.out _ _ _ hV HD10.out)
  clear hV HD10 HU
  go_wp2_with fail
  refine Calls.mono HS7.out ?_
  rintro e w7 ⟨rfl,hV7⟩
  have hV8:=hV7.alloc f
  clear hV7 HS7
  go_upto_region 4 with fail
  generalize w7.alloc (.cells (uL f) 28)=w8 at *
  generalize w7.heap.size=p10 at *
  have HQ:=Lib.hid hV8.drew
  clear hV8
  cases b with
  | false =>
   have hv:=HP.out.1 rfl
   have hu:=HP.out.2.2.2.2 hv
   subst hv hu
   clear HP
   refine wp_region_rely [[],[0],[0,1],[0,1,2],[0,1,2],[0,1,2,3,4],[0,1,2,3,4,5],[0,1,2,3,4,5,6],[0,1,2,3,4,5,6,7],[0,1,2,3,4,5,6,7],[0,1,2,3,4,5,6,7,8,9],[0,1,2,3,4,5,6,7,8,9,10],[0,1,2,3,4,5,6,7,8,9,10,11]]
    [rgC (VP w [x,d,m] 3 [(p10,f)]),rgV 0 (.bool false),rgV 1 (.bool (!false)),rgV 2 (.bool (!false)),rgV 3 (undef),rgV 4 (undef),rgV 5 (undef),rgV 6 (.bool true),rgV 7 (.bool true),rgV 8 (undef),rgV 9 (undef),rgV 10 (undef),rgV 11 (undef),rgV 12 (.bool true)] _ (by kernel_rfl) (by kernel_rfl) (by kernel_rfl)
    (fun vs=>by simp only [rgAct,rgPut,List.setIfInBounds_toArray,List.set_cons_zero,List.set_cons_succ]; exact rfl)
    ⟨fun _ _ _ hb h=>h.below hb,rgV_st,rgV_st,rgV_st,rgV_st,rgV_st,rgV_st,rgV_st,rgV_st,rgV_st,rgV_st,rgV_st,rgV_st,rgV_st,trivial⟩ ?_ ?_ ?_
   ·refine rgAll_yes rfl HQ.out ?_
    iterate 13 refine rgAll_no rfl ?_
    exact trivial
   ·refine ⟨?_,?_,?_,?_,?_,?_,?_,?_,?_,?_,?_,?_,?_,trivial⟩
    ·rintro vs w1 ⟨_,_⟩ K hK
     refine rg_move rfl (.inl rfl) rfl (hK _ _ (.inl (Below.refl _ _)) ?_)
     exact rgNew_one 1 rfl fun _=>rfl
    ·rintro vs w1 ⟨_,e0,_⟩ K hK
     refine rg_not rfl rfl (rg1 e0) (hK _ _ (.inl (Below.refl _ _)) ?_)
     exact rgNew_one 2 rfl fun _=>rfl
    ·rintro vs w1 ⟨_,_,e1,_⟩ K hK
     refine rg_move rfl (.inl rfl) (rg1 e1) (hK _ _ (.inl (Below.refl _ _)) ?_)
     exact rgNew_one 3 rfl fun _=>rfl
    ·rintro vs w1 ⟨_,_,_,e2,_⟩ K hK
     refine rg_out (rg_unwanted rfl rfl rfl (rg1 e2) rfl) (hK _ _ (.inl (Below.refl _ _)) ?_)
     exact rgNew_one 4 rfl fun _=>rfl
    ·rintro vs w1 ⟨_,_,_,e2,_⟩ K hK
     refine rg_out (rg_unwanted rfl rfl rfl (rg1 e2) rfl) (hK _ _ (.inl (Below.refl _ _)) ?_)
     exact rgNew_one 5 rfl fun _=>rfl
    ·rintro vs w1 ⟨_,_,_,e2,_,_,_⟩ K hK
     refine rg_out (rg_unwanted rfl rfl rfl (rg1 e2) rfl) (hK _ _ (.inl (Below.refl _ _)) ?_)
     exact rgNew_one 6 rfl fun _=>rfl
    ·rintro vs w1 ⟨_,_,_,e2,_,_,_,_⟩ K hK
     refine rg_pick rfl rfl (rg1 e2) rfl (hK _ _ (.inl (Below.refl _ _)) ?_)
     exact rgNew_one 7 rfl fun _=>rfl
    ·rintro vs w1 ⟨_,_,_,_,_,_,_,e6,_⟩ K hK
     refine rg_move rfl (.inl rfl) (rg1 e6) (hK _ _ (.inl (Below.refl _ _)) ?_)
     exact rgNew_one 8 rfl fun _=>rfl
    ·rintro vs w1 ⟨_,_,_,_,_,_,_,_,e7,_⟩ K hK
     refine rg_out (rg_unwanted rfl rfl rfl (rg1 e7) rfl) (hK _ _ (.inl (Below.refl _ _)) ?_)
     exact rgNew_one 9 rfl fun _=>rfl
    ·rintro vs w1 ⟨_,_,_,_,_,_,_,_,e7,_⟩ K hK
     refine rg_out (rg_unwanted rfl rfl rfl (rg1 e7) rfl) (hK _ _ (.inl (Below.refl _ _)) ?_)
     exact rgNew_one 10 rfl fun _=>rfl
    ·rintro vs w1 ⟨_,_,_,_,_,_,_,_,e7,_,_,_⟩ K hK
     refine rg_out (rg_unwanted rfl rfl rfl (rg1 e7) rfl) (hK _ _ (.inl (Below.refl _ _)) ?_)
     exact rgNew_one 11 rfl fun _=>rfl
    ·rintro vs w1 ⟨_,_,_,_,_,_,_,_,e7,_,_,_,_⟩ K hK
     refine rg_out (rg_unwanted rfl rfl rfl (rg1 e7) rfl) (hK _ _ (.inl (Below.refl _ _)) ?_)
     exact rgNew_one 12 rfl fun _=>rfl
    ·rintro vs w1 ⟨_,_,_,_,_,_,_,_,e7,_,_,_,_,_⟩ K hK
     refine rg_pick rfl rfl (rg1 e7) rfl (hK _ _ (.inl (Below.refl _ _)) ?_)
     exact rgNew_one 13 rfl fun _=>rfl
   ·intro vs w1 hA
    obtain ⟨hC,e0,e1,e2,e3,e4,e5,e6,e7,e8,e9,e10,e11,e12,_⟩:=hA
    have e0:=rg1 e0
    have e1:=rg1 e1
    have e2:=rg1 e2
    have e3:=rg1 e3
    have e4:=rg1 e4
    have e5:=rg1 e5
    have e6:=rg1 e6
    have e7:=rg1 e7
    have e8:=rg1 e8
    have e9:=rg1 e9
    have e10:=rg1 e10
    have e11:=rg1 e11
    have e12:=rg1 e12
    simp only [e0,e1,e2,e3,e4,e5,e6,e7,e8,e9,e10,e11,e12]
    have HR:=Lib.hid (hC.vr.res (0,0,0,0))
    obtain ⟨z,z0,z1,z2,z3,z4,z5,z6,z7⟩:=hC.vr.zc
    clear hC
    go_wp2_with fail
    refine bodyPost_ret (results_cell_row2 rfl _ _ (w.heap.size+3) 28 (uL (0,0,0,0)) (0,0) _ rfl HR.out.2 Tryz.underlying28 rfl (by kernel_rfl)) rfl ?_
    exact ⟨rfl,HR.out.1⟩
  | true =>
   by_cases hz:f=(0,0,0,0)
   ·have hv:=HP.out.2.1 hz
    have hu:=HP.out.2.2.2.2 hv
    have hz0:=decide_eq_true hz
    subst hv hu
    clear HP
    refine wp_region_rely [[],[0],[0,1],[0,1,2],[0,1,2],[0,1,2,3,4],[0,1,2,3,4,5],[0,1,2,3,4,5,6],[0,1,2,3,4,5,6,7],[0,1,2,3,4,5,6,7],[0,1,2,3,4,5,6,7,8,9],[0,1,2,3,4,5,6,7,8,9,10],[0,1,2,3,4,5,6,7,8,9,10,11]]
     [rgC (VP w [x,d,m] 3 [(p10,f)]),rgV 0 (.bool true),rgV 1 (.bool (!true)),rgV 2 (.bool (!true)),rgV 3 (uV f),rgV 4 (uV (0,0,0,0)),rgV 5 (.bool true),rgV 6 (.bool true),rgV 7 (.bool true),rgV 8 (undef),rgV 9 (undef),rgV 10 (undef),rgV 11 (undef),rgV 12 (.bool true)] _ (by kernel_rfl) (by kernel_rfl) (by kernel_rfl)
     (fun vs=>by simp only [rgAct,rgPut,List.setIfInBounds_toArray,List.set_cons_zero,List.set_cons_succ]; exact rfl)
     ⟨fun _ _ _ hb h=>h.below hb,rgV_st,rgV_st,rgV_st,rgV_st,rgV_st,rgV_st,rgV_st,rgV_st,rgV_st,rgV_st,rgV_st,rgV_st,rgV_st,trivial⟩ ?_ ?_ ?_
    ·refine rgAll_yes rfl HQ.out ?_
     iterate 13 refine rgAll_no rfl ?_
     exact trivial
    ·refine ⟨?_,?_,?_,?_,?_,?_,?_,?_,?_,?_,?_,?_,?_,trivial⟩
     ·rintro vs w1 ⟨_,_⟩ K hK
      refine rg_move rfl (.inl rfl) rfl (hK _ _ (.inl (Below.refl _ _)) ?_)
      exact rgNew_one 1 rfl fun _=>rfl
     ·rintro vs w1 ⟨_,e0,_⟩ K hK
      refine rg_not rfl rfl (rg1 e0) (hK _ _ (.inl (Below.refl _ _)) ?_)
      exact rgNew_one 2 rfl fun _=>rfl
     ·rintro vs w1 ⟨_,_,e1,_⟩ K hK
      refine rg_move rfl (.inl rfl) (rg1 e1) (hK _ _ (.inl (Below.refl _ _)) ?_)
      exact rgNew_one 3 rfl fun _=>rfl
     ·rintro vs w1 ⟨hC,_,_,e2,_⟩ K hK
      refine rg_loadU (rg_wanted rfl rfl rfl (rg1 e2)) rfl rfl hC.p0 (hK _ _ (.inl (Below.refl _ _)) ?_)
      exact rgNew_one 4 rfl fun _=>rfl
     ·rintro vs w1 ⟨_,_,_,e2,_⟩ K hK
      refine rg_build0 (rg_wanted rfl rfl rfl (rg1 e2)) rfl (hK _ _ (.inl (Below.refl _ _)) ?_)
      exact rgNew_one 5 rfl fun _=>rfl
     ·rintro vs w1 ⟨_,_,_,e2,e3,e4,_⟩ K hK
      refine rg_eqlU (rg_wanted rfl rfl rfl (rg1 e2)) rfl (rg1 e3) (rg1 e4) hz0 (hK _ _ (.inl (Below.refl _ _)) ?_)
      exact rgNew_one 6 rfl fun _=>rfl
     ·rintro vs w1 ⟨_,_,_,e2,_,_,e5,_⟩ K hK
      refine rg_pick rfl rfl (rg1 e2) (rg1 e5) (hK _ _ (.inl (Below.refl _ _)) ?_)
      exact rgNew_one 7 rfl fun _=>rfl
     ·rintro vs w1 ⟨_,_,_,_,_,_,_,e6,_⟩ K hK
      refine rg_move rfl (.inl rfl) (rg1 e6) (hK _ _ (.inl (Below.refl _ _)) ?_)
      exact rgNew_one 8 rfl fun _=>rfl
     ·rintro vs w1 ⟨_,_,_,_,_,_,_,_,e7,_⟩ K hK
      refine rg_out (rg_unwanted rfl rfl rfl (rg1 e7) rfl) (hK _ _ (.inl (Below.refl _ _)) ?_)
      exact rgNew_one 9 rfl fun _=>rfl
     ·rintro vs w1 ⟨_,_,_,_,_,_,_,_,e7,_⟩ K hK
      refine rg_out (rg_unwanted rfl rfl rfl (rg1 e7) rfl) (hK _ _ (.inl (Below.refl _ _)) ?_)
      exact rgNew_one 10 rfl fun _=>rfl
     ·rintro vs w1 ⟨_,_,_,_,_,_,_,_,e7,_,_,_⟩ K hK
      refine rg_out (rg_unwanted rfl rfl rfl (rg1 e7) rfl) (hK _ _ (.inl (Below.refl _ _)) ?_)
      exact rgNew_one 11 rfl fun _=>rfl
     ·rintro vs w1 ⟨_,_,_,_,_,_,_,_,e7,_,_,_,_⟩ K hK
      refine rg_out (rg_unwanted rfl rfl rfl (rg1 e7) rfl) (hK _ _ (.inl (Below.refl _ _)) ?_)
      exact rgNew_one 12 rfl fun _=>rfl
     ·rintro vs w1 ⟨_,_,_,_,_,_,_,_,e7,_,_,_,_,_⟩ K hK
      refine rg_pick rfl rfl (rg1 e7) rfl (hK _ _ (.inl (Below.refl _ _)) ?_)
      exact rgNew_one 13 rfl fun _=>rfl
    ·intro vs w1 hA
     obtain ⟨hC,e0,e1,e2,e3,e4,e5,e6,e7,e8,e9,e10,e11,e12,_⟩:=hA
     have e0:=rg1 e0
     have e1:=rg1 e1
     have e2:=rg1 e2
     have e3:=rg1 e3
     have e4:=rg1 e4
     have e5:=rg1 e5
     have e6:=rg1 e6
     have e7:=rg1 e7
     have e8:=rg1 e8
     have e9:=rg1 e9
     have e10:=rg1 e10
     have e11:=rg1 e11
     have e12:=rg1 e12
     simp only [e0,e1,e2,e3,e4,e5,e6,e7,e8,e9,e10,e11,e12]
     have HR:=Lib.hid (hC.vr.res (0,0,0,0))
     obtain ⟨z,z0,z1,z2,z3,z4,z5,z6,z7⟩:=hC.vr.zc
     clear hC
     go_wp2_with fail
     refine bodyPost_ret (results_cell_row2 rfl _ _ (w.heap.size+3) 28 (uL (0,0,0,0)) (0,0) _ rfl HR.out.2 Tryz.underlying28 rfl (by kernel_rfl)) rfl ?_
     exact ⟨rfl,HR.out.1⟩
   ·have hz0:=decide_eq_false hz
    by_cases hgt:0 < uCmp f sqW
    ·have hv:=HP.out.2.2.1 hgt
     have hu:=HP.out.2.2.2.2 hv
     have hc:=decide_eq_true hgt
     subst hv hu
     clear HP
     refine wp_region_rely [[],[0],[0,1],[0,1,2],[0,1,2],[0,1,2,3,4],[0,1,2,3,4,5],[0,1,2,3,4,5,6],[0,1,2,3,4,5,6,7],[0,1,2,3,4,5,6,7],[0,1,2,3,4,5,6,7,8,9],[0,1,2,3,4,5,6,7,8,9,10],[0,1,2,3,4,5,6,7,8,9,10,11]]
      [rgC (VP w [x,d,m] 3 [(p10,f)]),rgV 0 (.bool true),rgV 1 (.bool (!true)),rgV 2 (.bool (!true)),rgV 3 (uV f),rgV 4 (uV (0,0,0,0)),rgV 5 (.bool false),rgV 6 (.bool false),rgV 7 (.bool false),rgV 8 (uV f),rgV 9 (uV sqW),rgV 10 (.int .i64 (uCmp f sqW)),rgV 11 (.bool true),rgV 12 (.bool true)] _ (by kernel_rfl) (by kernel_rfl) (by kernel_rfl)
      (fun vs=>by simp only [rgAct,rgPut,List.setIfInBounds_toArray,List.set_cons_zero,List.set_cons_succ]; exact rfl)
      ⟨fun _ _ _ hb h=>h.below hb,rgV_st,rgV_st,rgV_st,rgV_st,rgV_st,rgV_st,rgV_st,rgV_st,rgV_st,rgV_st,rgV_st,rgV_st,rgV_st,trivial⟩ ?_ ?_ ?_
     ·refine rgAll_yes rfl HQ.out ?_
      iterate 13 refine rgAll_no rfl ?_
      exact trivial
     ·refine ⟨?_,?_,?_,?_,?_,?_,?_,?_,?_,?_,?_,?_,?_,trivial⟩
      ·rintro vs w1 ⟨_,_⟩ K hK
       refine rg_move rfl (.inl rfl) rfl (hK _ _ (.inl (Below.refl _ _)) ?_)
       exact rgNew_one 1 rfl fun _=>rfl
      ·rintro vs w1 ⟨_,e0,_⟩ K hK
       refine rg_not rfl rfl (rg1 e0) (hK _ _ (.inl (Below.refl _ _)) ?_)
       exact rgNew_one 2 rfl fun _=>rfl
      ·rintro vs w1 ⟨_,_,e1,_⟩ K hK
       refine rg_move rfl (.inl rfl) (rg1 e1) (hK _ _ (.inl (Below.refl _ _)) ?_)
       exact rgNew_one 3 rfl fun _=>rfl
      ·rintro vs w1 ⟨hC,_,_,e2,_⟩ K hK
       refine rg_loadU (rg_wanted rfl rfl rfl (rg1 e2)) rfl rfl hC.p0 (hK _ _ (.inl (Below.refl _ _)) ?_)
       exact rgNew_one 4 rfl fun _=>rfl
      ·rintro vs w1 ⟨_,_,_,e2,_⟩ K hK
       refine rg_build0 (rg_wanted rfl rfl rfl (rg1 e2)) rfl (hK _ _ (.inl (Below.refl _ _)) ?_)
       exact rgNew_one 5 rfl fun _=>rfl
      ·rintro vs w1 ⟨_,_,_,e2,e3,e4,_⟩ K hK
       refine rg_eqlU (rg_wanted rfl rfl rfl (rg1 e2)) rfl (rg1 e3) (rg1 e4) hz0 (hK _ _ (.inl (Below.refl _ _)) ?_)
       exact rgNew_one 6 rfl fun _=>rfl
      ·rintro vs w1 ⟨_,_,_,e2,_,_,e5,_⟩ K hK
       refine rg_pick rfl rfl (rg1 e2) (rg1 e5) (hK _ _ (.inl (Below.refl _ _)) ?_)
       exact rgNew_one 7 rfl fun _=>rfl
      ·rintro vs w1 ⟨_,_,_,_,_,_,_,e6,_⟩ K hK
       refine rg_move rfl (.inl rfl) (rg1 e6) (hK _ _ (.inl (Below.refl _ _)) ?_)
       exact rgNew_one 8 rfl fun _=>rfl
      ·rintro vs w1 ⟨hC,_,_,_,_,_,_,_,e7,_⟩ K hK
       refine rg_loadU (rg_wanted rfl rfl rfl (rg1 e7)) rfl rfl hC.p0 (hK _ _ (.inl (Below.refl _ _)) ?_)
       exact rgNew_one 9 rfl fun _=>rfl
      ·rintro vs w1 ⟨_,_,_,_,_,_,_,_,e7,_⟩ K hK
       refine rg_fn (rg_wanted rfl rfl rfl (rg1 e7)) rfl rfl (by kernel_rfl) rfl (Calls.mono (rsquare_any _) ?_)
       rintro e w2 ⟨rfl,hb⟩
       refine ⟨_,rfl,hK _ _ (.inl hb) ?_⟩
       exact rgNew_one 10 rfl fun _=>rfl
      ·rintro vs w1 ⟨_,_,_,_,_,_,_,_,e7,e8,e9,_⟩ K hK
       refine rg_fn (rg_wanted rfl rfl rfl (rg1 e7)) rfl rfl (by kernel_rfl) (show [vs 8,vs 9]=_ from by rw [rg1 e8,rg1 e9]) (Calls.mono (HF.out _) ?_)
       rintro e w2 ⟨rfl,hb⟩
       refine ⟨_,rfl,hK _ _ (.inl hb) ?_⟩
       exact rgNew_one 11 rfl fun _=>rfl
      ·rintro vs w1 ⟨_,_,_,_,_,_,_,_,e7,_,_,e10,_⟩ K hK
       refine rg_gtr0 (rg_wanted rfl rfl rfl (rg1 e7)) rfl (rg1 e10) hc (hK _ _ (.inl (Below.refl _ _)) ?_)
       exact rgNew_one 12 rfl fun _=>rfl
      ·rintro vs w1 ⟨_,_,_,_,_,_,_,_,e7,_,_,_,e11,_⟩ K hK
       refine rg_pick rfl rfl (rg1 e7) (rg1 e11) (hK _ _ (.inl (Below.refl _ _)) ?_)
       exact rgNew_one 13 rfl fun _=>rfl
     ·intro vs w1 hA
      obtain ⟨hC,e0,e1,e2,e3,e4,e5,e6,e7,e8,e9,e10,e11,e12,_⟩:=hA
      have e0:=rg1 e0
      have e1:=rg1 e1
      have e2:=rg1 e2
      have e3:=rg1 e3
      have e4:=rg1 e4
      have e5:=rg1 e5
      have e6:=rg1 e6
      have e7:=rg1 e7
      have e8:=rg1 e8
      have e9:=rg1 e9
      have e10:=rg1 e10
      have e11:=rg1 e11
      have e12:=rg1 e12
      simp only [e0,e1,e2,e3,e4,e5,e6,e7,e8,e9,e10,e11,e12]
      have HR:=Lib.hid (hC.vr.res (0,0,0,0))
      obtain ⟨z,z0,z1,z2,z3,z4,z5,z6,z7⟩:=hC.vr.zc
      clear hC
      go_wp2_with fail
      refine bodyPost_ret (results_cell_row2 rfl _ _ (w.heap.size+3) 28 (uL (0,0,0,0)) (0,0) _ rfl HR.out.2 Tryz.underlying28 rfl (by kernel_rfl)) rfl ?_
      exact ⟨rfl,HR.out.1⟩
    ·obtain ⟨hv,hu⟩:=HP.out.2.2.2.1 (by trivial) hz (by first | exact hgt | exact Int.not_lt.1 hgt)
     have hc:=decide_eq_false hgt
     obtain rfl:=hv
     obtain rfl:=hu.symm
     clear HP
     refine wp_region_rely [[],[0],[0,1],[0,1,2],[0,1,2],[0,1,2,3,4],[0,1,2,3,4,5],[0,1,2,3,4,5,6],[0,1,2,3,4,5,6,7],[0,1,2,3,4,5,6,7],[0,1,2,3,4,5,6,7,8,9],[0,1,2,3,4,5,6,7,8,9,10],[0,1,2,3,4,5,6,7,8,9,10,11]]
      [rgC (VP w [x,d,m] 3 [(p10,f)]),rgV 0 (.bool true),rgV 1 (.bool (!true)),rgV 2 (.bool (!true)),rgV 3 (uV f),rgV 4 (uV (0,0,0,0)),rgV 5 (.bool false),rgV 6 (.bool false),rgV 7 (.bool false),rgV 8 (uV f),rgV 9 (uV sqW),rgV 10 (.int .i64 (uCmp f sqW)),rgV 11 (.bool false),rgV 12 (.bool false)] _ (by kernel_rfl) (by kernel_rfl) (by kernel_rfl)
      (fun vs=>by simp only [rgAct,rgPut,List.setIfInBounds_toArray,List.set_cons_zero,List.set_cons_succ]; exact rfl)
      ⟨fun _ _ _ hb h=>h.below hb,rgV_st,rgV_st,rgV_st,rgV_st,rgV_st,rgV_st,rgV_st,rgV_st,rgV_st,rgV_st,rgV_st,rgV_st,rgV_st,trivial⟩ ?_ ?_ ?_
     ·refine rgAll_yes rfl HQ.out ?_
      iterate 13 refine rgAll_no rfl ?_
      exact trivial
     ·refine ⟨?_,?_,?_,?_,?_,?_,?_,?_,?_,?_,?_,?_,?_,trivial⟩
      ·rintro vs w1 ⟨_,_⟩ K hK
       refine rg_move rfl (.inl rfl) rfl (hK _ _ (.inl (Below.refl _ _)) ?_)
       exact rgNew_one 1 rfl fun _=>rfl
      ·rintro vs w1 ⟨_,e0,_⟩ K hK
       refine rg_not rfl rfl (rg1 e0) (hK _ _ (.inl (Below.refl _ _)) ?_)
       exact rgNew_one 2 rfl fun _=>rfl
      ·rintro vs w1 ⟨_,_,e1,_⟩ K hK
       refine rg_move rfl (.inl rfl) (rg1 e1) (hK _ _ (.inl (Below.refl _ _)) ?_)
       exact rgNew_one 3 rfl fun _=>rfl
      ·rintro vs w1 ⟨hC,_,_,e2,_⟩ K hK
       refine rg_loadU (rg_wanted rfl rfl rfl (rg1 e2)) rfl rfl hC.p0 (hK _ _ (.inl (Below.refl _ _)) ?_)
       exact rgNew_one 4 rfl fun _=>rfl
      ·rintro vs w1 ⟨_,_,_,e2,_⟩ K hK
       refine rg_build0 (rg_wanted rfl rfl rfl (rg1 e2)) rfl (hK _ _ (.inl (Below.refl _ _)) ?_)
       exact rgNew_one 5 rfl fun _=>rfl
      ·rintro vs w1 ⟨_,_,_,e2,e3,e4,_⟩ K hK
       refine rg_eqlU (rg_wanted rfl rfl rfl (rg1 e2)) rfl (rg1 e3) (rg1 e4) hz0 (hK _ _ (.inl (Below.refl _ _)) ?_)
       exact rgNew_one 6 rfl fun _=>rfl
      ·rintro vs w1 ⟨_,_,_,e2,_,_,e5,_⟩ K hK
       refine rg_pick rfl rfl (rg1 e2) (rg1 e5) (hK _ _ (.inl (Below.refl _ _)) ?_)
       exact rgNew_one 7 rfl fun _=>rfl
      ·rintro vs w1 ⟨_,_,_,_,_,_,_,e6,_⟩ K hK
       refine rg_move rfl (.inl rfl) (rg1 e6) (hK _ _ (.inl (Below.refl _ _)) ?_)
       exact rgNew_one 8 rfl fun _=>rfl
      ·rintro vs w1 ⟨hC,_,_,_,_,_,_,_,e7,_⟩ K hK
       refine rg_loadU (rg_wanted rfl rfl rfl (rg1 e7)) rfl rfl hC.p0 (hK _ _ (.inl (Below.refl _ _)) ?_)
       exact rgNew_one 9 rfl fun _=>rfl
      ·rintro vs w1 ⟨_,_,_,_,_,_,_,_,e7,_⟩ K hK
       refine rg_fn (rg_wanted rfl rfl rfl (rg1 e7)) rfl rfl (by kernel_rfl) rfl (Calls.mono (rsquare_any _) ?_)
       rintro e w2 ⟨rfl,hb⟩
       refine ⟨_,rfl,hK _ _ (.inl hb) ?_⟩
       exact rgNew_one 10 rfl fun _=>rfl
      ·rintro vs w1 ⟨_,_,_,_,_,_,_,_,e7,e8,e9,_⟩ K hK
       refine rg_fn (rg_wanted rfl rfl rfl (rg1 e7)) rfl rfl (by kernel_rfl) (show [vs 8,vs 9]=_ from by rw [rg1 e8,rg1 e9]) (Calls.mono (HF.out _) ?_)
       rintro e w2 ⟨rfl,hb⟩
       refine ⟨_,rfl,hK _ _ (.inl hb) ?_⟩
       exact rgNew_one 11 rfl fun _=>rfl
      ·rintro vs w1 ⟨_,_,_,_,_,_,_,_,e7,_,_,e10,_⟩ K hK
       refine rg_gtr0 (rg_wanted rfl rfl rfl (rg1 e7)) rfl (rg1 e10) hc (hK _ _ (.inl (Below.refl _ _)) ?_)
       exact rgNew_one 12 rfl fun _=>rfl
      ·rintro vs w1 ⟨_,_,_,_,_,_,_,_,e7,_,_,_,e11,_⟩ K hK
       refine rg_pick rfl rfl (rg1 e7) (rg1 e11) (hK _ _ (.inl (Below.refl _ _)) ?_)
       exact rgNew_one 13 rfl fun _=>rfl
     ·intro vs w1 hA
      obtain ⟨hC,e0,e1,e2,e3,e4,e5,e6,e7,e8,e9,e10,e11,e12,_⟩:=hA
      have e0:=rg1 e0
      have e1:=rg1 e1
      have e2:=rg1 e2
      have e3:=rg1 e3
      have e4:=rg1 e4
      have e5:=rg1 e5
      have e6:=rg1 e6
      have e7:=rg1 e7
      have e8:=rg1 e8
      have e9:=rg1 e9
      have e10:=rg1 e10
      have e11:=rg1 e11
      have e12:=rg1 e12
      simp only [e0,e1,e2,e3,e4,e5,e6,e7,e8,e9,e10,e11,e12]
      have HR:=Lib.hid (hC.vr.res f)
      obtain ⟨z,z0,z1,z2,z3,z4,z5,z6,z7⟩:=hC.vr.zc
      obtain ⟨f0,f1,f2,f3,_⟩:=row4 hC.p0
      clear hC
      go_wp2_with fail
      refine bodyPost_ret (results_cell_row2 rfl _ _ (w.heap.size+3) 28 (uL f) (0,0) _ rfl HR.out.2 Tryz.underlying28 rfl (by kernel_rfl)) rfl ?_
      exact ⟨rfl,HR.out.1⟩
theorem good_one {d f m:W4} (h:goodB d f m=true):goodB d f oneW=true:=by
 obtain ⟨h1,h2,_⟩:=good_iff.1 h
 exact good_iff.2 ⟨h1,h2,by rw [one_nat]; exact Nat.le_refl _⟩
theorem rfgrow_any (d f m x:W4) (hd:d.Ok) (hf:f.Ok) (hm:m.Ok) (hx:x.Ok) (w:World):Calls Tryz.prog 144 #[uV d,uV f,uV m,uV x] w fun e w'=>e = .returned (.tuple #[uV (growW d f m x),.bool (growB d f m x)])∧Below w.heap.size w w':=by
 have HV:=Lib.hid (VAt.vr (l:=[d,f,m,x]) (VAt.start w [d,f,m,x,(0,0,0,0)])).vp
 have HW:Hid (∀ W,VP w [d,f,m,x] 4 [] W→Calls Tryz.prog 92 #[uV d,uV f,uV m] W fun e w'=>e = .returned (.tuple #[uV (worthW d f m),.bool (goodB d f m)])∧VP w [d,f,m,x] 4 [] w'):=fun W hW =>
  (rfworth_any d f m hd hf hm W).mono fun e w' ⟨he,hb⟩=>⟨he,hW.below hb⟩
 have HS:Hid (∀ ps W,VP w [d,f,m,x] 4 ps W→Calls Tryz.prog 21 #[uV d,uV x] W fun e w'=>e = .returned (.tuple #[uV (sumW d x),.bool (sumB d x)])∧VP w [d,f,m,x] 4 ps w'):=fun ps W hW =>
  (radd_u d x hd hx W).mono fun e w' ⟨he,hb⟩=>⟨he,hW.below hb⟩
 have HA:Hid (∀ ps W,VP w [d,f,m,x] 4 ps W→Calls Tryz.prog 143 #[uV (sumW d x)] W fun e w'=>e = .returned (.bool (decide (uN (sumW d x) < M128)))∧VP w [d,f,m,x] 4 ps w'):=fun ps W hW =>
  (ramount_any _ (toW_ok _) W).mono fun e w' ⟨he,hb⟩=>⟨he,hW.below hb⟩
 have HT:Hid (∀ ps W,VP w [d,f,m,x] 4 ps W→Calls Tryz.prog 21 #[uV (worthW d f m),uV x] W fun e w'=>e = .returned (.tuple #[uV (sumW (worthW d f m) x),.bool (sumB (worthW d f m) x)])∧VP w [d,f,m,x] 4 ps w'):=fun ps W hW =>
  (radd_u _ x (worthW_ok _ _ _) hx W).mono fun e w' ⟨he,hb⟩=>⟨he,hW.below hb⟩
 have HN0:Hid (growB d f m x=false→growW d f m x=(0,0,0,0)):=grow_no
 have HN1:Hid (goodB d f m=false→growB d f m x=false):=grow_n1
 have HN2:Hid (m=(0,0,0,0)→growB d f m x=false):=grow_n2
 have HN3:Hid (x=(0,0,0,0)→growB d f m x=false):=grow_n3
 have HN4:Hid (¬ (sumB d x=true∧decide (uN (sumW d x) < M128)=true)→growB d f m x=false):=fun h=>grow_n4 (fun e=>h (by rw [decide_eq_true_eq]; exact sum_amt.2 e))
 have HGO:Hid (goodB d f m=true→m≠(0,0,0,0)→x≠(0,0,0,0)→sumB d x=true→decide (uN (sumW d x) < M128)=true→(growB d f m x=facB (sumW (worthW d f m) x) (sumW d x) m∧growW d f m x=facW (sumW (worthW d f m) x) (sumW d x) m) ∧
   ∀ ps W,VP w [d,f,m,x] 4 ps W→Calls Tryz.prog 196 #[uV (sumW (worthW d f m) x),uV (sumW d x),uV m] W fun e w'=>e = .returned (.tuple #[uV (growW d f m x),.bool (growB d f m x)])∧VP w [d,f,m,x] 4 ps w'):=fun h1 h2 h3 h4 h5=>by
  obtain ⟨q1,q2,_,_⟩:=grow_go h1 h2 h3 (sum_amt.1 ⟨h4,of_decide_eq_true h5⟩)
  refine ⟨⟨q1,q2⟩,fun ps W hW => ?_⟩
  rw [q1,q2]
  exact (rffac_any _ _ m (toW_ok _) (toW_ok _) hm (by show uN (sumW d x)≠0; rw [sum_of (by have:=sum_amt.1 ⟨h4,of_decide_eq_true h5⟩; unfold M128 at this; omega),uN_of (by have:=sum_amt.1 ⟨h4,of_decide_eq_true h5⟩; unfold M128 at this; omega)]; have:uN x≠0:=fun e=>h3 (u0_iff.2 e); omega) (fun e=>h2 (u0_iff.2 e)) W).mono fun e w' ⟨he,hb⟩=>⟨he,hW.below hb⟩
 have hEm:∀ w,(Op.equalIn 10000 28 (uV m) (.agg #[.int .u64 0,.int .u64 0,.int .u64 0,.int .u64 0])).run Tryz.prog w = .ok (decide (m=(0,0,0,0))) w:=fun w=>eqU m (0,0,0,0) w
 have hEx:∀ w,(Op.equalIn 10000 28 (uV x) (.agg #[.int .u64 0,.int .u64 0,.int .u64 0,.int .u64 0])).run Tryz.prog w = .ok (decide (x=(0,0,0,0))) w:=fun w=>eqU x (0,0,0,0) w
 have hm0:decide (m=(0,0,0,0))=true→m=(0,0,0,0):=of_decide_eq_true
 have hm1:decide (m=(0,0,0,0))=false→m≠(0,0,0,0):=of_decide_eq_false
 have hx0:decide (x=(0,0,0,0))=true→x=(0,0,0,0):=of_decide_eq_true
 have hx1:decide (x=(0,0,0,0))=false→x≠(0,0,0,0):=of_decide_eq_false
 have HM0:=Lib.hid (And.intro (And.intro hm0 hm1) (And.intro hx0 hx1))
 clear hm0 hm1 hx0 hx1
 generalize growW d f m x=u at *
 generalize growB d f m x=v at *
 generalize goodB d f m=g at *
 generalize decide (m=(0,0,0,0))=cm at *
 generalize decide (x=(0,0,0,0))=cx at *
 generalize decide (uN (sumW d x) < M128)=am at *
 generalize worthW d f m=wd at *
 generalize sumW wd x=t at *
 generalize sumB wd x=tb at *
 generalize sumW d x=s at *
 generalize sumB d x=sb at *
 go_enter Tryz.func144,Tryz.ntmps144
 go_wp2_with fail
 refine Calls.mono (HW.out _ HV.out) ?_
 rintro e w3 ⟨rfl,hV3⟩
 have hV4:=hV3.alloc wd
 have hp1:=(hV4.p _ _ (List.mem_cons_self ..)).1
 clear hV3 HV HW
 go_upto_region 2 with fail
 generalize w3.alloc (.cells (uL wd) 28)=w4 at *
 generalize w3.heap.size=g1 at *
 obtain ⟨z,z0,z1,z2,z3,z4,z5,z6,z7⟩:=hV4.vr.zc
 obtain ⟨a0,a1,a2,a3,_⟩:=row4 hV4.r0
 obtain ⟨b0,b1,b2,b3,_⟩:=row4 (hV4.r 2 m rfl)
 obtain ⟨c0,c1,c2,c3,_⟩:=row4 (hV4.r 3 x rfl)
 have HV4:=Lib.hid hV4
 have HR0:=Lib.hid (hV4.vr.res (0,0,0,0))
 clear hV4
 cases g with
 | false =>
  obtain rfl:=HN1.out rfl
  obtain rfl:=HN0.out rfl
  clear HS HA HT HN0 HN1 HN2 HN3 HN4 HGO HM0
  go_wp2_with fail
  refine bodyPost_ret (results_cell_row2 rfl _ _ (w.heap.size+4) 28 (uL (0,0,0,0)) (0,0) _ rfl HR0.out.2 Tryz.underlying28 rfl (by kernel_rfl)) rfl ?_
  exact ⟨rfl,HR0.out.1⟩
 | true=>cases cm with
  | true =>
   obtain rfl:=HN2.out (HM0.out.1.1 rfl)
   obtain rfl:=HN0.out rfl
   clear HS HA HT HN0 HN1 HN2 HN3 HN4 HGO HM0
   go_wp2_with fail
   refine bodyPost_ret (results_cell_row2 rfl _ _ (w.heap.size+4) 28 (uL (0,0,0,0)) (0,0) _ rfl HR0.out.2 Tryz.underlying28 rfl (by kernel_rfl)) rfl ?_
   exact ⟨rfl,HR0.out.1⟩
  | false=>cases cx with
   | true =>
    obtain rfl:=HN3.out (HM0.out.2.1 rfl)
    obtain rfl:=HN0.out rfl
    clear HS HA HT HN0 HN1 HN2 HN3 HN4 HGO HM0
    go_wp2_with fail
    refine bodyPost_ret (results_cell_row2 rfl _ _ (w.heap.size+4) 28 (uL (0,0,0,0)) (0,0) _ rfl HR0.out.2 Tryz.underlying28 rfl (by kernel_rfl)) rfl ?_
    exact ⟨rfl,HR0.out.1⟩
   | false =>
    have HG2:=Lib.hid (HGO.out rfl (HM0.out.1.2 rfl) (HM0.out.2.2 rfl))
    clear HN1 HN2 HN3 HM0 HGO HR0
    go_wp2_with fail
    refine Calls.mono (HS.out _ _ HV4.out) ?_
    rintro e w5 ⟨rfl,hV5⟩
    have hV6:=hV5.alloc s
    have hlt:=lt_of_at (hV5.p0)
    clear z z0 z1 z2 z3 z4 z5 z6 z7 a0 a1 a2 a3 b0 b1 b2 b3 c0 c1 c2 c3 HV4 HS hV5
    go_upto_region 5 with fail
    generalize w5.alloc (.cells (uL s) 28)=w6 at *
    generalize w5.heap.size=g2 at *
    obtain ⟨z,z0,z1,z2,z3,z4,z5,z6,z7⟩:=hV6.vr.zc
    obtain ⟨s0,s1,s2,s3,_⟩:=row4 hV6.p0
    have HV6:=Lib.hid hV6
    have HR0:=Lib.hid (hV6.vr.res (0,0,0,0))
    clear hV6
    cases sb with
    | false =>
     obtain rfl:=HN4.out (fun h=>by cases h.1)
     obtain rfl:=HN0.out rfl
     clear HA HT HN0 HN4 HG2
     go_wp2_with fail
     refine bodyPost_ret (results_cell_row2 rfl _ _ (w.heap.size+4) 28 (uL (0,0,0,0)) (0,0) _ rfl HR0.out.2 Tryz.underlying28 rfl (by kernel_rfl)) rfl ?_
     exact ⟨rfl,HR0.out.1⟩
    | true =>
     clear HR0
     go_wp2_with fail
     refine Calls.mono (HA.out _ _ HV6.out) ?_
     rintro e w7 ⟨rfl,hV7⟩
     clear z z0 z1 z2 z3 z4 z5 z6 z7 s0 s1 s2 s3 HV6 HA
     obtain ⟨z,z0,z1,z2,z3,z4,z5,z6,z7⟩:=hV7.vr.zc
     cases am with
     | false =>
      obtain rfl:=HN4.out (fun h=>by cases h.2)
      obtain rfl:=HN0.out rfl
      have HR0:=Lib.hid (hV7.vr.res (0,0,0,0))
      clear hV7 HT HN0 HN4 HG2
      go_wp2_with fail
      refine bodyPost_ret (results_cell_row2 rfl _ _ (w.heap.size+4) 28 (uL (0,0,0,0)) (0,0) _ rfl HR0.out.2 Tryz.underlying28 rfl (by kernel_rfl)) rfl ?_
      exact ⟨rfl,HR0.out.1⟩
     | true =>
      have HG3:=Lib.hid (HG2.out (by trivial) (by trivial)).2
      obtain ⟨y0,y1,y2,y3,_⟩:=row4 hV7.p1
      obtain ⟨c0,c1,c2,c3,_⟩:=row4 (hV7.r 3 x rfl)
      have HV7:=Lib.hid hV7
      clear hV7 HG2 HN0 HN4
      go_wp2_with fail
      refine Calls.mono (HT.out _ _ HV7.out) ?_
      rintro e w8 ⟨rfl,hV8⟩
      have hV9:=hV8.upd (q:=t) (Nat.ne_of_gt hlt)
      clear z z0 z1 z2 z3 z4 z5 z6 z7 y0 y1 y2 y3 c0 c1 c2 c3 HV7 HT
      obtain ⟨y0,y1,y2,y3,y4,y5,y6,y7⟩:=row4 hV8.p1
      clear hV8
      go_upto_region 8 with fail
      generalize (((w8.setCell ⟨g1,0,none⟩ (.int .u64 t.1)).setCell ⟨g1,1,none⟩ (.int .u64 t.2.1)).setCell ⟨g1,2,none⟩ (.int .u64 t.2.2.1)).setCell ⟨g1,3,none⟩ (.int .u64 t.2.2.2)=w9 at *
      clear y0 y1 y2 y3 y4 y5 y6 y7
      obtain ⟨y0,y1,y2,y3,_⟩:=row4 hV9.p1
      obtain ⟨s0,s1,s2,s3,_⟩:=row4 hV9.p0
      obtain ⟨b0,b1,b2,b3,_⟩:=row4 (hV9.r 2 m rfl)
      have HV9:=Lib.hid hV9
      clear hV9
      go_wp2_with fail
      refine Calls.mono (HG3.out _ _ HV9.out) ?_
      rintro e w10 ⟨rfl,hV10⟩
      obtain ⟨z,z0,z1,z2,z3,z4,z5,z6,z7⟩:=hV10.vr.zc
      have HR0:=Lib.hid (hV10.vr.res u)
      clear hV10 HV9 HG3
      go_wp2_with fail
      refine bodyPost_ret (results_cell_row2 rfl _ _ (w.heap.size+4) 28 (uL u) (0,0) _ rfl HR0.out.2 Tryz.underlying28 rfl (by kernel_rfl)) rfl ?_
      exact ⟨rfl,HR0.out.1⟩
theorem rfmove_any (d f m:W4) (hd:d.Ok) (hf:f.Ok) (hm:m.Ok) (w:World):Calls Tryz.prog 150 #[uV d,uV f,uV m] w fun e w'=>e = .returned (.tuple #[uV (moveW d f m),.bool (moveB d f m)])∧Below w.heap.size w w':=by
 have HV:=Lib.hid (VAt.vr (l:=[d,f,m]) (VAt.start w [d,f,m,(0,0,0,0)])).vp
 have HG:Hid (∀ W,VP w [d,f,m] 3 [] W→Calls Tryz.prog 164 #[uV d,uV f,uV m] W fun e w'=>e = .returned (.bool (goodB d f m))∧VP w [d,f,m] 3 [] w'):=fun W hW =>
  (rfgood_any d f m hd hf hm W).mono fun e w' ⟨he,hb⟩=>⟨he,hW.below hb⟩
 have HW:Hid (∀ W,Calls Tryz.prog 92 #[uV d,uV f,uV oneW] W fun e w'=>e = .returned (.tuple #[uV (worthW d f oneW),.bool (goodB d f oneW)])∧Below W.heap.size W w'):=rfworth_any d f oneW hd hf one_ok
 have HN0:Hid (moveB d f m=false→moveW d f m=(0,0,0,0)):=move_no
 have HN1:Hid (goodB d f m=false→moveB d f m=false):=move_n1
 have HN2:Hid (d=(0,0,0,0)→moveB d f m=false):=move_n2
 have HN3:Hid (m=(0,0,0,0)→moveB d f m=false):=move_n3
 have HGO:Hid (goodB d f m=true→d≠(0,0,0,0)→m≠(0,0,0,0)→∀ ps W,VP w [d,f,m] 3 ps W→Calls Tryz.prog 196 #[uV (worthW d f oneW),uV d,uV m] W fun e w'=>e = .returned (.tuple #[uV (moveW d f m),.bool (moveB d f m)])∧VP w [d,f,m] 3 ps w'):=fun h1 h2 h3 ps W hW=>by
  obtain ⟨q1,q2,_,_⟩:=move_go h1 h2 h3
  rw [q1,q2]
  exact (rffac_any _ d m (worthW_ok _ _ _) hd hm (fun e=>h2 (u0_iff.2 e)) (fun e=>h3 (u0_iff.2 e)) W).mono fun e w' ⟨he,hb⟩=>⟨he,hW.below hb⟩
 have hEm:∀ w,(Op.equalIn 10000 28 (uV m) (.agg #[.int .u64 0,.int .u64 0,.int .u64 0,.int .u64 0])).run Tryz.prog w = .ok (decide (m=(0,0,0,0))) w:=fun w=>eqU m (0,0,0,0) w
 have hEd:∀ w,(Op.equalIn 10000 28 (uV d) (.agg #[.int .u64 0,.int .u64 0,.int .u64 0,.int .u64 0])).run Tryz.prog w = .ok (decide (d=(0,0,0,0))) w:=fun w=>eqU d (0,0,0,0) w
 have hm0:decide (m=(0,0,0,0))=true→m=(0,0,0,0):=of_decide_eq_true
 have hm1:decide (m=(0,0,0,0))=false→m≠(0,0,0,0):=of_decide_eq_false
 have hd0:decide (d=(0,0,0,0))=true→d=(0,0,0,0):=of_decide_eq_true
 have hd1:decide (d=(0,0,0,0))=false→d≠(0,0,0,0):=of_decide_eq_false
 have HM0:=Lib.hid (And.intro (And.intro hm0 hm1) (And.intro hd0 hd1))
 clear hm0 hm1 hd0 hd1
 generalize moveW d f m=u at *
 generalize moveB d f m=v at *
 have HGB:Hid (goodB d f m=true→goodB d f oneW=true):=good_one
 generalize goodB d f m=g at *
 generalize goodB d f oneW=gb at *
 generalize decide (m=(0,0,0,0))=cm at *
 generalize decide (d=(0,0,0,0))=cd at *
 generalize worthW d f oneW=wd at *
 go_enter Tryz.func150,Tryz.ntmps150
 go_wp2_with fail
 refine Calls.mono (HG.out _ HV.out) ?_
 rintro e w3 ⟨rfl,hV3⟩
 obtain ⟨z,z0,z1,z2,z3,z4,z5,z6,z7⟩:=hV3.vr.zc
 obtain ⟨a0,a1,a2,a3,_⟩:=row4 hV3.r0
 obtain ⟨b0,b1,b2,b3,_⟩:=row4 (hV3.r 2 m rfl)
 have HV3:=Lib.hid hV3.drew
 have HR0:=Lib.hid (hV3.vr.res (0,0,0,0))
 clear hV3 HV HG
 cases g with
 | false =>
  obtain rfl:=HN1.out rfl
  obtain rfl:=HN0.out rfl
  clear HW HN0 HN1 HN2 HN3 HGO HM0
  go_wp2_with fail
  refine bodyPost_ret (results_cell_row2 rfl _ _ (w.heap.size+3) 28 (uL (0,0,0,0)) (0,0) _ rfl HR0.out.2 Tryz.underlying28 rfl (by kernel_rfl)) rfl ?_
  exact ⟨rfl,HR0.out.1⟩
 | true=>cases cd with
  | true =>
   obtain rfl:=HN2.out (HM0.out.2.1 rfl)
   obtain rfl:=HN0.out rfl
   clear HW HN0 HN1 HN2 HN3 HGO HM0
   go_wp2_with fail
   refine bodyPost_ret (results_cell_row2 rfl _ _ (w.heap.size+3) 28 (uL (0,0,0,0)) (0,0) _ rfl HR0.out.2 Tryz.underlying28 rfl (by kernel_rfl)) rfl ?_
   exact ⟨rfl,HR0.out.1⟩
  | false=>cases cm with
   | true =>
    obtain rfl:=HN3.out (HM0.out.1.1 rfl)
    obtain rfl:=HN0.out rfl
    clear HW HN0 HN1 HN2 HN3 HGO HM0
    go_wp2_with fail
    refine bodyPost_ret (results_cell_row2 rfl _ _ (w.heap.size+3) 28 (uL (0,0,0,0)) (0,0) _ rfl HR0.out.2 Tryz.underlying28 rfl (by kernel_rfl)) rfl ?_
    exact ⟨rfl,HR0.out.1⟩
   | false =>
    have HG2:=Lib.hid (HGO.out rfl (HM0.out.2.2 rfl) (HM0.out.1.2 rfl))
    obtain rfl:=HGB.out rfl
    clear HN0 HN1 HN2 HN3 HM0 HGO HR0
    go_wp2_with fail
    go_upto_region 3 with fail
    refine wp_region_rely [[],[],[],[0,1,2],[0,1,2,3],[0,1,2,3,4],[0,1,2,3,4],[],[0,1,2,3,4,5,7],[0,1,2,3,4,5,6,7,8]]
     [rgC (VP w [d,f,m] 3 []),rgV 0 (uV d),rgV 1 (uV f),rgV 2 (uV oneW),rgV 3 (.tuple #[uV wd,.bool true]),rgV 4 (.tuple #[uV wd,.bool true]),rgV 5 (uV wd),rgV 6 (.bool true),rgP 7 (w.heap.size+4),rgV 9 (.bool true),rgS 7 8 (wd)] _ (by kernel_rfl) (by kernel_rfl) (by kernel_rfl)
     (fun vs=>by simp only [rgAct,rgPut,List.setIfInBounds_toArray,List.set_cons_zero,List.set_cons_succ]; exact rfl)
     ⟨fun _ _ _ hb h=>h.below hb,rgV_st,rgV_st,rgV_st,rgV_st,rgV_st,rgV_st,rgV_st,rgP_st,rgV_st,rgS_st,trivial⟩ ?_ ?_ ?_
    ·refine rgAll_yes rfl HV3.out ?_
     iterate 10 refine rgAll_no rfl ?_
     exact trivial
    ·refine ⟨?_,?_,?_,?_,?_,?_,?_,?_,?_,?_,trivial⟩
     ·rintro vs w1 ⟨hC,_⟩ K hK
      refine rg_loadU rfl rfl rfl hC.r0 (hK _ _ (.inl (Below.refl _ _)) ?_)
      exact rgNew_one 1 rfl fun _=>rfl
     ·rintro vs w1 ⟨hC,_⟩ K hK
      refine rg_loadU rfl rfl rfl (hC.r 1 f rfl) (hK _ _ (.inl (Below.refl _ _)) ?_)
      exact rgNew_one 2 rfl fun _=>rfl
     ·rintro vs w1 ⟨_,_⟩ K hK
      refine rg_fn rfl rfl rfl (by kernel_rfl) rfl (Calls.mono (rone_any _) ?_)
      rintro e w2 ⟨rfl,hb⟩
      refine ⟨_,rfl,hK _ _ (.inl hb) ?_⟩
      exact rgNew_one 3 rfl fun _=>rfl
     ·rintro vs w1 ⟨_,e0,e1,e2,_⟩ K hK
      refine rg_fn rfl rfl rfl (by kernel_rfl) (show [vs 0,vs 1,vs 2]=_ from by rw [rg1 e0,rg1 e1,rg1 e2]) (Calls.mono (HW.out _) ?_)
      rintro e w2 ⟨rfl,hb⟩
      refine ⟨_,rfl,hK _ _ (.inl hb) ?_⟩
      exact rgNew_one 4 rfl fun _=>rfl
     ·rintro vs w1 ⟨_,_,_,_,e3,_⟩ K hK
      refine rg_move rfl (.inl rfl) (rg1 e3) (hK _ _ (.inl (Below.refl _ _)) ?_)
      exact rgNew_one 5 rfl fun _=>rfl
     ·rintro vs w1 ⟨_,_,_,_,_,e4,_⟩ K hK
      refine rg_extract rfl rfl (rg1 e4) rfl (hK _ _ (.inl (Below.refl _ _)) ?_)
      exact rgNew_one 6 rfl fun _=>rfl
     ·rintro vs w1 ⟨_,_,_,_,_,e4,_⟩ K hK
      refine rg_extract rfl rfl (rg1 e4) rfl (hK _ _ (.inl (Below.refl _ _)) ?_)
      exact rgNew_one 7 rfl fun _=>rfl
     ·rintro vs w1 ⟨hC,_⟩ K hK
      refine rg_allocU rfl rfl (hK _ _ (.inl (bl_alloc (Below.refl _ _) _)) ?_)
      iterate 8 refine rgNew_no rfl ?_
      refine rgNew_yes rfl (fun _=>⟨_,_,rfl,hC.lt,heap_alloc_new _ _⟩) ?_
      iterate 2 refine rgNew_no rfl ?_
      exact trivial
     ·rintro vs w1 ⟨hC,_,_,_,_,_,e5,⟨_,_,e7,h7,g7⟩,_⟩ K hK
      refine rg_storeU rfl rfl (rg1 e7) (rg1 e5) g7 (hK _ _ (.inr ?_) ?_)
      ·refine rgStay_yes rfl (fun hC _=>hC.keep h7) ?_
       iterate 7 refine rgStay_yes rfl (fun h _=>h) ?_
       refine rgStay_yes rfl (fun h _=>rgP_put h) ?_
       iterate 2 refine rgStay_no rfl ?_
       exact trivial
      ·iterate 10 refine rgNew_no rfl ?_
       refine rgNew_yes rfl (fun _=>⟨_,_,by show [vs 7,undef]=_; rw [rg1 e7],setRow_heap _ _ _ _ _ _ g7⟩) ?_
       exact trivial
     ·rintro vs w1 ⟨_,_,_,_,_,_,_,e6,_,_,_⟩ K hK
      refine rg_move rfl (.inr rfl) (rg1 e6) (hK _ _ (.inl (Below.refl _ _)) ?_)
      exact rgNew_one 9 rfl fun _=>rfl
    ·intro vs w1 hA
     obtain ⟨hC,e0,e1,e2,e3,e4,e5,e6,⟨p7,_,e7,h7,g7⟩,e9,s8,_⟩:=hA
     have e0:=rg1 e0
     have e1:=rg1 e1
     have e2:=rg1 e2
     have e3:=rg1 e3
     have e4:=rg1 e4
     have e5:=rg1 e5
     have e6:=rg1 e6
     have e7:=rg1 e7
     have e9:=rg1 e9
     have s8:=rgS_at s8 e7
     simp only [e0,e1,e2,e3,e4,e5,e6,e7,e9]
     have HV4:=Lib.hid (hC.more (g:=p7) (x:=wd) (by omega) s8)
     clear z z0 z1 z2 z3 z4 z5 z6 z7 a0 a1 a2 a3 b0 b1 b2 b3
     obtain ⟨a0,a1,a2,a3,_⟩:=row4 hC.r0
     obtain ⟨b0,b1,b2,b3,_⟩:=row4 (hC.r 2 m rfl)
     obtain ⟨c0,c1,c2,c3,_⟩:=row4 s8
     clear e0 e1 e2 e3 e4 e5 e6 e7 e9 g7 s8 hC HV3 HW
     go_wp2_with fail
     refine Calls.mono (HG2.out _ _ HV4.out) ?_
     rintro e w10 ⟨rfl,hV10⟩
     obtain ⟨z,z0,z1,z2,z3,z4,z5,z6,z7⟩:=hV10.vr.zc
     have HR0:=Lib.hid (hV10.vr.res u)
     clear hV10 HV4 HG2
     go_wp2_with fail
     refine bodyPost_ret (results_cell_row2 rfl _ _ (w.heap.size+3) 28 (uL u) (0,0) _ rfl HR0.out.2 Tryz.underlying28 rfl (by kernel_rfl)) rfl ?_
     exact ⟨rfl,HR0.out.1⟩
end Go.Proofs.YtpojljieakdgiaaGreat
