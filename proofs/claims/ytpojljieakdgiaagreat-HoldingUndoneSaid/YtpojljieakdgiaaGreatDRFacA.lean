/- What is proved here: the reference's fractions and amounts (chapter 3), and its factor.Good. Their condition: words below 2^64. -/
import Derived.Test.YtpojljieakdgiaaGreatDFacG
import Derived.Test.YtpojljieakdgiaaGreatDRDown
set_option maxRecDepth 100000
set_option maxHeartbeats 16000000
namespace Go.Proofs.YtpojljieakdgiaaGreat
open Go.RowKit
theorem rone_any (w:World):Calls Tryz.prog 90 #[] w fun e w'=>e = .returned (uV oneW)∧Below w.heap.size w w':=by
 have hr:(w.alloc (.cells #[.int .u64 1000000000000000000,.int .u64 0,.int .u64 0,.int .u64 0] 28)).heap[w.heap.size]? = some (.cells (uL oneW) 28 (0,0)):=heap_alloc_new w (.cells (uL oneW) 28)
 have HR:=Lib.hid hr
 have HB:=Lib.hid (bl_alloc (Below.refl _ w) (.cells (uL oneW) 28))
 clear hr
 go_enter Tryz.func90,Tryz.ntmps90
 go_wp2_with fail
 refine bodyPost_ret (results_cell_row rfl _ _ w.heap.size 28 (uL oneW) (0,0) _ rfl HR.out Tryz.underlying28 rfl (by kernel_rfl)) rfl ?_
 exact ⟨rfl,HB.out⟩
def mostW:W4:=(18446744073709551615,18446744073709551615,0,0)
theorem most_nat:uN mostW=340282366920938463463374607431768211455:=by decide
theorem most_ok:mostW.Ok:=⟨by decide,by decide,by decide,by decide⟩
theorem rmost_any (w:World):Calls Tryz.prog 195 #[] w fun e w'=>e = .returned (uV mostW)∧Below w.heap.size w w':=by
 have hr:(w.alloc (.cells #[.int .u64 18446744073709551615,.int .u64 18446744073709551615,.int .u64 0,.int .u64 0] 28)).heap[w.heap.size]? = some (.cells (uL mostW) 28 (0,0)):=heap_alloc_new w (.cells (uL mostW) 28)
 have HR:=Lib.hid hr
 have HB:=Lib.hid (bl_alloc (Below.refl _ w) (.cells (uL mostW) 28))
 clear hr
 go_enter Tryz.func195,Tryz.ntmps195
 go_wp2_with fail
 refine bodyPost_ret (results_cell_row rfl _ _ w.heap.size 28 (uL mostW) (0,0) _ rfl HR.out Tryz.underlying28 rfl (by kernel_rfl)) rfl ?_
 exact ⟨rfl,HB.out⟩
theorem rgood_any (x:W4) (hx:x.Ok) (w:World):Calls Tryz.prog 177 #[uV x] w fun e w'=>e = .returned (.bool (decide (uN x≤1000000000000000000)))∧Below w.heap.size w w':=by
 have HV:=Lib.hid (VAt.start w [x]).drew
 have HC:Hid (∀ W,Calls Tryz.prog 23 #[uV x,uV oneW] W fun e w'=>e = .returned (.int .i64 (uCmp x oneW))∧Below W.heap.size W w'):=rcmp_u x oneW hx one_ok
 obtain ⟨c,hc'⟩:∃ c,c=decide (uN x≤1000000000000000000):=⟨_,rfl⟩
 have hc:decide (uCmp x oneW≤0)=c:=by rw [hc']; exact decide_eq_decide.2 (by rw [uCmp_le0,one_nat])
 rw [← hc']
 clear hc'
 go_enter Tryz.func177,Tryz.ntmps177
 go_wp2_with fail
 go_upto_region 1 with fail
 refine wp_region_rely [[],[],[0,1],[0,1,2],[0,1,2,3]]
  [rgC (VAt w [x]),rgV 0 (uV x),rgV 1 (uV oneW),rgV 2 (.int .i64 (uCmp x oneW)),rgV 3 (.bool c),rgV 4 (.bool c)] _ (by kernel_rfl) (by kernel_rfl) (by kernel_rfl)
  (fun vs=>by simp only [rgAct,rgPut,List.setIfInBounds_toArray,List.set_cons_zero,List.set_cons_succ]; exact rfl)
  ⟨fun _ _ _ hb h=>h.below hb,rgV_st,rgV_st,rgV_st,rgV_st,rgV_st,trivial⟩ ?_ ?_ ?_
 ·refine rgAll_yes rfl HV.out ?_
  iterate 5 refine rgAll_no rfl ?_
  exact trivial
 ·refine ⟨?_,?_,?_,?_,?_,trivial⟩
  ·rintro vs w1 ⟨hC,_⟩ K hK
   refine rg_loadU rfl rfl rfl (hC.r 0 x rfl) (hK _ _ (.inl (Below.refl _ _)) ?_)
   exact rgNew_one 1 rfl fun _=>rfl
  ·rintro vs w1 ⟨_,_⟩ K hK
   refine rg_fn rfl rfl rfl (by kernel_rfl) rfl (Calls.mono (rone_any _) ?_)
   rintro e w2 ⟨rfl,hb⟩
   refine ⟨_,rfl,hK _ _ (.inl hb) ?_⟩
   exact rgNew_one 2 rfl fun _=>rfl
  ·rintro vs w1 ⟨_,e0,e1,_⟩ K hK
   refine rg_fn rfl rfl rfl (by kernel_rfl) (show [vs 0,vs 1]=_ from by rw [rg1 e0,rg1 e1]) (Calls.mono (HC.out _) ?_)
   rintro e w2 ⟨rfl,hb⟩
   refine ⟨_,rfl,hK _ _ (.inl hb) ?_⟩
   exact rgNew_one 3 rfl fun _=>rfl
  ·rintro vs w1 ⟨_,_,_,e2,_⟩ K hK
   refine rg_leq0 rfl rfl (rg1 e2) hc (hK _ _ (.inl (Below.refl _ _)) ?_)
   exact rgNew_one 4 rfl fun _=>rfl
  ·rintro vs w1 ⟨_,_,_,_,e3,_⟩ K hK
   refine rg_move rfl (.inr rfl) (rg1 e3) (hK _ _ (.inl (Below.refl _ _)) ?_)
   exact rgNew_one 5 rfl fun _=>rfl
 ·intro vs w1 hA
  obtain ⟨hC,e0,e1,e2,e3,e4,_⟩:=hA
  have e0:=rg1 e0
  have e1:=rg1 e1
  have e2:=rg1 e2
  have e3:=rg1 e3
  have e4:=rg1 e4
  simp only [e0,e1,e2,e3,e4]
  have HB:=Lib.hid hC.b
  go_wp2_with fail
  go_ret
  exact ⟨rfl,HB.out⟩
theorem ramount_any (x:W4) (hx:x.Ok) (w:World):Calls Tryz.prog 143 #[uV x] w fun e w'=>e = .returned (.bool (decide (uN x < M128)))∧Below w.heap.size w w':=by
 have HV:=Lib.hid (VAt.start w [x]).drew
 have HC:Hid (∀ W,Calls Tryz.prog 23 #[uV x,uV mostW] W fun e w'=>e = .returned (.int .i64 (uCmp x mostW))∧Below W.heap.size W w'):=rcmp_u x mostW hx most_ok
 obtain ⟨c,hc'⟩:∃ c,c=decide (uN x < M128):=⟨_,rfl⟩
 have hc:decide (uCmp x mostW≤0)=c:=by
  rw [hc']; refine decide_eq_decide.2 ?_
  rw [uCmp_le0,most_nat]; unfold M128; omega
 rw [← hc']
 clear hc'
 go_enter Tryz.func143,Tryz.ntmps143
 go_wp2_with fail
 go_upto_region 1 with fail
 refine wp_region_rely [[],[],[0,1],[0,1,2],[0,1,2,3]]
  [rgC (VAt w [x]),rgV 0 (uV x),rgV 1 (uV mostW),rgV 2 (.int .i64 (uCmp x mostW)),rgV 3 (.bool c),rgV 4 (.bool c)] _ (by kernel_rfl) (by kernel_rfl) (by kernel_rfl)
  (fun vs=>by simp only [rgAct,rgPut,List.setIfInBounds_toArray,List.set_cons_zero,List.set_cons_succ]; exact rfl)
  ⟨fun _ _ _ hb h=>h.below hb,rgV_st,rgV_st,rgV_st,rgV_st,rgV_st,trivial⟩ ?_ ?_ ?_
 ·refine rgAll_yes rfl HV.out ?_
  iterate 5 refine rgAll_no rfl ?_
  exact trivial
 ·refine ⟨?_,?_,?_,?_,?_,trivial⟩
  ·rintro vs w1 ⟨hC,_⟩ K hK
   refine rg_loadU rfl rfl rfl (hC.r 0 x rfl) (hK _ _ (.inl (Below.refl _ _)) ?_)
   exact rgNew_one 1 rfl fun _=>rfl
  ·rintro vs w1 ⟨_,_⟩ K hK
   refine rg_fn rfl rfl rfl (by kernel_rfl) rfl (Calls.mono (rmost_any _) ?_)
   rintro e w2 ⟨rfl,hb⟩
   refine ⟨_,rfl,hK _ _ (.inl hb) ?_⟩
   exact rgNew_one 2 rfl fun _=>rfl
  ·rintro vs w1 ⟨_,e0,e1,_⟩ K hK
   refine rg_fn rfl rfl rfl (by kernel_rfl) (show [vs 0,vs 1]=_ from by rw [rg1 e0,rg1 e1]) (Calls.mono (HC.out _) ?_)
   rintro e w2 ⟨rfl,hb⟩
   refine ⟨_,rfl,hK _ _ (.inl hb) ?_⟩
   exact rgNew_one 3 rfl fun _=>rfl
  ·rintro vs w1 ⟨_,_,_,e2,_⟩ K hK
   refine rg_leq0 rfl rfl (rg1 e2) hc (hK _ _ (.inl (Below.refl _ _)) ?_)
   exact rgNew_one 4 rfl fun _=>rfl
  ·rintro vs w1 ⟨_,_,_,_,e3,_⟩ K hK
   refine rg_move rfl (.inr rfl) (rg1 e3) (hK _ _ (.inl (Below.refl _ _)) ?_)
   exact rgNew_one 5 rfl fun _=>rfl
 ·intro vs w1 hA
  obtain ⟨hC,e0,e1,e2,e3,e4,_⟩:=hA
  have e0:=rg1 e0
  have e1:=rg1 e1
  have e2:=rg1 e2
  have e3:=rg1 e3
  have e4:=rg1 e4
  simp only [e0,e1,e2,e3,e4]
  have HB:=Lib.hid hC.b
  go_wp2_with fail
  go_ret
  exact ⟨rfl,HB.out⟩
theorem rsquare_any (w:World):Calls Tryz.prog 165 #[] w fun e w'=>e = .returned (uV sqW)∧Below w.heap.size w w':=by
 have HV:=Lib.hid (VAt.vr (l:=[]) (VAt.start w [(0,0,0,0)])).vp
 have HO:Hid (∀ W,VP w [] 0 [] W→Calls Tryz.prog 90 #[] W fun e w'=>e = .returned (uV oneW)∧VP w [] 0 [] w'):=fun W hW=>(rone_any W).mono fun e w' ⟨he,hb⟩=>⟨he,hW.below hb⟩
 have HM:Hid (∀ W,VP w [] 0 [] W→Calls Tryz.prog 15 #[uV oneW,uV oneW] W fun e w'=>e = .returned (.tuple #[uV sqW,.bool true])∧VP w [] 0 [] w'):=fun W hW=>by
  have h1:toW (uN oneW*uN oneW)=sqW:=by rw [one_nat]; rfl
  have h2:toB (uN oneW*uN oneW)=true:=by rw [one_nat]; decide
  rw [← h1,← h2]
  exact (rmul_u oneW oneW one_ok one_ok W).mono fun e w' ⟨he,hb⟩=>⟨he,hW.below hb⟩
 generalize sqW=s at *
 go_enter Tryz.func165,Tryz.ntmps165
 go_wp2_with fail
 refine Calls.mono (HO.out _ HV.out) ?_
 rintro e w2 ⟨rfl,hV2⟩
 have HV2:=Lib.hid hV2
 clear hV2
 go_wp2_with fail
 refine Calls.mono (HO.out _ HV2.out) ?_
 rintro e w3 ⟨rfl,hV3⟩
 have HV3:=Lib.hid hV3
 clear hV3
 go_wp2_with fail
 refine Calls.mono (HM.out _ HV3.out) ?_
 rintro e w4 ⟨rfl,hV4⟩
 have hV5:=hV4.alloc s
 clear hV4 HV HV2 HV3 HO HM
 go_upto_region 2 with fail
 generalize w4.alloc (.cells (uL s) 28)=w5 at *
 generalize w4.heap.size=g at *
 obtain ⟨z,z0,z1,z2,z3,z4,z5,z6,z7⟩:=hV5.vr.zc
 simp only [Nat.add_zero] at z0 z1 z2 z3 z4 z5 z6 z7
 have hne:w.heap.size≠g:=Nat.ne_of_lt (hV5.p _ _ (List.mem_cons_self ..)).1
 have hne2:=Ne.symm hne
 obtain ⟨s0,s1,s2,s3,_⟩:=row4 hV5.p0
 have HR:=Lib.hid (hV5.vr.res s)
 clear hV5
 go_wp2_with fail
 refine bodyPost_ret (results_cell_row rfl _ _ w.heap.size 28 (uL s) (0,0) _ rfl HR.out.2 Tryz.underlying28 rfl (by kernel_rfl)) rfl ?_
 exact ⟨rfl,HR.out.1⟩
theorem rscaleup_any (a t f:W4) (ha:a.Ok) (ht:t.Ok) (hf:f.Ok) (w:World):Calls Tryz.prog 152 #[uV a,uV t,uV f] w fun e w'=>e = .returned (.tuple #[uV (suW a t f),.bool (suB a t f)])∧Below w.heap.size w w':=by
 have he:suW a t f=(if f=(0,0,0,0) then (0,0,0,0) else upW a t f)∧suB a t f=(if f=(0,0,0,0) then decide (a=(0,0,0,0)) else upB a t f):=by
  unfold suW suB
  simp only [u0_iff,and_self]
 rw [he.1,he.2]
 have HV:=VAt.vr (l:=[a,t,f]) (VAt.start w [a,t,f,(0,0,0,0)])
 by_cases h0:f=(0,0,0,0)
 ·subst h0
  simp only [if_true]
  have HV0:=Lib.hid HV.drew
  have hE:∀ w,(Op.equalIn 10000 28 (.agg #[.int .u64 0,.int .u64 0,.int .u64 0,.int .u64 0]) (.agg #[.int .u64 0,.int .u64 0,.int .u64 0,.int .u64 0])).run Tryz.prog w = .ok true w:=fun w=>eqU (0,0,0,0) (0,0,0,0) w
  obtain ⟨c,hc⟩:∃ c,decide (a=(0,0,0,0))=c:=⟨_,rfl⟩
  rw [hc]
  clear HV he
  go_enter Tryz.func152,Tryz.ntmps152
  go_wp2_with fail
  go_upto_region 2 with fail
  refine wp_region_rely [[],[],[],[1,2],[0],[0,1,2,3,4]]
   [rgC (VR w [a,t,(0,0,0,0)] 3),rgV 0 (uV (0,0,0,0)),rgV 1 (uV a),rgV 2 (uV (0,0,0,0)),rgV 3 (.bool c),rgV 5 (.bool c),rgR 4 (w.heap.size+3) ((0,0,0,0))] _ (by kernel_rfl) (by kernel_rfl) (by kernel_rfl)
   (fun vs=>by simp only [rgAct,rgPut,List.setIfInBounds_toArray,List.set_cons_zero,List.set_cons_succ]; exact rfl)
   ⟨fun _ _ _ hb h=>h.below hb,rgV_st,rgV_st,rgV_st,rgV_st,rgV_st,rgR_st,trivial⟩ ?_ ?_ ?_
  ·refine rgAll_yes rfl HV0.out ?_
   iterate 6 refine rgAll_no rfl ?_
   exact trivial
  ·refine ⟨?_,?_,?_,?_,?_,?_,trivial⟩
   ·rintro vs w1 ⟨_,_⟩ K hK
    refine rg_build0 rfl rfl (hK _ _ (.inl (Below.refl _ _)) ?_)
    exact rgNew_one 1 rfl fun _=>rfl
   ·rintro vs w1 ⟨hC,_⟩ K hK
    refine rg_loadU rfl rfl rfl hC.r0 (hK _ _ (.inl (Below.refl _ _)) ?_)
    exact rgNew_one 2 rfl fun _=>rfl
   ·rintro vs w1 ⟨_,_⟩ K hK
    refine rg_build0 rfl rfl (hK _ _ (.inl (Below.refl _ _)) ?_)
    exact rgNew_one 3 rfl fun _=>rfl
   ·rintro vs w1 ⟨_,e1,e2,_⟩ K hK
    refine rg_eqlU rfl rfl (rg1 e1) (rg1 e2) hc (hK _ _ (.inl (Below.refl _ _)) ?_)
    exact rgNew_one 4 rfl fun _=>rfl
   ·rintro vs w1 ⟨hC,e0,_⟩ K hK
    refine rg_storeU rfl rfl rfl (rg1 e0) hC.z.choose_spec (hK _ _ (.inr ?_) ?_)
    ·refine rgStay_yes rfl (fun hC _=>hC.put _) ?_
     iterate 4 refine rgStay_yes rfl (fun h _=>h) ?_
     iterate 2 refine rgStay_no rfl ?_
     exact trivial
    ·iterate 6 refine rgNew_no rfl ?_
     refine rgNew_yes rfl (fun _=>setRow_heap _ _ _ _ _ _ hC.z.choose_spec) ?_
     exact trivial
   ·rintro vs w1 ⟨_,_,_,_,e3,_,_⟩ K hK
    refine rg_move rfl (.inr rfl) (rg1 e3) (hK _ _ (.inl (Below.refl _ _)) ?_)
    exact rgNew_one 5 rfl fun _=>rfl
  ·intro vs w1 hA
   obtain ⟨hC,e0,e1,e2,e3,e5,t4,_⟩:=hA
   have e0:=rg1 e0
   have e1:=rg1 e1
   have e2:=rg1 e2
   have e3:=rg1 e3
   have e5:=rg1 e5
   simp only [e0,e1,e2,e3,e5]
   have HR:=Lib.hid t4
   have HB:=Lib.hid hC.b
   clear e0 e1 e2 e3 e5 t4 hC
   go_wp2_with fail
   refine bodyPost_ret (results_cell_row2 rfl _ _ (w.heap.size+3) 28 (uL (0,0,0,0)) (0,0) _ rfl HR.out Tryz.underlying28 rfl (by kernel_rfl)) rfl ?_
   exact ⟨rfl,HB.out⟩
 ·simp only [if_neg h0]
  have HU:Hid (∀ W,VR w [a,t,f] 3 W→Calls Tryz.prog 197 #[uV a,uV t,uV f] W fun e w'=>e = .returned (.tuple #[uV (upW a t f),.bool (upB a t f)])∧VR w [a,t,f] 3 w'):=fun W hW =>
   (rupp_any a t f ha ht hf W).mono fun e w' ⟨he,hb⟩=>⟨he,hW.below hb⟩
  have HV1:=Lib.hid HV
  have hE:∀ w,(Op.equalIn 10000 28 (uV f) (.agg #[.int .u64 0,.int .u64 0,.int .u64 0,.int .u64 0])).run Tryz.prog w = .ok false w:=fun w=>by
   have:=eqU f (0,0,0,0) w
   rwa [decide_eq_false h0] at this
  obtain ⟨u,hu⟩:∃ u,u=upW a t f:=⟨_,rfl⟩
  obtain ⟨v,hv⟩:∃ v,v=upB a t f:=⟨_,rfl⟩
  rw [← hu,← hv] at HU ⊢
  clear HV h0 he hu hv
  go_enter Tryz.func152,Tryz.ntmps152
  go_wp2_with fail
  refine Calls.mono (HU.out _ HV1.out) ?_
  rintro e w3 ⟨rfl,hV3⟩
  obtain ⟨z,z0,z1,z2,z3,z4,z5,z6,z7⟩:=hV3.zc
  have HR:=Lib.hid (hV3.res u)
  clear hV3 HV1 HU
  go_wp2_with fail
  refine bodyPost_ret (results_cell_row2 rfl _ _ (w.heap.size+3) 28 (uL u) (0,0) _ rfl HR.out.2 Tryz.underlying28 rfl (by kernel_rfl)) rfl ?_
  exact ⟨rfl,HR.out.1⟩
theorem rfgood_any (d f m:W4) (hd:d.Ok) (hf:f.Ok) (hm:m.Ok) (w:World):Calls Tryz.prog 164 #[uV d,uV f,uV m] w fun e w'=>e = .returned (.bool (goodB d f m))∧Below w.heap.size w w':=by
 have HV:=Lib.hid (VAt.start w [d,f,m]).drew
 have HF:Hid (∀ W,Calls Tryz.prog 23 #[uV f,uV sqW] W fun e w'=>e = .returned (.int .i64 (uCmp f sqW))∧Below W.heap.size W w'):=rcmp_u f sqW hf sq_ok
 have HA:Hid (∀ W,Calls Tryz.prog 143 #[uV d] W fun e w'=>e = .returned (.bool (decide (uN d < M128)))∧Below W.heap.size W w'):=ramount_any d hd
 have HM:Hid (∀ W,Calls Tryz.prog 177 #[uV m] W fun e w'=>e = .returned (.bool (decide (uN m≤1000000000000000000)))∧Below W.heap.size W w'):=fun W=>by
  exact rgood_any m hm W
 have HB:Hid (decide (uCmp f sqW≤0)=decide (uN f≤1000000000000000000000000000000000000)):=by
  exact decide_eq_decide.2 (by rw [uCmp_le0,sq_nat])
 have HG:Hid (goodB d f m=(decide (uN d < M128) && (decide (uN f≤1000000000000000000000000000000000000) && decide (uN m≤1000000000000000000)))):=rfl
 rw [HG.out]
 generalize decide (uN d < M128)=A at *
 generalize decide (uN f≤1000000000000000000000000000000000000)=B at *
 generalize decide (uN m≤1000000000000000000)=c at *
 clear HG
 cases A with
 | false =>
  go_enter Tryz.func164,Tryz.ntmps164
  go_wp2_with fail
  go_upto_region 1 with fail
  refine wp_region_rely [[],[0],[0,1],[0,1,2],[0,1,2],[0,1,2,3,4],[0,1,2,3,4,5],[0,1,2,3,4,5,6],[0,1,2,3,4,5,6,7],[0,1,2,3,4,5,6,7,8],[0,1,2,3,4,5,6,7,8,9],[0,1,2,3,4,5,6,7,8,9,10],[0,1,2,3,4,5,6,7,8,9,10,11]]
   [rgC (VAt w [d,f,m]),rgV 0 (uV d),rgV 1 (.bool false),rgV 2 (.bool false),rgV 3 (undef),rgV 4 (undef),rgV 5 (undef),rgV 6 (undef),rgV 7 (.bool false),rgV 8 (.bool false),rgV 9 (undef),rgV 10 (undef),rgV 11 (.bool false),rgV 12 (.bool false)] _ (by kernel_rfl) (by kernel_rfl) (by kernel_rfl)
   (fun vs=>by simp only [rgAct,rgPut,List.setIfInBounds_toArray,List.set_cons_zero,List.set_cons_succ]; exact rfl)
   ⟨fun _ _ _ hb h=>h.below hb,rgV_st,rgV_st,rgV_st,rgV_st,rgV_st,rgV_st,rgV_st,rgV_st,rgV_st,rgV_st,rgV_st,rgV_st,rgV_st,trivial⟩ ?_ ?_ ?_
  ·refine rgAll_yes rfl HV.out ?_
   iterate 13 refine rgAll_no rfl ?_
   exact trivial
  ·refine ⟨?_,?_,?_,?_,?_,?_,?_,?_,?_,?_,?_,?_,?_,trivial⟩
   ·rintro vs w1 ⟨hC,_⟩ K hK
    refine rg_loadU rfl rfl rfl (hC.r 0 d rfl) (hK _ _ (.inl (Below.refl _ _)) ?_)
    exact rgNew_one 1 rfl fun _=>rfl
   ·rintro vs w1 ⟨_,e0,_⟩ K hK
    refine rg_fn rfl rfl rfl (by kernel_rfl) (show [vs 0]=_ from by rw [rg1 e0]) (Calls.mono (HA.out _) ?_)
    rintro e w2 ⟨rfl,hb⟩
    refine ⟨_,rfl,hK _ _ (.inl hb) ?_⟩
    exact rgNew_one 2 rfl fun _=>rfl
   ·rintro vs w1 ⟨_,_,e1,_⟩ K hK
    refine rg_move rfl (.inl rfl) (rg1 e1) (hK _ _ (.inl (Below.refl _ _)) ?_)
    exact rgNew_one 3 rfl fun _=>rfl
   ·rintro vs w1 ⟨_,_,_,e2,_⟩ K hK
    refine rg_out (rg_unwanted rfl rfl rfl (rg1 e2) rfl) (hK _ _ (.inl (Below.refl _ _)) ?_)
    exact rgNew_one 4 rfl fun _=>rfl
   ·rintro vs w1 ⟨_,_,_,e2,_⟩ K hK
    refine rg_out (rg_unwanted rfl rfl rfl (rg1 e2) rfl) (hK _ _ (.inl (Below.refl _ _)) ?_)
    exact rgNew_one 5 rfl fun _=>rfl
   ·rintro vs w1 ⟨_,_,_,e2,_,_,_⟩ K hK
    refine rg_out (rg_unwanted rfl rfl rfl (rg1 e2) rfl) (hK _ _ (.inl (Below.refl _ _)) ?_)
    exact rgNew_one 6 rfl fun _=>rfl
   ·rintro vs w1 ⟨_,_,_,e2,_,_,_,_⟩ K hK
    refine rg_out (rg_unwanted rfl rfl rfl (rg1 e2) rfl) (hK _ _ (.inl (Below.refl _ _)) ?_)
    exact rgNew_one 7 rfl fun _=>rfl
   ·rintro vs w1 ⟨_,_,_,e2,_,_,_,_,_⟩ K hK
    refine rg_pick rfl rfl (rg1 e2) rfl (hK _ _ (.inl (Below.refl _ _)) ?_)
    exact rgNew_one 8 rfl fun _=>rfl
   ·rintro vs w1 ⟨_,_,_,_,_,_,_,_,e7,_⟩ K hK
    refine rg_move rfl (.inl rfl) (rg1 e7) (hK _ _ (.inl (Below.refl _ _)) ?_)
    exact rgNew_one 9 rfl fun _=>rfl
   ·rintro vs w1 ⟨_,_,_,_,_,_,_,_,_,e8,_⟩ K hK
    refine rg_out (rg_unwanted rfl rfl rfl (rg1 e8) rfl) (hK _ _ (.inl (Below.refl _ _)) ?_)
    exact rgNew_one 10 rfl fun _=>rfl
   ·rintro vs w1 ⟨_,_,_,_,_,_,_,_,_,e8,_,_⟩ K hK
    refine rg_out (rg_unwanted rfl rfl rfl (rg1 e8) rfl) (hK _ _ (.inl (Below.refl _ _)) ?_)
    exact rgNew_one 11 rfl fun _=>rfl
   ·rintro vs w1 ⟨_,_,_,_,_,_,_,_,_,e8,_,_,_⟩ K hK
    refine rg_pick rfl rfl (rg1 e8) rfl (hK _ _ (.inl (Below.refl _ _)) ?_)
    exact rgNew_one 12 rfl fun _=>rfl
   ·rintro vs w1 ⟨_,_,_,_,_,_,_,_,_,_,_,_,e11,_⟩ K hK
    refine rg_move rfl (.inr rfl) (rg1 e11) (hK _ _ (.inl (Below.refl _ _)) ?_)
    exact rgNew_one 13 rfl fun _=>rfl
  ·intro vs w1 hA
   obtain ⟨hC,e0,e1,e2,e3,e4,e5,e6,e7,e8,e9,e10,e11,e12,_⟩:=hA
   have e0:=rg1 e0
   have e1:=rg1 e1
   have e2:=rg1 e2
   have e3:=rg1 e3
   have e4:=rg1 e4
   have e5:=rg1 e5
   have e6:=rg1 e6
   have e7:=rg1 e7
   have e8:=rg1 e8
   have e9:=rg1 e9
   have e10:=rg1 e10
   have e11:=rg1 e11
   have e12:=rg1 e12
   simp only [e0,e1,e2,e3,e4,e5,e6,e7,e8,e9,e10,e11,e12]
   have HB:=Lib.hid hC.b
   go_wp2_with fail
   go_ret
   exact ⟨rfl,HB.out⟩
 | true=>cases B with
  | false =>
   go_enter Tryz.func164,Tryz.ntmps164
   go_wp2_with fail
   go_upto_region 1 with fail
   refine wp_region_rely [[],[0],[0,1],[0,1,2],[0,1,2],[0,1,2,3,4],[0,1,2,3,4,5],[0,1,2,3,4,5,6],[0,1,2,3,4,5,6,7],[0,1,2,3,4,5,6,7,8],[0,1,2,3,4,5,6,7,8,9],[0,1,2,3,4,5,6,7,8,9,10],[0,1,2,3,4,5,6,7,8,9,10,11]]
    [rgC (VAt w [d,f,m]),rgV 0 (uV d),rgV 1 (.bool true),rgV 2 (.bool true),rgV 3 (uV f),rgV 4 (uV sqW),rgV 5 (.int .i64 (uCmp f sqW)),rgV 6 (.bool false),rgV 7 (.bool false),rgV 8 (.bool false),rgV 9 (undef),rgV 10 (undef),rgV 11 (.bool false),rgV 12 (.bool false)] _ (by kernel_rfl) (by kernel_rfl) (by kernel_rfl)
    (fun vs=>by simp only [rgAct,rgPut,List.setIfInBounds_toArray,List.set_cons_zero,List.set_cons_succ]; exact rfl)
    ⟨fun _ _ _ hb h=>h.below hb,rgV_st,rgV_st,rgV_st,rgV_st,rgV_st,rgV_st,rgV_st,rgV_st,rgV_st,rgV_st,rgV_st,rgV_st,rgV_st,trivial⟩ ?_ ?_ ?_
   ·refine rgAll_yes rfl HV.out ?_
    iterate 13 refine rgAll_no rfl ?_
    exact trivial
   ·refine ⟨?_,?_,?_,?_,?_,?_,?_,?_,?_,?_,?_,?_,?_,trivial⟩
    ·rintro vs w1 ⟨hC,_⟩ K hK
     refine rg_loadU rfl rfl rfl (hC.r 0 d rfl) (hK _ _ (.inl (Below.refl _ _)) ?_)
     exact rgNew_one 1 rfl fun _=>rfl
    ·rintro vs w1 ⟨_,e0,_⟩ K hK
     refine rg_fn rfl rfl rfl (by kernel_rfl) (show [vs 0]=_ from by rw [rg1 e0]) (Calls.mono (HA.out _) ?_)
     rintro e w2 ⟨rfl,hb⟩
     refine ⟨_,rfl,hK _ _ (.inl hb) ?_⟩
     exact rgNew_one 2 rfl fun _=>rfl
    ·rintro vs w1 ⟨_,_,e1,_⟩ K hK
     refine rg_move rfl (.inl rfl) (rg1 e1) (hK _ _ (.inl (Below.refl _ _)) ?_)
     exact rgNew_one 3 rfl fun _=>rfl
    ·rintro vs w1 ⟨hC,_,_,e2,_⟩ K hK
     refine rg_loadU (rg_wanted rfl rfl rfl (rg1 e2)) rfl rfl (hC.r 1 f rfl) (hK _ _ (.inl (Below.refl _ _)) ?_)
     exact rgNew_one 4 rfl fun _=>rfl
    ·rintro vs w1 ⟨_,_,_,e2,_⟩ K hK
     refine rg_fn (rg_wanted rfl rfl rfl (rg1 e2)) rfl rfl (by kernel_rfl) rfl (Calls.mono (rsquare_any _) ?_)
     rintro e w2 ⟨rfl,hb⟩
     refine ⟨_,rfl,hK _ _ (.inl hb) ?_⟩
     exact rgNew_one 5 rfl fun _=>rfl
    ·rintro vs w1 ⟨_,_,_,e2,e3,e4,_⟩ K hK
     refine rg_fn (rg_wanted rfl rfl rfl (rg1 e2)) rfl rfl (by kernel_rfl) (show [vs 3,vs 4]=_ from by rw [rg1 e3,rg1 e4]) (Calls.mono (HF.out _) ?_)
     rintro e w2 ⟨rfl,hb⟩
     refine ⟨_,rfl,hK _ _ (.inl hb) ?_⟩
     exact rgNew_one 6 rfl fun _=>rfl
    ·rintro vs w1 ⟨_,_,_,e2,_,_,e5,_⟩ K hK
     refine rg_leq0 (rg_wanted rfl rfl rfl (rg1 e2)) rfl (rg1 e5) HB.out (hK _ _ (.inl (Below.refl _ _)) ?_)
     exact rgNew_one 7 rfl fun _=>rfl
    ·rintro vs w1 ⟨_,_,_,e2,_,_,_,e6,_⟩ K hK
     refine rg_pick rfl rfl (rg1 e2) (rg1 e6) (hK _ _ (.inl (Below.refl _ _)) ?_)
     exact rgNew_one 8 rfl fun _=>rfl
    ·rintro vs w1 ⟨_,_,_,_,_,_,_,_,e7,_⟩ K hK
     refine rg_move rfl (.inl rfl) (rg1 e7) (hK _ _ (.inl (Below.refl _ _)) ?_)
     exact rgNew_one 9 rfl fun _=>rfl
    ·rintro vs w1 ⟨_,_,_,_,_,_,_,_,_,e8,_⟩ K hK
     refine rg_out (rg_unwanted rfl rfl rfl (rg1 e8) rfl) (hK _ _ (.inl (Below.refl _ _)) ?_)
     exact rgNew_one 10 rfl fun _=>rfl
    ·rintro vs w1 ⟨_,_,_,_,_,_,_,_,_,e8,_,_⟩ K hK
     refine rg_out (rg_unwanted rfl rfl rfl (rg1 e8) rfl) (hK _ _ (.inl (Below.refl _ _)) ?_)
     exact rgNew_one 11 rfl fun _=>rfl
    ·rintro vs w1 ⟨_,_,_,_,_,_,_,_,_,e8,_,_,_⟩ K hK
     refine rg_pick rfl rfl (rg1 e8) rfl (hK _ _ (.inl (Below.refl _ _)) ?_)
     exact rgNew_one 12 rfl fun _=>rfl
    ·rintro vs w1 ⟨_,_,_,_,_,_,_,_,_,_,_,_,e11,_⟩ K hK
     refine rg_move rfl (.inr rfl) (rg1 e11) (hK _ _ (.inl (Below.refl _ _)) ?_)
     exact rgNew_one 13 rfl fun _=>rfl
   ·intro vs w1 hA
    obtain ⟨hC,e0,e1,e2,e3,e4,e5,e6,e7,e8,e9,e10,e11,e12,_⟩:=hA
    have e0:=rg1 e0
    have e1:=rg1 e1
    have e2:=rg1 e2
    have e3:=rg1 e3
    have e4:=rg1 e4
    have e5:=rg1 e5
    have e6:=rg1 e6
    have e7:=rg1 e7
    have e8:=rg1 e8
    have e9:=rg1 e9
    have e10:=rg1 e10
    have e11:=rg1 e11
    have e12:=rg1 e12
    simp only [e0,e1,e2,e3,e4,e5,e6,e7,e8,e9,e10,e11,e12]
    have HB:=Lib.hid hC.b
    go_wp2_with fail
    go_ret
    exact ⟨rfl,HB.out⟩
  | true =>
   go_enter Tryz.func164,Tryz.ntmps164
   go_wp2_with fail
   go_upto_region 1 with fail
   refine wp_region_rely [[],[0],[0,1],[0,1,2],[0,1,2],[0,1,2,3,4],[0,1,2,3,4,5],[0,1,2,3,4,5,6],[0,1,2,3,4,5,6,7],[0,1,2,3,4,5,6,7,8],[0,1,2,3,4,5,6,7,8,9],[0,1,2,3,4,5,6,7,8,9,10],[0,1,2,3,4,5,6,7,8,9,10,11]]
    [rgC (VAt w [d,f,m]),rgV 0 (uV d),rgV 1 (.bool true),rgV 2 (.bool true),rgV 3 (uV f),rgV 4 (uV sqW),rgV 5 (.int .i64 (uCmp f sqW)),rgV 6 (.bool true),rgV 7 (.bool true),rgV 8 (.bool true),rgV 9 (uV m),rgV 10 (.bool c),rgV 11 (.bool c),rgV 12 (.bool c)] _ (by kernel_rfl) (by kernel_rfl) (by kernel_rfl)
    (fun vs=>by simp only [rgAct,rgPut,List.setIfInBounds_toArray,List.set_cons_zero,List.set_cons_succ]; exact rfl)
    ⟨fun _ _ _ hb h=>h.below hb,rgV_st,rgV_st,rgV_st,rgV_st,rgV_st,rgV_st,rgV_st,rgV_st,rgV_st,rgV_st,rgV_st,rgV_st,rgV_st,trivial⟩ ?_ ?_ ?_
   ·refine rgAll_yes rfl HV.out ?_
    iterate 13 refine rgAll_no rfl ?_
    exact trivial
   ·refine ⟨?_,?_,?_,?_,?_,?_,?_,?_,?_,?_,?_,?_,?_,trivial⟩
    ·rintro vs w1 ⟨hC,_⟩ K hK
     refine rg_loadU rfl rfl rfl (hC.r 0 d rfl) (hK _ _ (.inl (Below.refl _ _)) ?_)
     exact rgNew_one 1 rfl fun _=>rfl
    ·rintro vs w1 ⟨_,e0,_⟩ K hK
     refine rg_fn rfl rfl rfl (by kernel_rfl) (show [vs 0]=_ from by rw [rg1 e0]) (Calls.mono (HA.out _) ?_)
     rintro e w2 ⟨rfl,hb⟩
     refine ⟨_,rfl,hK _ _ (.inl hb) ?_⟩
     exact rgNew_one 2 rfl fun _=>rfl
    ·rintro vs w1 ⟨_,_,e1,_⟩ K hK
     refine rg_move rfl (.inl rfl) (rg1 e1) (hK _ _ (.inl (Below.refl _ _)) ?_)
     exact rgNew_one 3 rfl fun _=>rfl
    ·rintro vs w1 ⟨hC,_,_,e2,_⟩ K hK
     refine rg_loadU (rg_wanted rfl rfl rfl (rg1 e2)) rfl rfl (hC.r 1 f rfl) (hK _ _ (.inl (Below.refl _ _)) ?_)
     exact rgNew_one 4 rfl fun _=>rfl
    ·rintro vs w1 ⟨_,_,_,e2,_⟩ K hK
     refine rg_fn (rg_wanted rfl rfl rfl (rg1 e2)) rfl rfl (by kernel_rfl) rfl (Calls.mono (rsquare_any _) ?_)
     rintro e w2 ⟨rfl,hb⟩
     refine ⟨_,rfl,hK _ _ (.inl hb) ?_⟩
     exact rgNew_one 5 rfl fun _=>rfl
    ·rintro vs w1 ⟨_,_,_,e2,e3,e4,_⟩ K hK
     refine rg_fn (rg_wanted rfl rfl rfl (rg1 e2)) rfl rfl (by kernel_rfl) (show [vs 3,vs 4]=_ from by rw [rg1 e3,rg1 e4]) (Calls.mono (HF.out _) ?_)
     rintro e w2 ⟨rfl,hb⟩
     refine ⟨_,rfl,hK _ _ (.inl hb) ?_⟩
     exact rgNew_one 6 rfl fun _=>rfl
    ·rintro vs w1 ⟨_,_,_,e2,_,_,e5,_⟩ K hK
     refine rg_leq0 (rg_wanted rfl rfl rfl (rg1 e2)) rfl (rg1 e5) HB.out (hK _ _ (.inl (Below.refl _ _)) ?_)
     exact rgNew_one 7 rfl fun _=>rfl
    ·rintro vs w1 ⟨_,_,_,e2,_,_,_,e6,_⟩ K hK
     refine rg_pick rfl rfl (rg1 e2) (rg1 e6) (hK _ _ (.inl (Below.refl _ _)) ?_)
     exact rgNew_one 8 rfl fun _=>rfl
    ·rintro vs w1 ⟨_,_,_,_,_,_,_,_,e7,_⟩ K hK
     refine rg_move rfl (.inl rfl) (rg1 e7) (hK _ _ (.inl (Below.refl _ _)) ?_)
     exact rgNew_one 9 rfl fun _=>rfl
    ·rintro vs w1 ⟨hC,_,_,_,_,_,_,_,_,e8,_⟩ K hK
     refine rg_loadU (rg_wanted rfl rfl rfl (rg1 e8)) rfl rfl (hC.r 2 m rfl) (hK _ _ (.inl (Below.refl _ _)) ?_)
     exact rgNew_one 10 rfl fun _=>rfl
    ·rintro vs w1 ⟨_,_,_,_,_,_,_,_,_,e8,e9,_⟩ K hK
     refine rg_fn (rg_wanted rfl rfl rfl (rg1 e8)) rfl rfl (by kernel_rfl) (show [vs 9]=_ from by rw [rg1 e9]) (Calls.mono (HM.out _) ?_)
     rintro e w2 ⟨rfl,hb⟩
     refine ⟨_,rfl,hK _ _ (.inl hb) ?_⟩
     exact rgNew_one 11 rfl fun _=>rfl
    ·rintro vs w1 ⟨_,_,_,_,_,_,_,_,_,e8,_,e10,_⟩ K hK
     refine rg_pick rfl rfl (rg1 e8) (rg1 e10) (hK _ _ (.inl (Below.refl _ _)) ?_)
     exact rgNew_one 12 rfl fun _=>rfl
    ·rintro vs w1 ⟨_,_,_,_,_,_,_,_,_,_,_,_,e11,_⟩ K hK
     refine rg_move rfl (.inr rfl) (rg1 e11) (hK _ _ (.inl (Below.refl _ _)) ?_)
     exact rgNew_one 13 rfl fun _=>rfl
   ·intro vs w1 hA
    obtain ⟨hC,e0,e1,e2,e3,e4,e5,e6,e7,e8,e9,e10,e11,e12,_⟩:=hA
    have e0:=rg1 e0
    have e1:=rg1 e1
    have e2:=rg1 e2
    have e3:=rg1 e3
    have e4:=rg1 e4
    have e5:=rg1 e5
    have e6:=rg1 e6
    have e7:=rg1 e7
    have e8:=rg1 e8
    have e9:=rg1 e9
    have e10:=rg1 e10
    have e11:=rg1 e11
    have e12:=rg1 e12
    simp only [e0,e1,e2,e3,e4,e5,e6,e7,e8,e9,e10,e11,e12]
    have HB:=Lib.hid hC.b
    go_wp2_with fail
    go_ret
    exact ⟨rfl,HB.out⟩
end Go.Proofs.YtpojljieakdgiaaGreat
