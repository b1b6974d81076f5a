/- What is proved here: history of the program: the last amount. Conditions: sizes, ints below 2^63. package exit's functions that read: Left, what can still be slashed where the delay goes back to the beginning; factor.Scaled. Conditions: sizes, ints below 2^63, words below 2^64. whether a withdrawal may be one: (exit.Exit).good of the program. Its condition: words below 2^64. -/
import Derived.Test.YtnkilceibkkjlaaGreatHHist
import Derived.Test.YtnkilceibkkjlaaGreatHRFacA
set_option maxRecDepth 100000
set_option maxHeartbeats 16000000
namespace Go.Proofs.YtnkilceibkkjlaaGreat
open Go.RowKit
theorem numsL_one63 {r:List UInt8} {n:Nat} (h:numsL r=some [n]):n < 9223372036854775808:=by
 have hl:=numsL_len r.length r [n] (Nat.le_refl _) h
 simp at hl
 rw [nums8 hl] at h
 split at h
 ·next hb =>
  simp at h
  subst h
  exact hb
 ·cases h
theorem int_lt63 (s:St) (k:ByteArray):s.int k < 9223372036854775808:=by
 unfold St.int intOfV rowOf
 cases h:numsL (s.val k).data.toList with
 | none=>simp
 | some ns =>
  match ns,h with
  | [],_=>simp
  | [n],h=>exact numsL_one63 h
  | _ :: _ :: _,_=>simp
theorem pt_f1 (n:Int) (a:W4) (w:World):(Instr.field 233 (.agg (pL n a)) 1).run Tryz.prog w = .ok (uV a) w:=by
 show (Instr.field 233 (.agg #[.int .i64 n,.int .u64 a.1,.int .u64 a.2.1,.int .u64 a.2.2.1,.int .u64 a.2.2.2]) 1).run Tryz.prog w = .ok (.agg #[.int .u64 a.1,.int .u64 a.2.1,.int .u64 a.2.2.1,.int .u64 a.2.2.2]) w
 kernel_rfl
theorem pt_f0 (n:Int) (a:W4) (w:World):(Instr.field 233 (.agg (pL n a)) 0).run Tryz.prog w = .ok (.int .i64 n) w:=by
 show (Instr.field 233 (.agg #[.int .i64 n,.int .u64 a.1,.int .u64 a.2.1,.int .u64 a.2.2.1,.int .u64 a.2.2.2]) 0).run Tryz.prog w = .ok (.int .i64 n) w
 kernel_rfl
theorem histLast_q (w:World) (h:Hand) (s:St) (f:Nat) (t:Nat) (ht1:1≤t) (ht2:t≤255) (y:Value) (l:List Int) (hi:IntsAt w y l) (hl:IdOk l) (hq:QSt w h s) (hf:s.Fit f) (hm:f < 100000000000) :
  Calls Tryz.prog 117 #[.pointer h.ptr,.int .i64 t,y] w fun e w'=>e = .returned (.tuple #[uV (s.hlast t l),.bool (decide (s.hlen t l≠0))])∧Below w.heap.size w w':=by
 have hB:=(HV.start hq).alloc zO
 have hI:∀ W,Below w.heap.size w W→IntsAt W y l:=fun W hW=>hi.below hW
 have HLN:Hid (∀ rs W,HV h w s rs W→Below w.heap.size w W→Calls Tryz.prog 180 #[.pointer h.ptr,.int .i64 t,y] W fun e w'=>e = .returned (.int .i64 (s.hlen t l))∧HV h w s rs w'∧Below w.heap.size w w'):=fun rs W hW hb=>by
  obtain ⟨L',h1,_⟩:=hW.on
  exact (histLen_q W ⟨h.ptr,h.on,L'⟩ s f t ht1 ht2 y l (hI W hb) hl h1 hf hm).mono fun e w' ⟨he,h2⟩=>⟨he,QV.below hW h2,bl_then hb h2⟩
 have hnl:=int_lt63 s (keyL t l)
 have HRD:Hid (∀ rs W,HV h w s rs W→Below w.heap.size w W→Calls Tryz.prog 181 #[.pointer h.ptr,.int .i64 t,y,.int .i64 (((s.hlen t l:Nat):Int) - 1)] W fun e w'=>e = .returned (.agg (pL (hpt (s.val (keyL t (l ++ [((s.hlen t l:Nat):Int) - 1])))).1 (hpt (s.val (keyL t (l ++ [((s.hlen t l:Nat):Int) - 1])))).2))∧HV h w s rs w'∧Below w.heap.size w w'):=fun rs W hW hb=>by
  obtain ⟨L',h1,_⟩:=hW.on
  exact (histRead_q W ⟨h.ptr,h.on,L'⟩ s f t ht1 ht2 y l (((s.hlen t l:Nat):Int) - 1) (hI W hb) hl (by show ((s.int (keyL t l):Nat):Int) - 1 < 9223372036854775808; omega) h1 hf hm).mono fun e w' ⟨he,h2⟩=>⟨he,QV.below hW h2,bl_then hb h2⟩
 have hlast:(s.hlen t l=0→s.hlast t l=(0,0,0,0))∧(s.hlen t l≠0→s.hlast t l=(hpt (s.val (keyL t (l ++ [((s.hlen t l:Nat):Int) - 1])))).2):=by
  unfold St.hlast
  exact ⟨fun h=>if_pos h,fun h=>if_neg h⟩
 have HLA:=Lib.hid hlast
 have HB:=Lib.hid (And.intro hB (bl_alloc (Below.refl _ w) zO))
 have hnl':s.hlen t l < 9223372036854775808:=hnl
 clear hi hl hq hf hI hB hlast hnl
 generalize s.hlast t l=hw at *
 generalize hpt (s.val (keyL t (l ++ [((s.hlen t l:Nat):Int) - 1])))=pt at *
 generalize s.hlen t l=n at *
 by_cases h0:n=0
 ·have h1:=HLA.out.1 h0
  subst h1 h0
  clear HRD HLA
  go_enter Tryz.func117,Tryz.ntmps117
  go_wp2_with fail
  refine Calls.mono (HLN.out _ _ HB.out.1 HB.out.2) ?_
  rintro e w2 ⟨rfl,hB2,hb2⟩
  have hz:=QV.u4 hB2 (g:=w.heap.size) (x:=(0,0,0,0)) (by simp)
  obtain ⟨z0,z1,z2,z3,z4,z5,z6,z7⟩:=row4 hz
  have HZ:=Lib.hid (put4 hz (0,0,0,0))
  have HBB:=Lib.hid (put4_below hb2 (Nat.le_refl _) (.int .u64 0) (.int .u64 0) (.int .u64 0) (.int .u64 0))
  clear hz hB2 hb2 HLN HB
  go_wp2_with fail
  refine bodyPost_ret (results_cell_row2 rfl _ _ w.heap.size 24 (uL (0,0,0,0)) (0,0) _ rfl HZ.out Tryz.underlying24 rfl (by kernel_rfl)) rfl ?_
  exact ⟨rfl,HBB.out⟩
 ·have h1:=HLA.out.2 h0
  have hd:decide (n≠0)=true:=decide_eq_true h0
  rw [hd]
  have hne:((n:Int) == 0)=false:=by rw [beq_eq_false_iff_ne]; omega
  have hF:=fun w=>pt_f1 pt.1 pt.2 w
  rw [← h1] at hF HRD
  obtain ⟨n1,hn1⟩:∃ n1:Int,n1=(n:Int) - 1:=⟨_,rfl⟩
  have hwr:IntKind.i64.wrap ((n:Int) - 1)=n1:=by rw [hn1,IntKind.wrap_i64]; omega
  have hwr2:wrap64 ((n:Int) - 1)=n1:=by rw [hn1]; unfold wrap64; omega
  rw [← hn1] at HRD
  clear HLA h1 hd hn1 h0 hnl'
  generalize ((pt.1:Nat):Int)=p1 at *
  go_enter Tryz.func117,Tryz.ntmps117
  go_wp2_with fail
  refine Calls.mono (HLN.out _ _ HB.out.1 HB.out.2) ?_
  rintro e w2 ⟨rfl,hB2,hb2⟩
  have HR2:=Lib.hid (HRD.out _ _ hB2 hb2)
  clear hB2 hb2 HLN HB HRD
  go_wp2_with fail
  refine Calls.mono HR2.out ?_
  rintro e w3 ⟨rfl,hB3,hb3⟩
  have hz:=QV.u4 hB3 (g:=w.heap.size) (x:=(0,0,0,0)) (by simp)
  obtain ⟨z0,z1,z2,z3,z4,z5,z6,z7⟩:=row4 hz
  have HZ:=Lib.hid (put4 hz hw)
  have HBB:=Lib.hid (put4_below hb3 (Nat.le_refl _) (.int .u64 hw.1) (.int .u64 hw.2.1) (.int .u64 hw.2.2.1) (.int .u64 hw.2.2.2))
  clear hz hB3 hb3 HR2
  go_wp2_with fail
  refine bodyPost_ret (results_cell_row2 rfl _ _ w.heap.size 24 (uL hw) (0,0) _ rfl HZ.out Tryz.underlying24 rfl (by kernel_rfl)) rfl ?_
  exact ⟨rfl,HBB.out⟩
def St.left (s:St) (t:Int):W4:=s.amt (keyL 19 [t])
theorem key1_any (t:Nat) (ht1:1≤t) (ht2:t≤255) (a:Int) (ha:I63 a) (W:World):Calls Tryz.prog 90 #[.int .i64 t,.slice (some ⟨W.heap.size,0,none⟩) 1 1] (W.alloc (.cells #[.int .i64 a] 3)) fun e w'=>e = .returned (.string (keyL t [a]))∧Below W.heap.size W w' :=
 (key_any t ht1 ht2 _ [a] _ (one_ints W a) (show ([a]:List Int).length < 1000000000 from (by decide:1 < 1000000000)) (by intro x hx; rw [List.mem_singleton] at hx; subst hx; exact ha)).mono fun e w' ⟨he,hb⟩=>⟨he,bl_then (bl_alloc (Below.refl _ W) _) hb⟩
theorem xLeft_q (w:World) (h:Hand) (s:St) (f:Nat) (t:Int) (ht:I63 t) (hq:QSt w h s) (hf:s.Fit f) (hm:f < 100000000000) :
  Calls Tryz.prog 45 #[.pointer h.ptr,.int .i64 t] w fun e w'=>e = .returned (uV (s.left t))∧Below w.heap.size w w':=by
 have hB:=(HV.start hq).alloc zO
 have hb0:=bl_alloc (Below.refl _ w) zO
 have hk:=key1_any 19 (by decide) (by decide) t ht (w.alloc zO)
 rw [World.size_alloc] at hk
 have HK:Hid (Calls Tryz.prog 90 #[.int .i64 19,.slice (some ⟨w.heap.size+1,0,none⟩) 1 1] ((w.alloc zO).alloc (.cells #[.int .i64 t] 3)) fun e w'=>e = .returned (.string (keyL 19 [t]))∧Below (w.alloc zO).heap.size (w.alloc zO) w'):=hk.mono fun e w' ⟨he,hb⟩=>⟨he,by rwa [World.size_alloc]⟩
 have HA:Hid (∀ rs W,HV h w s rs W→Below w.heap.size w W→Calls Tryz.prog 64 #[.pointer h.ptr,.string (keyL 19 [t])] W fun e w'=>e = .returned (uV (s.left t))∧HV h w s rs w'∧Below w.heap.size w w'):=fun rs W hW hb=>(HV.camt hW hf hm _).mono fun e w' ⟨he,h2⟩=>⟨he,QV.below hW h2,bl_then hb h2⟩
 have HB:=Lib.hid (And.intro hB hb0)
 clear hB hb0 hq hf hk
 generalize s.left t=u at *
 generalize keyL 19 [t]=kk at *
 go_enter Tryz.func45,Tryz.ntmps45
 go_wp2_with fail
 refine Calls.mono HK.out ?_
 rintro e w2 ⟨rfl,hb⟩
 have HA2:=Lib.hid (HA.out _ _ (QV.below HB.out.1 hb) (bl_then HB.out.2 hb))
 clear hb HB HK HA
 go_wp2_with fail
 refine Calls.mono HA2.out ?_
 rintro e w3 ⟨rfl,hB3,hb3⟩
 have hz:=QV.u4 hB3 (g:=w.heap.size) (x:=(0,0,0,0)) (by simp)
 obtain ⟨z0,z1,z2,z3,z4,z5,z6,z7⟩:=row4 hz
 have HZ:=Lib.hid (put4 hz u)
 have HBB:=Lib.hid (put4_below hb3 (Nat.le_refl _) (.int .u64 u.1) (.int .u64 u.2.1) (.int .u64 u.2.2.1) (.int .u64 u.2.2.2))
 clear hz hB3 hb3 HA2
 go_wp2_with fail
 refine bodyPost_ret (results_cell_row rfl _ _ w.heap.size 24 (uL u) (0,0) _ rfl HZ.out Tryz.underlying24 rfl (by kernel_rfl)) rfl ?_
 exact ⟨rfl,HBB.out⟩
def sdC (a m:W4):Bool:=decide (uN a < M128) && decide (uCmp m oneW≤0)
def sdW (a m:W4):W4:=if sdC a m then (if m=(0,0,0,0) then (0,0,0,0) else dnW a sqW m) else (0,0,0,0)
def sdB (a m:W4):Bool:=sdC a m && (if m=(0,0,0,0) then true else dnB a sqW m)
theorem sdW_ok (a m:W4):(sdW a m).Ok:=by
 unfold sdW; split
 ·split
  ·exact u0_ok
  ·unfold dnW; split
   ·exact u0_ok
   ·exact toW_ok _
 ·exact u0_ok
theorem fscaled_any (a m:W4) (ha:a.Ok) (hm:m.Ok) (w:World):Calls Tryz.prog 171 #[uV a,uV m] w fun e w'=>e = .returned (.tuple #[uV (sdW a m),.bool (sdB a m)])∧Below w.heap.size w w':=by
 have HV:=Lib.hid (VAt.vr (l:=[a,m]) (VAt.start w [a,m,(0,0,0,0)])).vp
 have HA:Hid (∀ W,VP w [a,m] 2 [] W→Calls Tryz.prog 11 #[uV a] W fun e w'=>e = .returned (.bool (decide (uN a < M128)))∧VP w [a,m] 2 [] w'):=fun W hW=>(wamount_any a ha W).mono fun e w' ⟨he,hb⟩=>⟨he,hW.below hb⟩
 have HG:Hid (∀ W,VP w [a,m] 2 [] W→Calls Tryz.prog 69 #[uV m] W fun e w'=>e = .returned (.bool (decide (uCmp m oneW≤0)))∧VP w [a,m] 2 [] w'):=fun W hW=>(wgood_any m hm W).mono fun e w' ⟨he,hb⟩=>⟨he,hW.below hb⟩
 have HD:Hid (∀ W,Calls Tryz.prog 111 #[uV a,uV sqW,uV m] W fun e w'=>e = .returned (.tuple #[uV (dnW a sqW m),.bool (dnB a sqW m)])∧Below W.heap.size W w'):=mdn_any a sqW m ha sq_ok hm
 have hlaw:((decide (uN a < M128))=false→sdW a m=(0,0,0,0)∧sdB a m=false)∧((decide (uN a < M128))=true→(decide (uCmp m oneW≤0))=false→sdW a m=(0,0,0,0)∧sdB a m=false) ∧
   ((decide (uN a < M128))=true→(decide (uCmp m oneW≤0))=true→(m=(0,0,0,0)→sdW a m=(0,0,0,0)∧sdB a m=true)∧(m≠(0,0,0,0)→sdW a m=dnW a sqW m∧sdB a m=dnB a sqW m)):=by
  unfold sdW sdB sdC
  refine ⟨fun h=>by rw [h]; exact ⟨rfl,rfl⟩,fun h h2=>by rw [h,h2]; exact ⟨rfl,rfl⟩,fun h h2=>by
   rw [h,h2]
   exact ⟨fun h3=>by simp [h3],fun h3=>by simp [h3]⟩⟩
 have HL:=Lib.hid hlaw
 clear hlaw
 generalize sdW a m=u at *
 generalize sdB a m=v at *
 generalize hdw:dnW a sqW m=dw at *
 generalize hdb:dnB a sqW m=db at *
 generalize decide (uN a < M128)=b1 at *
 generalize decide (uCmp m oneW≤0)=b2 at *
 clear hdw hdb
 obtain ⟨c0,c1,c2,c3,_⟩:=row4 HV.out.r0
 obtain ⟨d0,d1,d2,d3,_⟩:=row4 (HV.out.r 1 m rfl)
 go_enter Tryz.func171,Tryz.ntmps171
 go_wp2_with fail
 refine Calls.mono (HA.out _ HV.out) ?_
 rintro e w3 ⟨rfl,hV3⟩
 clear c0 c1 c2 c3 d0 d1 d2 d3 HA HV
 obtain ⟨d0,d1,d2,d3,_⟩:=row4 (hV3.r 1 m rfl)
 cases b1 with
 | false =>
  obtain ⟨h1,h2⟩:=HL.out.1 (by trivial)
  subst h1 h2
  obtain ⟨z,z0,z1,z2,z3,z4,z5,z6,z7⟩:=hV3.vr.zc
  have HR:=Lib.hid (hV3.vr.res (0,0,0,0))
  clear hV3 HL HG HD
  go_wp2_with fail
  refine bodyPost_ret (results_cell_row2 rfl _ _ (w.heap.size+2) 24 (uL (0,0,0,0)) (0,0) _ rfl HR.out.2 Tryz.underlying24 rfl (by kernel_rfl)) rfl ?_
  exact ⟨rfl,HR.out.1⟩
 | true =>
  have HV3:=Lib.hid hV3
  clear hV3
  go_wp2_with fail
  refine Calls.mono (HG.out _ HV3.out) ?_
  rintro e w4 ⟨rfl,hV4⟩
  clear d0 d1 d2 d3 HG HV3
  cases b2 with
  | false =>
   obtain ⟨h1,h2⟩:=HL.out.2.1 (by trivial) (by trivial)
   subst h1 h2
   obtain ⟨z,z0,z1,z2,z3,z4,z5,z6,z7⟩:=hV4.vr.zc
   have HR:=Lib.hid (hV4.vr.res (0,0,0,0))
   clear hV4 HL HD
   go_wp2_with fail
   refine bodyPost_ret (results_cell_row2 rfl _ _ (w.heap.size+2) 24 (uL (0,0,0,0)) (0,0) _ rfl HR.out.2 Tryz.underlying24 rfl (by kernel_rfl)) rfl ?_
   exact ⟨rfl,HR.out.1⟩
  | true =>
   obtain ⟨d0,d1,d2,d3,_⟩:=row4 (hV4.r 1 m rfl)
   by_cases hm0:m=(0,0,0,0)
   ·have hE:∀ w,(Op.equalIn 10000 24 (uV m) (.agg #[.int .u64 0,.int .u64 0,.int .u64 0,.int .u64 0])).run Tryz.prog w = .ok true w:=fun w=>by
     have:=eqU m (0,0,0,0) w
     rwa [decide_eq_true hm0] at this
    obtain ⟨h1,h2⟩:=(HL.out.2.2 (by trivial) (by trivial)).1 hm0
    subst h1 h2
    obtain ⟨z,z0,z1,z2,z3,z4,z5,z6,z7⟩:=hV4.vr.zc
    have HR:=Lib.hid (hV4.vr.res (0,0,0,0))
    clear hV4 HL HD hm0
    go_wp2_with fail
    refine bodyPost_ret (results_cell_row2 rfl _ _ (w.heap.size+2) 24 (uL (0,0,0,0)) (0,0) _ rfl HR.out.2 Tryz.underlying24 rfl (by kernel_rfl)) rfl ?_
    exact ⟨rfl,HR.out.1⟩
   ·have hE:∀ w,(Op.equalIn 10000 24 (uV m) (.agg #[.int .u64 0,.int .u64 0,.int .u64 0,.int .u64 0])).run Tryz.prog w = .ok false w:=fun w=>by
     have:=eqU m (0,0,0,0) w
     rwa [decide_eq_false hm0] at this
    obtain ⟨h1,h2⟩:=(HL.out.2.2 (by trivial) (by trivial)).2 hm0
    subst h1 h2
    have HV4:=Lib.hid hV4.drew
    clear hV4 HL hm0
    go_upto_region 5 with fail
    clear d0 d1 d2 d3 hE
    refine wp_region_rely [[],[],[],[0,1,2],[0,1,2,3],[0,1,2,3],[0,1,2,3,4,5],[0,1,2,3,4,5,6]]
     [rgC (VP w [a,m] 2 []),rgV 0 (uV a),rgV 1 (uV sqW),rgV 2 (uV m),rgV 3 (.tuple #[uV u,.bool v]),rgV 4 (uV u),rgV 5 (.bool v),rgV 7 (.bool v),rgR 6 (w.heap.size+2) (u)] _ (by kernel_rfl) (by kernel_rfl) (by kernel_rfl)
     (fun vs=>by simp only [rgAct,rgPut,List.setIfInBounds_toArray,List.set_cons_zero,List.set_cons_succ]; exact rfl)
     ⟨fun _ _ _ hb h=>h.below hb,rgV_st,rgV_st,rgV_st,rgV_st,rgV_st,rgV_st,rgV_st,rgR_st,trivial⟩ ?_ ?_ ?_
    ·refine rgAll_yes rfl HV4.out ?_
     iterate 8 refine rgAll_no rfl ?_
     exact trivial
    ·refine ⟨?_,?_,?_,?_,?_,?_,?_,?_,trivial⟩
     ·rintro vs w1 ⟨hC,_⟩ K hK
      refine rg_loadU rfl rfl rfl (hC.r 0 a rfl) (hK _ _ (.inl (Below.refl _ _)) ?_)
      exact rgNew_one 1 rfl fun _=>rfl
     ·rintro vs w1 ⟨_,_⟩ K hK
      refine rg_fn rfl rfl rfl (by kernel_rfl) rfl (Calls.mono (square_any _) ?_)
      rintro e w2 ⟨rfl,hb⟩
      refine ⟨_,rfl,hK _ _ (.inl hb) ?_⟩
      exact rgNew_one 2 rfl fun _=>rfl
     ·rintro vs w1 ⟨hC,_⟩ K hK
      refine rg_loadU rfl rfl rfl (hC.r 1 m rfl) (hK _ _ (.inl (Below.refl _ _)) ?_)
      exact rgNew_one 3 rfl fun _=>rfl
     ·rintro vs w1 ⟨_,e0,e1,e2,_⟩ K hK
      refine rg_fn rfl rfl rfl (by kernel_rfl) (show [vs 0,vs 1,vs 2]=_ from by rw [rg1 e0,rg1 e1,rg1 e2]) (Calls.mono (HD.out _) ?_)
      rintro e w2 ⟨rfl,hb⟩
      refine ⟨_,rfl,hK _ _ (.inl hb) ?_⟩
      exact rgNew_one 4 rfl fun _=>rfl
     ·rintro vs w1 ⟨_,_,_,_,e3,_⟩ K hK
      refine rg_extract rfl rfl (rg1 e3) rfl (hK _ _ (.inl (Below.refl _ _)) ?_)
      exact rgNew_one 5 rfl fun _=>rfl
     ·rintro vs w1 ⟨_,_,_,_,e3,_⟩ K hK
      refine rg_extract rfl rfl (rg1 e3) rfl (hK _ _ (.inl (Below.refl _ _)) ?_)
      exact rgNew_one 6 rfl fun _=>rfl
     ·rintro vs w1 ⟨hC,_,_,_,_,e4,_,_⟩ K hK
      refine rg_storeU rfl rfl rfl (rg1 e4) hC.vr.z.choose_spec (hK _ _ (.inr ?_) ?_)
      ·refine rgStay_yes rfl (fun hC _=>hC.put _) ?_
       iterate 6 refine rgStay_yes rfl (fun h _=>h) ?_
       iterate 2 refine rgStay_no rfl ?_
       exact trivial
      ·iterate 8 refine rgNew_no rfl ?_
       refine rgNew_yes rfl (fun _=>setRow_heap _ _ _ _ _ _ hC.vr.z.choose_spec) ?_
       exact trivial
     ·rintro vs w1 ⟨_,_,_,_,_,_,e5,_,_⟩ K hK
      refine rg_move rfl (.inr rfl) (rg1 e5) (hK _ _ (.inl (Below.refl _ _)) ?_)
      exact rgNew_one 7 rfl fun _=>rfl
    ·intro vs w1 hA
     obtain ⟨hC,e0,e1,e2,e3,e4,e5,e7,t6,_⟩:=hA
     have e0:=rg1 e0
     have e1:=rg1 e1
     have e2:=rg1 e2
     have e3:=rg1 e3
     have e4:=rg1 e4
     have e5:=rg1 e5
     have e7:=rg1 e7
     simp only [e0,e1,e2,e3,e4,e5,e7]
     have HR:=Lib.hid t6
     have HB:=Lib.hid hC.b
     go_wp2_with fail
     refine bodyPost_ret (results_cell_row2 rfl _ _ (w.heap.size+2) 24 (uL u) (0,0) _ rfl HR.out Tryz.underlying24 rfl (by kernel_rfl)) rfl ?_
     exact ⟨rfl,HB.out⟩
def Ex.good (x:Ex):Bool:=decide (1≤x.st) && (decide (1≤x.sg) && (decide (0≤x.op) && (decide (0≤x.bl) && (decide (x.bl≤1099511627776) && (decide (uN x.wo < M128) && decide (uCmp x.mx oneW≤0))))))
theorem xgood_any (x:Ex) (hwo:x.wo.Ok) (hmx:x.mx.Ok) (w:World):Calls Tryz.prog 102 #[.agg x.L] w fun e w'=>e = .returned (.bool x.good)∧Below w.heap.size w w':=by
 have hB:=(BV.start w).alloc (exO x)
 have HA:Hid (∀ rs W,BV w rs W→Calls Tryz.prog 11 #[uV x.wo] W fun e w'=>e = .returned (.bool (decide (uN x.wo < M128)))∧BV w rs w'):=fun rs W h=>h.reads (wamount_any _ hwo W)
 have HG:Hid (∀ rs W,BV w rs W→Calls Tryz.prog 69 #[uV x.mx] W fun e w'=>e = .returned (.bool (decide (uCmp x.mx oneW≤0)))∧BV w rs w'):=fun rs W h=>h.reads (wgood_any _ hmx W)
 have hgd:x.good=(decide (1≤x.st) && (decide (1≤x.sg) && (decide (0≤x.op) && (decide (0≤x.bl) && (decide (x.bl≤1099511627776) && (decide (uN x.wo < M128) && decide (uCmp x.mx oneW≤0))))))):=rfl
 generalize decide (uN x.wo < M128)=b1 at *
 generalize decide (uCmp x.mx oneW≤0)=b2 at *
 generalize x.good=gd at *
 clear hwo hmx
 obtain ⟨xs,xo,xt,xb,W,M⟩:=x
 have HB:=Lib.hid hB
 dsimp only [exO,Ex.L] at HB HA HG hgd ⊢
 clear hB
 go_enter Tryz.func102,Tryz.ntmps102
 go_upto_region 1 with fail
 generalize w.alloc (.cells #[.int .i64 xs,.int .i64 xo,.int .i64 xt,.int .i64 xb,.int .u64 W.1,.int .u64 W.2.1,.int .u64 W.2.2.1,.int .u64 W.2.2.2,.int .u64 M.1,.int .u64 M.2.1,.int .u64 M.2.2.1,.int .u64 M.2.2.2] 26)=w4 at *
 have hB:=HB.out
 obtain ⟨⟨k0,k1,k2,k3⟩,⟨p0,p1,p2,p3⟩,⟨q0,q1,q2,q3⟩⟩:=rowE (x:=⟨xs,xo,xt,xb,W,M⟩) (hB.row (g:=w.heap.size) (o:=(.cells #[.int .i64 xs,.int .i64 xo,.int .i64 xt,.int .i64 xb,.int .u64 W.1,.int .u64 W.2.1,.int .u64 W.2.2.1,.int .u64 W.2.2.2,.int .u64 M.1,.int .u64 M.2.1,.int .u64 M.2.2.1,.int .u64 M.2.2.2] 26)) (by simp))
 have HBL:=Lib.hid (BV.bl hB)
 clear hB
 by_cases h0:1≤xs
 case' neg =>
  rw [decide_eq_false h0] at hgd
  simp only [Bool.false_and] at hgd
  subst hgd
  clear HA HG HB
  go_wp2_with fail
  go_ret
  exact ⟨rfl,HBL.out⟩
 by_cases h1:1≤xt
 case' neg =>
  rw [decide_eq_true h0,decide_eq_false h1] at hgd
  simp only [Bool.true_and,Bool.false_and] at hgd
  subst hgd
  clear HA HG HB
  go_wp2_with fail
  go_ret
  exact ⟨rfl,HBL.out⟩
 by_cases h2:0≤xo
 case' neg =>
  rw [decide_eq_true h0,decide_eq_true h1,decide_eq_false h2] at hgd
  simp only [Bool.true_and,Bool.false_and] at hgd
  subst hgd
  clear HA HG HB
  go_wp2_with fail
  go_ret
  exact ⟨rfl,HBL.out⟩
 by_cases h3:0≤xb
 case' neg =>
  rw [decide_eq_true h0,decide_eq_true h1,decide_eq_true h2,decide_eq_false h3] at hgd
  simp only [Bool.true_and,Bool.false_and] at hgd
  subst hgd
  clear HA HG HB
  go_wp2_with fail
  go_ret
  exact ⟨rfl,HBL.out⟩
 by_cases h4:xb≤1099511627776
 case' neg =>
  rw [decide_eq_true h0,decide_eq_true h1,decide_eq_true h2,decide_eq_true h3,decide_eq_false h4] at hgd
  simp only [Bool.true_and,Bool.false_and] at hgd
  subst hgd
  clear HA HG HB
  go_wp2_with fail
  go_ret
  exact ⟨rfl,HBL.out⟩
 rw [decide_eq_true h0,decide_eq_true h1,decide_eq_true h2,decide_eq_true h3,decide_eq_true h4] at hgd
 simp only [Bool.true_and] at hgd
 go_wp2_with fail
 refine Calls.mono (HA.out _ _ HB.out) ?_
 rintro e w5 ⟨rfl,hB5⟩
 obtain ⟨⟨k0,k1,k2,k3⟩,⟨p0,p1,p2,p3⟩,⟨q0,q1,q2,q3⟩⟩:=rowE (x:=⟨xs,xo,xt,xb,W,M⟩) (hB5.row (g:=w.heap.size) (o:=(.cells #[.int .i64 xs,.int .i64 xo,.int .i64 xt,.int .i64 xb,.int .u64 W.1,.int .u64 W.2.1,.int .u64 W.2.2.1,.int .u64 W.2.2.2,.int .u64 M.1,.int .u64 M.2.1,.int .u64 M.2.2.1,.int .u64 M.2.2.2] 26)) (by simp))
 clear HBL
 cases b1 with
 | false =>
  simp only [Bool.false_and] at hgd
  subst hgd
  have HBL:=Lib.hid (BV.bl hB5)
  clear hB5 HA HG HB
  go_wp2_with fail
  go_ret
  exact ⟨rfl,HBL.out⟩
 | true =>
  simp only [Bool.true_and] at hgd
  subst hgd
  have HG5:=Lib.hid (HG.out _ _ hB5)
  clear hB5 HA HG HB
  go_wp2_with fail
  refine Calls.mono HG5.out ?_
  rintro e w6 ⟨rfl,hB6⟩
  have HBL:=Lib.hid (BV.bl hB6)
  clear hB6 HG5
  go_wp2_with fail
  go_ret
  exact ⟨rfl,HBL.out⟩
end Go.Proofs.YtnkilceibkkjlaaGreat
