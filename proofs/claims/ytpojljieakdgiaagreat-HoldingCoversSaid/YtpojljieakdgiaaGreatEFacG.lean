/- What is proved here: factor.Grow and factor.Move of the program. Their condition: words below 2^64. -/
import Derived.Test.YtpojljieakdgiaaGreatEFacT
import Derived.Test.YtpojljieakdgiaaGreatERQuo
set_option maxRecDepth 100000
set_option maxHeartbeats 16000000
namespace Go.Proofs.YtpojljieakdgiaaGreat
open Go.RowKit
def growB (d f m x:W4):Bool:=goodB d f m && (decide (uN m≠0) && (decide (uN x≠0) && (decide (uN d+uN x < M128) && facB (uOf (worthN d f m+uN x)) (uOf (uN d+uN x)) m)))
def growW (d f m x:W4):W4:=if growB d f m x then facW (uOf (worthN d f m+uN x)) (uOf (uN d+uN x)) m else (0,0,0,0)
theorem grow_no {d f m x:W4} (h:growB d f m x=false):growW d f m x=(0,0,0,0):=by unfold growW; rw [if_neg (by rw [h]; decide)]
theorem fac_no {w d m:W4} (h:facB w d m=false):facW w d m=(0,0,0,0):=by unfold facW; rw [if_neg (by rw [h]; decide)]
theorem grow_yes {d f m x:W4} (h1:goodB d f m=true) (h2:uN m≠0) (h3:uN x≠0) (h4:uN d+uN x < M128):growB d f m x=facB (uOf (worthN d f m+uN x)) (uOf (uN d+uN x)) m∧growW d f m x=facW (uOf (worthN d f m+uN x)) (uOf (uN d+uN x)) m:=by
 have he:growB d f m x=facB (uOf (worthN d f m+uN x)) (uOf (uN d+uN x)) m:=by
  unfold growB; rw [h1,decide_eq_true h2,decide_eq_true h3,decide_eq_true h4,Bool.true_and,Bool.true_and,Bool.true_and,Bool.true_and]
 refine ⟨he,?_⟩
 unfold growW
 split
 ·rfl
 ·rename_i h
  rw [he] at h
  exact (fac_no (by simpa using h)).symm
theorem grow_n1 {d f m x:W4} (h:goodB d f m=false):growB d f m x=false:=by unfold growB; rw [h]; rfl
theorem grow_n2 {d f m x:W4} (h:m=(0,0,0,0)):growB d f m x=false:=by
 unfold growB; rw [decide_eq_false (show ¬ uN m≠0 from fun e=>e (u0_iff.1 h)),Bool.false_and,Bool.and_false]
theorem grow_n3 {d f m x:W4} (h:x=(0,0,0,0)):growB d f m x=false:=by
 unfold growB; rw [decide_eq_false (show ¬ uN x≠0 from fun e=>e (u0_iff.1 h)),Bool.false_and,Bool.and_false,Bool.and_false]
theorem grow_n4 {d f m x:W4} (h:¬ uN d+uN x < M128):growB d f m x=false:=by
 unfold growB; rw [decide_eq_false h,Bool.false_and,Bool.and_false,Bool.and_false,Bool.and_false]
theorem sum_amt {d x:W4}:sumB d x=true∧uN (sumW d x) < M128↔uN d+uN x < M128:=by
 unfold sumB sumW toB toW W256 M128
 rw [decide_eq_true_eq]
 constructor
 ·rintro ⟨h1,h2⟩
  rwa [if_pos h1,uN_of h1] at h2
 ·intro h
  have h1:uN d+uN x < 115792089237316195423570985008687907853269984665640564039457584007913129639936:=by omega
  rw [if_pos h1,uN_of h1]; exact ⟨h1,h⟩
theorem sum_of {d x:W4} (h:uN d+uN x < 115792089237316195423570985008687907853269984665640564039457584007913129639936):sumW d x=uOf (uN d+uN x):=by
 unfold sumW toW W256; rw [if_pos h]
theorem grow_go {d f m x:W4} (h1:goodB d f m=true) (h2:m≠(0,0,0,0)) (h3:x≠(0,0,0,0)) (h4:uN d+uN x < M128):growB d f m x=facB (sumW (worthW d f m) x) (sumW d x) m∧growW d f m x=facW (sumW (worthW d f m) x) (sumW d x) m∧uN (sumW d x) < M128∧uN m≤1000000000000000000:=by
 have hw:=worth_le h1
 obtain ⟨g1,_,g3⟩:=good_iff.1 h1
 have e1:sumW d x=uOf (uN d+uN x):=sum_of (by unfold M128 at h4; omega)
 have e2:sumW (worthW d f m) x=uOf (worthN d f m+uN x):=by
  rw [sum_of (by rw [worth_nat h1]; unfold M128 at *; omega),worth_nat h1]
 rw [e1,e2]
 obtain ⟨p1,p2⟩:=grow_yes h1 (fun e=>h2 (u0_iff.2 e)) (fun e=>h3 (u0_iff.2 e)) h4
 exact ⟨p1,p2,by rw [uN_of (by unfold M128 at h4; omega)]; exact h4,g3⟩
theorem VP.upd {w wr:World} {l:List W4} {n:Nat} {g g':Nat} {x y q:W4} (h:VP w l n [(g',y),(g,x)] wr) (hne:g'≠g):VP w l n [(g',y),(g,q)] ((((wr.setCell ⟨g,0,none⟩ (.int .u64 q.1)).setCell ⟨g,1,none⟩ (.int .u64 q.2.1)).setCell ⟨g,2,none⟩ (.int .u64 q.2.2.1)).setCell ⟨g,3,none⟩ (.int .u64 q.2.2.2)):=by
 have hg:=h.p g x (by simp)
 have hg':=h.p g' y (by simp)
 have oth:∀ k,k≠g→((((wr.setCell ⟨g,0,none⟩ (.int .u64 q.1)).setCell ⟨g,1,none⟩ (.int .u64 q.2.1)).setCell ⟨g,2,none⟩ (.int .u64 q.2.2.1)).setCell ⟨g,3,none⟩ (.int .u64 q.2.2.2)).heap[k]? = wr.heap[k]?:=fun k hk=>by
  rw [Below.heap_setCell _ _ _ _ hk,Below.heap_setCell _ _ _ _ hk,Below.heap_setCell _ _ _ _ hk,Below.heap_setCell _ _ _ _ hk]
 have hn:=h.vr.n
 refine ⟨⟨⟨put4_below h.b (by omega) _ _ _ _,fun i z hz => ?_⟩,⟨h.vr.z.choose,?_⟩,h.vr.n⟩,fun k z hk => ?_⟩
 ·have:=(List.getElem?_eq_some_iff.1 hz).1
  rw [oth _ (by omega)]; exact h.r i z hz
 ·rw [oth _ (by omega)]; exact h.vr.z.choose_spec
 ·simp only [List.mem_cons,List.not_mem_nil,or_false,Prod.mk.injEq] at hk
  rcases hk with ⟨rfl,rfl⟩ | ⟨rfl,rfl⟩
  ·exact ⟨hg'.1,by rw [oth _ hne]; exact hg'.2⟩
  ·exact ⟨hg.1,put4 hg.2 z⟩
theorem fgrow_any (d f m x:W4) (hd:d.Ok) (hf:f.Ok) (hm:m.Ok) (hx:x.Ok) (w:World):Calls Tryz.prog 59 #[uV d,uV f,uV m,uV x] w fun e w'=>e = .returned (.tuple #[uV (growW d f m x),.bool (growB d f m x)])∧Below w.heap.size w w':=by
 have HV:=Lib.hid (VAt.vr (l:=[d,f,m,x]) (VAt.start w [d,f,m,x,(0,0,0,0)])).vp
 have HW:Hid (∀ W,VP w [d,f,m,x] 4 [] W→Calls Tryz.prog 70 #[uV d,uV f,uV m] W fun e w'=>e = .returned (.tuple #[uV (worthW d f m),.bool (goodB d f m)])∧VP w [d,f,m,x] 4 [] w'):=fun W hW =>
  (fworth_any d f m hd hf hm W).mono fun e w' ⟨he,hb⟩=>⟨he,hW.below hb⟩
 have HS:Hid (∀ ps W,VP w [d,f,m,x] 4 ps W→Calls Tryz.prog 60 #[uV d,uV x] W fun e w'=>e = .returned (.tuple #[uV (sumW d x),.bool (sumB d x)])∧VP w [d,f,m,x] 4 ps w'):=fun ps W hW =>
  (uadd_is d x hd hx W).mono fun e w' ⟨he,hb⟩=>⟨he,hW.below hb⟩
 have HA:Hid (∀ ps W,VP w [d,f,m,x] 4 ps W→Calls Tryz.prog 25 #[uV (sumW d x)] W fun e w'=>e = .returned (.bool (decide (uN (sumW d x) < M128)))∧VP w [d,f,m,x] 4 ps w'):=fun ps W hW =>
  (wamount_any _ (toW_ok _) W).mono fun e w' ⟨he,hb⟩=>⟨he,hW.below hb⟩
 have HT:Hid (∀ ps W,VP w [d,f,m,x] 4 ps W→Calls Tryz.prog 60 #[uV (worthW d f m),uV x] W fun e w'=>e = .returned (.tuple #[uV (sumW (worthW d f m) x),.bool (sumB (worthW d f m) x)])∧VP w [d,f,m,x] 4 ps w'):=fun ps W hW =>
  (uadd_is _ x (worthW_ok _ _ _) hx W).mono fun e w' ⟨he,hb⟩=>⟨he,hW.below hb⟩
 have HN0:Hid (growB d f m x=false→growW d f m x=(0,0,0,0)):=grow_no
 have HN1:Hid (goodB d f m=false→growB d f m x=false):=grow_n1
 have HN2:Hid (m=(0,0,0,0)→growB d f m x=false):=grow_n2
 have HN3:Hid (x=(0,0,0,0)→growB d f m x=false):=grow_n3
 have HN4:Hid (¬ (sumB d x=true∧decide (uN (sumW d x) < M128)=true)→growB d f m x=false):=fun h=>grow_n4 (fun e=>h (by rw [decide_eq_true_eq]; exact sum_amt.2 e))
 have HGO:Hid (goodB d f m=true→m≠(0,0,0,0)→x≠(0,0,0,0)→sumB d x=true→decide (uN (sumW d x) < M128)=true→(growB d f m x=facB (sumW (worthW d f m) x) (sumW d x) m∧growW d f m x=facW (sumW (worthW d f m) x) (sumW d x) m) ∧
   ∀ ps W,VP w [d,f,m,x] 4 ps W→Calls Tryz.prog 124 #[uV (sumW (worthW d f m) x),uV (sumW d x),uV m] W fun e w'=>e = .returned (.tuple #[uV (growW d f m x),.bool (growB d f m x)])∧VP w [d,f,m,x] 4 ps w'):=fun h1 h2 h3 h4 h5=>by
  obtain ⟨q1,q2,q3,q4⟩:=grow_go h1 h2 h3 (sum_amt.1 ⟨h4,of_decide_eq_true h5⟩)
  refine ⟨⟨q1,q2⟩,fun ps W hW => ?_⟩
  rw [q1,q2]
  exact (ffac_any _ _ m (toW_ok _) (toW_ok _) hm q3 q4 W).mono fun e w' ⟨he,hb⟩=>⟨he,hW.below hb⟩
 have hEm:∀ w,(Op.equalIn 10000 28 (uV m) (.agg #[.int .u64 0,.int .u64 0,.int .u64 0,.int .u64 0])).run Tryz.prog w = .ok (decide (m=(0,0,0,0))) w:=fun w=>eqU m (0,0,0,0) w
 have hEx:∀ w,(Op.equalIn 10000 28 (uV x) (.agg #[.int .u64 0,.int .u64 0,.int .u64 0,.int .u64 0])).run Tryz.prog w = .ok (decide (x=(0,0,0,0))) w:=fun w=>eqU x (0,0,0,0) w
 have hm0:decide (m=(0,0,0,0))=true→m=(0,0,0,0):=of_decide_eq_true
 have hm1:decide (m=(0,0,0,0))=false→m≠(0,0,0,0):=of_decide_eq_false
 have hx0:decide (x=(0,0,0,0))=true→x=(0,0,0,0):=of_decide_eq_true
 have hx1:decide (x=(0,0,0,0))=false→x≠(0,0,0,0):=of_decide_eq_false
 have HM0:=Lib.hid (And.intro (And.intro hm0 hm1) (And.intro hx0 hx1))
 clear hm0 hm1 hx0 hx1
 generalize growW d f m x=u at *
 generalize growB d f m x=v at *
 generalize goodB d f m=g at *
 generalize decide (m=(0,0,0,0))=cm at *
 generalize decide (x=(0,0,0,0))=cx at *
 generalize decide (uN (sumW d x) < M128)=am at *
 generalize worthW d f m=wd at *
 generalize sumW wd x=t at *
 generalize sumB wd x=tb at *
 generalize sumW d x=s at *
 generalize sumB d x=sb at *
 go_enter Tryz.func59,Tryz.ntmps59
 go_wp2_with fail
 refine Calls.mono (HW.out _ HV.out) ?_
 rintro e w3 ⟨rfl,hV3⟩
 have hV4:=hV3.alloc wd
 have hp1:=(hV4.p _ _ (List.mem_cons_self ..)).1
 clear hV3 HV HW
 go_upto_region 2 with fail
 generalize w3.alloc (.cells (uL wd) 28)=w4 at *
 generalize w3.heap.size=g1 at *
 obtain ⟨z,z0,z1,z2,z3,z4,z5,z6,z7⟩:=hV4.vr.zc
 obtain ⟨a0,a1,a2,a3,_⟩:=row4 hV4.r0
 obtain ⟨b0,b1,b2,b3,_⟩:=row4 (hV4.r 2 m rfl)
 obtain ⟨c0,c1,c2,c3,_⟩:=row4 (hV4.r 3 x rfl)
 have HV4:=Lib.hid hV4
 have HR0:=Lib.hid (hV4.vr.res (0,0,0,0))
 clear hV4
 cases g with
 | false =>
  obtain rfl:=HN1.out rfl
  obtain rfl:=HN0.out rfl
  clear HS HA HT HN0 HN1 HN2 HN3 HN4 HGO HM0
  go_wp2_with fail
  refine bodyPost_ret (results_cell_row2 rfl _ _ (w.heap.size+4) 28 (uL (0,0,0,0)) (0,0) _ rfl HR0.out.2 Tryz.underlying28 rfl (by kernel_rfl)) rfl ?_
  exact ⟨rfl,HR0.out.1⟩
 | true=>cases cm with
  | true =>
   obtain rfl:=HN2.out (HM0.out.1.1 rfl)
   obtain rfl:=HN0.out rfl
   clear HS HA HT HN0 HN1 HN2 HN3 HN4 HGO HM0
   go_wp2_with fail
   refine bodyPost_ret (results_cell_row2 rfl _ _ (w.heap.size+4) 28 (uL (0,0,0,0)) (0,0) _ rfl HR0.out.2 Tryz.underlying28 rfl (by kernel_rfl)) rfl ?_
   exact ⟨rfl,HR0.out.1⟩
  | false=>cases cx with
   | true =>
    obtain rfl:=HN3.out (HM0.out.2.1 rfl)
    obtain rfl:=HN0.out rfl
    clear HS HA HT HN0 HN1 HN2 HN3 HN4 HGO HM0
    go_wp2_with fail
    refine bodyPost_ret (results_cell_row2 rfl _ _ (w.heap.size+4) 28 (uL (0,0,0,0)) (0,0) _ rfl HR0.out.2 Tryz.underlying28 rfl (by kernel_rfl)) rfl ?_
    exact ⟨rfl,HR0.out.1⟩
   | false =>
    have HG2:=Lib.hid (HGO.out rfl (HM0.out.1.2 rfl) (HM0.out.2.2 rfl))
    clear HN1 HN2 HN3 HM0 HGO HR0
    go_wp2_with fail
    refine Calls.mono (HS.out _ _ HV4.out) ?_
    rintro e w5 ⟨rfl,hV5⟩
    have hV6:=hV5.alloc s
    have hlt:=lt_of_at (hV5.p0)
    clear z z0 z1 z2 z3 z4 z5 z6 z7 a0 a1 a2 a3 b0 b1 b2 b3 c0 c1 c2 c3 HV4 HS hV5
    go_upto_region 5 with fail
    generalize w5.alloc (.cells (uL s) 28)=w6 at *
    generalize w5.heap.size=g2 at *
    obtain ⟨z,z0,z1,z2,z3,z4,z5,z6,z7⟩:=hV6.vr.zc
    obtain ⟨s0,s1,s2,s3,_⟩:=row4 hV6.p0
    have HV6:=Lib.hid hV6
    have HR0:=Lib.hid (hV6.vr.res (0,0,0,0))
    clear hV6
    cases sb with
    | false =>
     obtain rfl:=HN4.out (fun h=>by cases h.1)
     obtain rfl:=HN0.out rfl
     clear HA HT HN0 HN4 HG2
     go_wp2_with fail
     refine bodyPost_ret (results_cell_row2 rfl _ _ (w.heap.size+4) 28 (uL (0,0,0,0)) (0,0) _ rfl HR0.out.2 Tryz.underlying28 rfl (by kernel_rfl)) rfl ?_
     exact ⟨rfl,HR0.out.1⟩
    | true =>
     clear HR0
     go_wp2_with fail
     refine Calls.mono (HA.out _ _ HV6.out) ?_
     rintro e w7 ⟨rfl,hV7⟩
     clear z z0 z1 z2 z3 z4 z5 z6 z7 s0 s1 s2 s3 HV6 HA
     obtain ⟨z,z0,z1,z2,z3,z4,z5,z6,z7⟩:=hV7.vr.zc
     cases am with
     | false =>
      obtain rfl:=HN4.out (fun h=>by cases h.2)
      obtain rfl:=HN0.out rfl
      have HR0:=Lib.hid (hV7.vr.res (0,0,0,0))
      clear hV7 HT HN0 HN4 HG2
      go_wp2_with fail
      refine bodyPost_ret (results_cell_row2 rfl _ _ (w.heap.size+4) 28 (uL (0,0,0,0)) (0,0) _ rfl HR0.out.2 Tryz.underlying28 rfl (by kernel_rfl)) rfl ?_
      exact ⟨rfl,HR0.out.1⟩
     | true =>
      have HG3:=Lib.hid (HG2.out (by trivial) (by trivial)).2
      obtain ⟨y0,y1,y2,y3,_⟩:=row4 hV7.p1
      obtain ⟨c0,c1,c2,c3,_⟩:=row4 (hV7.r 3 x rfl)
      have HV7:=Lib.hid hV7
      clear hV7 HG2 HN0 HN4
      go_wp2_with fail
      refine Calls.mono (HT.out _ _ HV7.out) ?_
      rintro e w8 ⟨rfl,hV8⟩
      have hV9:=hV8.upd (q:=t) (Nat.ne_of_gt hlt)
      clear z z0 z1 z2 z3 z4 z5 z6 z7 y0 y1 y2 y3 c0 c1 c2 c3 HV7 HT
      obtain ⟨y0,y1,y2,y3,y4,y5,y6,y7⟩:=row4 hV8.p1
      clear hV8
      go_upto_region 8 with fail
      generalize (((w8.setCell ⟨g1,0,none⟩ (.int .u64 t.1)).setCell ⟨g1,1,none⟩ (.int .u64 t.2.1)).setCell ⟨g1,2,none⟩ (.int .u64 t.2.2.1)).setCell ⟨g1,3,none⟩ (.int .u64 t.2.2.2)=w9 at *
      clear y0 y1 y2 y3 y4 y5 y6 y7
      obtain ⟨y0,y1,y2,y3,_⟩:=row4 hV9.p1
      obtain ⟨s0,s1,s2,s3,_⟩:=row4 hV9.p0
      obtain ⟨b0,b1,b2,b3,_⟩:=row4 (hV9.r 2 m rfl)
      have HV9:=Lib.hid hV9
      clear hV9
      go_wp2_with fail
      refine Calls.mono (HG3.out _ _ HV9.out) ?_
      rintro e w10 ⟨rfl,hV10⟩
      obtain ⟨z,z0,z1,z2,z3,z4,z5,z6,z7⟩:=hV10.vr.zc
      have HR0:=Lib.hid (hV10.vr.res u)
      clear hV10 HV9 HG3
      go_wp2_with fail
      refine bodyPost_ret (results_cell_row2 rfl _ _ (w.heap.size+4) 28 (uL u) (0,0) _ rfl HR0.out.2 Tryz.underlying28 rfl (by kernel_rfl)) rfl ?_
      exact ⟨rfl,HR0.out.1⟩
theorem VP.keep {w wr:World} {l:List W4} {n g:Nat} {q:W4} (h:VP w l n [] wr) (hg:w.heap.size+n+1≤g):VP w l n [] (wr.setRow g (uL q)):=⟨h.vr.keep hg,fun _ _ hx=>by cases hx⟩
end Go.Proofs.YtpojljieakdgiaaGreat
