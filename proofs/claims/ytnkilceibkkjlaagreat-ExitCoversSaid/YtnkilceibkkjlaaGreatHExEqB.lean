/- What is proved here: the exit laws' own example, played. No condition. ExitNone's walk. Conditions: ints below 2^63, words below 2^64. exits: what the states keep behind Add, Done, Cut; that a search that halves finds what one by one finds; program and reference do the same. Conditions: ints below 2^63, words below 2^64. -/
import Derived.Test.YtnkilceibkkjlaaGreatHRelyX
import Derived.Test.YtnkilceibkkjlaaGreatHExNo
set_option maxRecDepth 100000
set_option maxHeartbeats 16000000
namespace Go.Proofs.YtnkilceibkkjlaaGreat
open Go.RowKit
theorem lives24 (w:World):Calls Tryz.prog 12 #[] w fun e w'=>e = .returned (.bool true)∧Below w.heap.size w w':=by
 have HN:=Lib.hid (newB w)
 have HONE:Hid (∀ W,Calls Tryz.prog 24 #[] W fun e w'=>e = .returned (.agg #[.int .u64 1000000000000000000,.int .u64 0,.int .u64 0,.int .u64 0])∧Below W.heap.size W w'):=one_any
 have HADD:Hid (∀ q L w1 rs W,HV (xvH q L) w1 emptySt rs W→Calls Tryz.prog 37 #[.pointer q,.agg #[.int .i64 8,.int .i64 7,.int .i64 1,.int .i64 0,.int .u64 100,.int .u64 0,.int .u64 0,.int .u64 0,.int .u64 1000000000000000000,.int .u64 0,.int .u64 0,.int .u64 0]] W fun e w'=>e = .returned (.tuple #[.int .i64 1,.int .i64 0])∧HV (xvH q L) w1 xl1 rs w'):=fun q L w1 rs W hW=>QV.call hW fun L' h1=>(xadd_q W ⟨q,true,L'⟩ emptySt 0 lvx rfl ⟨by decide,by decide,by decide,by decide,u100_ok,one_ok⟩ h1 St.Fit.empty (by decide) (by decide) (fun _=>by rw [xl_i1]; decide) (fun _=>by rw [xl_i2]; decide)).mono fun e w' ⟨he,hO⟩=>⟨he.trans (by rw [xl_n1,xl_e1]),by rw [xl_s1] at hO; exact hO⟩
 have HGET:Hid (∀ q L w1 rs W,HV (xvH q L) w1 xl1 rs W→Calls Tryz.prog 44 #[.pointer q,.int .i64 1] W fun e w'=>e = .returned (.tuple #[.agg #[.int .i64 8,.int .i64 7,.int .i64 1,.int .i64 0,.int .u64 100,.int .u64 0,.int .u64 0,.int .u64 0,.int .u64 1000000000000000000,.int .u64 0,.int .u64 0,.int .u64 0],.bool true])∧HV (xvH q L) w1 xl1 rs w'):=fun q L w1 rs W hW=>QV.reads hW fun L' h1=>(xGet_q W ⟨q,true,L'⟩ xl1 16 1 (by decide) h1 xl_f1 (by decide)).mono fun e w' ⟨he,hO⟩=>⟨he.trans (by rw [xl_g,xl_gi]; rfl),hO⟩
 have HCUT:Hid (∀ q L w1 rs W,HV (xvH q L) w1 xl1 rs W→Calls Tryz.prog 40 #[.pointer q,.int .i64 7,.int .i64 1,.int .i64 0,.int .i64 5,.agg #[.int .u64 500000000000000000,.int .u64 0,.int .u64 0,.int .u64 0],.agg #[.int .u64 1000000000000000000,.int .u64 0,.int .u64 0,.int .u64 0]] W fun e w'=>e = .returned (.tuple #[.agg #[.int .u64 50,.int .u64 0,.int .u64 0,.int .u64 0],.int .i64 0])∧HV (xvH q L) w1 xl2 rs w'):=fun q L w1 rs W hW=>QV.call hW fun L' h1=>(xcut_q W ⟨q,true,L'⟩ xl1 16 7 1 0 5 uHalf oneW lvsl (by decide) uHalf_ok one_ok lvsl_ok (fun W2 L2 h2=>by
  have:=xslash0_q W2 ⟨q,true,L2⟩ xl1 16 7 1 0 5 (by decide) (by decide) (by decide) (by decide) h2 xl_f1 (by decide)
  rw [xl_h] at this
  exact this) h1 xl_f1 (by decide)).mono fun e w' ⟨he,hO⟩=>⟨he.trans (by rw [xl_c1,xl_c2]; rfl),by rw [xl_s2] at hO; exact hO⟩
 have HPA:Hid (∀ q L w1 s rs W,HV (xvH q L) w1 s rs W→Calls Tryz.prog 13 #[.agg #[.int .i64 8,.int .i64 7,.int .i64 1,.int .i64 0,.int .u64 100,.int .u64 0,.int .u64 0,.int .u64 0,.int .u64 1000000000000000000,.int .u64 0,.int .u64 0,.int .u64 0],.agg #[.int .u64 500000000000000000,.int .u64 0,.int .u64 0,.int .u64 0]] W fun e w'=>e = .returned (.agg #[.int .u64 50,.int .u64 0,.int .u64 0,.int .u64 0])∧HV (xvH q L) w1 s rs w'):=fun q L w1 s rs W hW=>QV.reads hW fun L' h1=>(pays_any lvx uHalf u100_ok one_ok uHalf_ok W).mono fun e w' ⟨he,hO⟩=>⟨he.trans (by rw [xl_p]; rfl),hO⟩
 have HLE:Hid (∀ q L w1 rs W,HV (xvH q L) w1 xl2 rs W→Calls Tryz.prog 45 #[.pointer q,.int .i64 1] W fun e w'=>e = .returned (.agg #[.int .u64 50,.int .u64 0,.int .u64 0,.int .u64 0])∧HV (xvH q L) w1 xl2 rs w'):=fun q L w1 rs W hW=>QV.reads hW fun L' h1=>(xLeft_q W ⟨q,true,L'⟩ xl2 18 1 (by decide) h1 xl_f2 (by decide)).mono fun e w' ⟨he,hO⟩=>⟨he.trans (by rw [xl_l]; rfl),hO⟩
 have hE2:∀ w,(Op.equalIn 10000 24 (.agg #[.int .u64 50,.int .u64 0,.int .u64 0,.int .u64 0]) (.agg #[.int .u64 50,.int .u64 0,.int .u64 0,.int .u64 0])).run Tryz.prog w = .ok true w:=fun w=>eqU u50 u50 w
 go_enter Tryz.func12,Tryz.ntmps12
 go_wp2_with fail
 refine Calls.mono HN.out ?_
 rintro e w1 ⟨b,L,rfl,hS,hb,hL⟩
 have hq0:HV (xvH (some ⟨b,0,none⟩) L) w1 emptySt [] w1:=HV.start (.inl ⟨rfl,b,rfl,hS⟩)
 have HBO:Hid (∀ s rs W,HV (xvH (some ⟨b,0,none⟩) L) w1 s rs W→Below w.heap.size w W):=fun s rs W hV=>HV.belowOf hV hb hL
 have hq2:=hq0.alloc (.cells #[.int .u64 500000000000000000,.int .u64 0,.int .u64 0,.int .u64 0] 24)
 clear hq0 hS hb hL HN
 go_upto_region 3 with fail
 generalize w1.alloc (.cells #[.int .u64 500000000000000000,.int .u64 0,.int .u64 0,.int .u64 0] 24)=w2 at *
 generalize hg1:w1.heap.size=g1 at *
 clear hg1
 have HQ2:=Lib.hid hq2
 clear hq2
 go_wp2_with fail
 refine Calls.mono (HONE.out _) ?_
 rintro e w3 ⟨rfl,hb3⟩
 have HQ3:=Lib.hid (HADD.out _ _ _ _ _ (HQ2.out.below hb3))
 clear hb3 HQ2 HADD
 go_wp2_with fail
 refine Calls.mono HQ3.out ?_
 rintro e w4 ⟨rfl,hq4⟩
 have HQ4:=Lib.hid (HGET.out _ _ _ _ _ hq4)
 clear hq4 HQ3 HGET
 go_wp2_with fail
 refine Calls.mono HQ4.out ?_
 rintro e w5 ⟨rfl,hq5⟩
 have HQ6:=Lib.hid (hq5.alloc (.cells #[.int .i64 8,.int .i64 7,.int .i64 1,.int .i64 0,.int .u64 100,.int .u64 0,.int .u64 0,.int .u64 0,.int .u64 1000000000000000000,.int .u64 0,.int .u64 0,.int .u64 0] 26))
 clear hq5 HQ4
 go_upto_region 5 with fail
 generalize w5.alloc (.cells #[.int .i64 8,.int .i64 7,.int .i64 1,.int .i64 0,.int .u64 100,.int .u64 0,.int .u64 0,.int .u64 0,.int .u64 1000000000000000000,.int .u64 0,.int .u64 0,.int .u64 0] 26)=w6 at *
 generalize w5.heap.size=g5 at *
 have H0:HV (xvH (some ⟨b,0,none⟩) L) w1 xl1 ([] ++ [(g5,(.cells #[.int .i64 8,.int .i64 7,.int .i64 1,.int .i64 0,.int .u64 100,.int .u64 0,.int .u64 0,.int .u64 0,.int .u64 1000000000000000000,.int .u64 0,.int .u64 0,.int .u64 0] 26)),(g1,(.cells #[.int .u64 500000000000000000,.int .u64 0,.int .u64 0,.int .u64 0] 24))]) w6.drew:=HQ6.out.drew
 refine wp_region_turn [[],[],[],[0,1,2],[0,1,2,3],[0,1,2,3,4],[0,1,2,3,4],[],[0,1,2,3,4,5,7],[0,1,2,3,4,5,6,7,8]]
  [.pointer (some ⟨b,0,none⟩),.agg #[.int .u64 500000000000000000,.int .u64 0,.int .u64 0,.int .u64 0],.agg #[.int .u64 1000000000000000000,.int .u64 0,.int .u64 0,.int .u64 0],.tuple #[uV u50,.int .i64 0],.tuple #[uV u50,.int .i64 0],uV u50,.int .i64 0,undef,undef,.int .i64 0] 3 7 8 (fun tb rs W=>(∀ g o,(g,o)∈rs→g5≠g∧g1≠g)∧HV (xvH (some ⟨b,0,none⟩) L) w1 (cond tb xl2 xl1) (rs ++ [(g5,Obj.cells #[.int .i64 8,.int .i64 7,.int .i64 1,.int .i64 0,.int .u64 100,.int .u64 0,.int .u64 0,.int .u64 0,.int .u64 1000000000000000000,.int .u64 0,.int .u64 0,.int .u64 0] 26),(g1,Obj.cells #[.int .u64 500000000000000000,.int .u64 0,.int .u64 0,.int .u64 0] 24)]) W) (zO) (uO u50)
  _ (by kernel_rfl) (by kernel_rfl) (by kernel_rfl)
  (fun vs=>by simp only [rgAct,rgPut,List.setIfInBounds_toArray,List.set_cons_zero,List.set_cons_succ]; exact rfl)
  ⟨fun _ _ h=>(by cases h),H0⟩ ?_ ?_
 ·refine ⟨?_,?_,?_,?_,?_,?_,?_,?_,?_,?_,trivial⟩
  ·refine rx_plain rfl ?_
   intro vs tb rs wx hA hP
   exact rg_move rfl (.inl rfl) rfl ⟨rfl,hP⟩
  ·refine rx_plain rfl ?_
   intro vs tb rs wx hA hP
   exact rg_load _ rfl rfl rfl (hP.2.row (g:=g1) (o:=(.cells #[.int .u64 500000000000000000,.int .u64 0,.int .u64 0,.int .u64 0] 24)) (by simp)) Tryz.underlying24 rfl (by kernel_rfl) ⟨rfl,hP⟩
  ·refine rx_plain rfl ?_
   intro vs tb rs wx hA hP
   refine rg_fn rfl rfl rfl (by kernel_rfl) rfl (Calls.mono ((HONE.out wx).mono fun e w2 h=>And.intro h.1 (And.intro hP.1 (hP.2.below h.2))) ?_)
   rintro e w2 ⟨rfl,hP2⟩
   exact ⟨_,rfl,rfl,hP2⟩
  ·refine rx_turn rfl ?_
   intro vs rs wx hA hP
   obtain ⟨e0,e1,e2,_⟩:=hA
   have e0:vs 0 = .pointer (some ⟨b,0,none⟩):=e0
   have e1:vs 1 = .agg #[.int .u64 500000000000000000,.int .u64 0,.int .u64 0,.int .u64 0]:=e1
   have e2:vs 2 = .agg #[.int .u64 1000000000000000000,.int .u64 0,.int .u64 0,.int .u64 0]:=e2
   refine rg_fn rfl rfl rfl (by kernel_rfl) (show [vs 0,.int .i64 7,.int .i64 1,.int .i64 0,.int .i64 5,vs 1,vs 2]=_ from by rw [e0,e1,e2]) (Calls.mono ((HCUT.out _ _ _ _ _ hP.2).mono fun e w2 h=>And.intro h.1 (And.intro hP.1 h.2)) ?_)
   rintro e w2 ⟨rfl,hP2⟩
   exact ⟨_,rfl,rfl,hP2⟩
  ·refine rx_plain rfl ?_
   intro vs tb rs wx hA hP
   obtain ⟨_,_,_,e3,_⟩:=hA
   have e3:vs 3 = .tuple #[uV u50,.int .i64 0]:=e3
   exact rg_move rfl (.inl rfl) e3 ⟨rfl,hP⟩
  ·refine rx_plain rfl ?_
   intro vs tb rs wx hA hP
   obtain ⟨_,_,_,_,e4,_⟩:=hA
   have e4:vs 4 = .tuple #[uV u50,.int .i64 0]:=e4
   exact rg_extract rfl rfl e4 rfl ⟨rfl,hP⟩
  ·refine rx_plain rfl ?_
   intro vs tb rs wx hA hP
   obtain ⟨_,_,_,_,e4,_⟩:=hA
   have e4:vs 4 = .tuple #[uV u50,.int .i64 0]:=e4
   exact rg_extract rfl rfl e4 rfl ⟨rfl,hP⟩
  ·refine rx_alloc rfl ?_
   intro vs tb wx hP
   exact rg_allocU rfl rfl ⟨_,rfl,fun g o h=>(by rw [List.mem_singleton] at h; cases h; exact ⟨Nat.ne_of_lt (lt_of_at (hP.2.row (g:=g5) (o:=(.cells #[.int .i64 8,.int .i64 7,.int .i64 1,.int .i64 0,.int .u64 100,.int .u64 0,.int .u64 0,.int .u64 0,.int .u64 1000000000000000000,.int .u64 0,.int .u64 0,.int .u64 0] 26)) (by simp))),Nat.ne_of_lt (lt_of_at (hP.2.row (g:=g1) (o:=(.cells #[.int .u64 500000000000000000,.int .u64 0,.int .u64 0,.int .u64 0] 24)) (by simp)))⟩),hP.2.alloc zO⟩
  ·refine rx_fill rfl ?_
   intro vs tb g wx hA hg hP
   obtain ⟨_,_,_,_,_,e5,_⟩:=hA
   have e5:vs 5=uV u50:=e5
   exact rg_storeU (r:=(0,0,0,0)) rfl rfl hg e5 (hP.2.row (g:=g) (o:=zO) (by simp)) ⟨rfl,fun g2 o h=>(by rw [List.mem_singleton] at h; cases h; exact hP.1 g zO (by simp)),hP.2.setRow (g:=g) (cs:=uL (0,0,0,0)) (cs':=uL u50) (t:=24) (by simp) [(g5,Obj.cells #[.int .i64 8,.int .i64 7,.int .i64 1,.int .i64 0,.int .u64 100,.int .u64 0,.int .u64 0,.int .u64 0,.int .u64 1000000000000000000,.int .u64 0,.int .u64 0,.int .u64 0] 26),(g1,Obj.cells #[.int .u64 500000000000000000,.int .u64 0,.int .u64 0,.int .u64 0] 24)] (fun x hx=>⟨List.mem_cons_of_mem _ hx,fun e=>(by have h1:=hP.1 g zO (by simp); simp only [List.mem_cons,List.not_mem_nil,or_false] at hx; rcases hx with rfl | rfl; exact absurd e h1.1; exact absurd e h1.2)⟩)⟩
  ·refine rx_plain rfl ?_
   intro vs tb rs wx hA hP
   obtain ⟨_,_,_,_,_,_,e6,_⟩:=hA
   have e6:vs 6 = .int .i64 0:=e6
   exact rg_move rfl (.inr rfl) e6 ⟨rfl,hP⟩
 ·intro vs gn wn hA hg hR
  obtain ⟨e0,e1,e2,e3,e4,e5,e6,_,_,e9,_⟩:=hA
  have e0:vs 0 = .pointer (some ⟨b,0,none⟩):=e0
  have e1:vs 1 = .agg #[.int .u64 500000000000000000,.int .u64 0,.int .u64 0,.int .u64 0]:=e1
  have e2:vs 2 = .agg #[.int .u64 1000000000000000000,.int .u64 0,.int .u64 0,.int .u64 0]:=e2
  have e3:vs 3 = .tuple #[uV u50,.int .i64 0]:=e3
  have e4:vs 4 = .tuple #[uV u50,.int .i64 0]:=e4
  have e5:vs 5=uV u50:=e5
  have e6:vs 6 = .int .i64 0:=e6
  have e9:vs 9 = .int .i64 0:=e9
  simp only [e0,e1,e2,e3,e4,e5,e6,hg,e9]
  clear e0 e1 e2 e3 e4 e5 e6 hg e9
  have hq7:HV (xvH (some ⟨b,0,none⟩) L) w1 xl2 [(gn,uO u50),(g5,(.cells #[.int .i64 8,.int .i64 7,.int .i64 1,.int .i64 0,.int .u64 100,.int .u64 0,.int .u64 0,.int .u64 0,.int .u64 1000000000000000000,.int .u64 0,.int .u64 0,.int .u64 0] 26)),(g1,(.cells #[.int .u64 500000000000000000,.int .u64 0,.int .u64 0,.int .u64 0] 24))] wn:=hR.2
  have HQ7:=Lib.hid hq7
  clear hR hq7 H0 HONE HCUT HQ6
  have hc:∀ (o:Nat) v,(#[.int .i64 8,.int .i64 7,.int .i64 1,.int .i64 0,.int .u64 100,.int .u64 0,.int .u64 0,.int .u64 0,.int .u64 1000000000000000000,.int .u64 0,.int .u64 0,.int .u64 0]:Array Value)[o]? = some v→wn.cell? ⟨g5,o,none⟩=some v:=fun o v hv=>by rw [cell_of_row _ _ _ _ _ _ (HQ7.out.row (g:=g5) (o:=(.cells #[.int .i64 8,.int .i64 7,.int .i64 1,.int .i64 0,.int .u64 100,.int .u64 0,.int .u64 0,.int .u64 0,.int .u64 1000000000000000000,.int .u64 0,.int .u64 0,.int .u64 0] 26)) (by simp))]; exact hv
  have k0:=hc 0 _ rfl
  have k1:=hc 1 _ rfl
  have k2:=hc 2 _ rfl
  have k3:=hc 3 _ rfl
  have k4:=hc 4 _ rfl
  have k5:=hc 5 _ rfl
  have k6:=hc 6 _ rfl
  have k7:=hc 7 _ rfl
  have k8:=hc 8 _ rfl
  have k9:=hc 9 _ rfl
  have k10:=hc 10 _ rfl
  have k11:=hc 11 _ rfl
  clear hc
  obtain ⟨m0,m1,m2,m3,_⟩:=row4 (x:=uHalf) (HQ7.out.row (g:=g1) (o:=(.cells #[.int .u64 500000000000000000,.int .u64 0,.int .u64 0,.int .u64 0] 24)) (by simp))
  have HP7:=Lib.hid (HPA.out _ _ _ _ _ _ HQ7.out)
  clear HQ7 HPA
  go_wp2_with fail
  refine Calls.mono HP7.out ?_
  rintro e w8 ⟨rfl,hq8⟩
  obtain ⟨n0,n1,n2,n3,_⟩:=row4 (x:=u50) (hq8.row (g:=gn) (o:=uO u50) (by simp))
  have HL8:=Lib.hid (HLE.out _ _ _ _ _ hq8)
  clear k0 k1 k2 k3 k4 k5 k6 k7 k8 k9 k10 k11 m0 m1 m2 m3 hq8 HP7 HLE
  go_wp2_with fail
  refine Calls.mono HL8.out ?_
  rintro e w9 ⟨rfl,hq9⟩
  have HB:=Lib.hid (HBO.out _ _ _ hq9)
  clear hq9 HL8 HBO
  go_wp2_with fail
  go_ret
  exact ⟨rfl,HB.out⟩
structure XAct where
 kd:Int
 id:Int
 dl:Int
 x:Ex
 m:W4
 n:W4
def XAct.L (A:XAct):Array Value:=#[.int .i64 A.kd,.int .i64 A.id,.int .i64 A.dl,.int .i64 A.x.st,.int .i64 A.x.op,.int .i64 A.x.sg,.int .i64 A.x.bl,.int .u64 A.x.wo.1,.int .u64 A.x.wo.2.1,.int .u64 A.x.wo.2.2.1,.int .u64 A.x.wo.2.2.2,.int .u64 A.x.mx.1,.int .u64 A.x.mx.2.1,.int .u64 A.x.mx.2.2.1,.int .u64 A.x.mx.2.2.2,.int .u64 A.m.1,.int .u64 A.m.2.1,.int .u64 A.m.2.2.1,.int .u64 A.m.2.2.2,.int .u64 A.n.1,.int .u64 A.n.2.1,.int .u64 A.n.2.2.1,.int .u64 A.n.2.2.2]
structure XAct.Ok (A:XAct):Prop where
 id:I63 A.id
 dl:I63 A.dl
 x:A.x.Ok
 m:A.m.Ok
 n:A.n.Ok
theorem bsr_inv {p:Nat→Bool} {n:Nat} (hp:∀ i j,i≤j→j < n→p j=true→p i=true):∀ k lo hi,hi - lo≤k→lo≤hi→hi≤n→(∀ i,i < lo→p i=true)→(∀ i,hi≤i→i < n→p i=false)→(∀ i,i < bsr p k lo hi→p i=true)∧(∀ i,bsr p k lo hi≤i→i < n→p i=false)∧bsr p k lo hi≤n
 | 0,lo,hi,h1,h2,h3,h4,h5=>by
  have e:hi=lo:=by omega
  subst e
  exact ⟨h4,h5,h3⟩
 | k+1,lo,hi,h1,h2,h3,h4,h5=>by
  show (∀ i,i < (if hi≤lo then lo else if p (lo+(hi - lo) / 2) then bsr p k (lo+(hi - lo) / 2+1) hi else bsr p k lo (lo+(hi - lo) / 2))→p i=true)∧(∀ i,(if hi≤lo then lo else if p (lo+(hi - lo) / 2) then bsr p k (lo+(hi - lo) / 2+1) hi else bsr p k lo (lo+(hi - lo) / 2))≤i→i < n→p i=false)∧(if hi≤lo then lo else if p (lo+(hi - lo) / 2) then bsr p k (lo+(hi - lo) / 2+1) hi else bsr p k lo (lo+(hi - lo) / 2))≤n
  by_cases h0:hi≤lo
  ·have e:hi=lo:=by omega
   subst e
   rw [if_pos h0]
   exact ⟨h4,h5,h3⟩
  ·rw [if_neg h0]
   generalize hm:lo+(hi - lo) / 2=m
   have hm1:lo≤m:=by omega
   have hm2:m < hi:=by omega
   cases hpm:p m with
   | true =>
    rw [if_pos rfl]
    exact bsr_inv hp k (m+1) hi (by omega) (by omega) h3 (fun i hi2=>hp i m (by omega) (by omega) hpm) h5
   | false =>
    rw [if_neg (by decide)]
    refine bsr_inv hp k lo m (by omega) hm1 (by omega) h4 (fun i hi1 hi2 => ?_)
    cases hpi:p i with
    | false=>rfl
    | true=>rw [hp m i hi1 hi2 hpi] at hpm; cases hpm
section
variable {s m:St} (h:s.ents=m.ents)
include h
end
theorem Hand.cutX_fit {h:Hand} {s:St} {f:Nat} (hf:s.Fit f) (sl:W4) (o t b d:Int) (tq fr:W4):(h.cutX s sl o t b d tq fr).Fit (f+16):=by
 unfold Hand.cutX
 split
 ·exact hf.mono (by omega)
 ·unfold Hand.subSt
  split
  ·exact (Hand.st_fit (hf.mono (by omega)) (hf.setAmt _ _)).mono (by omega)
  ·exact hf.mono (by omega)
theorem XG.sub {k:Nat} {h:Hand} {s:St} (hg:XG k s) (t:Int) (y:W4):XG k (h.subSt s (keyL 19 [t]) y):=by
 unfold Hand.subSt
 split
 ·exact hg.st (hg.put (.inr (.inr rfl)) (by simp) _)
 ·exact hg
theorem XG.cut {k:Nat} {h:Hand} {s:St} (hg:XG k s) (sl:W4) (o t b d:Int) (tq fr:W4):XG k (h.cutX s sl o t b d tq fr):=by
 unfold Hand.cutX
 split
 ·exact hg
 ·exact hg.sub t _
theorem XG.done {k:Nat} {h:Hand} {s:St} (hg:XG k s) (id:Int) (n:W4):XG k (h.dnSt s id n):=by
 unfold Hand.dnSt
 split
 ·have h1:XG k (h.dn1 s id n):=hg.sub _ _
  have h3:XG k (h.dnS s id n 3):=((h1.del (.inl rfl) id).del (.inr (.inl rfl)) id).del (.inr (.inr rfl)) id
  unfold Hand.dn5
  have h4:=h3.op' (ex_i63 s id).1
  exact h3.setInt20 (by omega)
 ·exact hg
theorem XG.push {k:Nat} {s:St} (hg:XG k s) (hk:k < 1000000000000) {o t:Int} (ho:0≤o) (ht:0≤t) (ho':I63 o) (ht':I63 t) {b:Nat} (hb:b≤1099511627776) {a:W4} (ha:a.Ok):XG (k+1) (hpuSt s 16 [o,t] b a):=by
 have hnn:=nn2 ho ht
 have hin2:∀ {p q:Int},0≤p→0≤q→I63 p→I63 q→∀ x∈[p,q],0≤x∧I63 x:=fun a b c d x hx=>by
  simp only [List.mem_cons,List.not_mem_nil,or_false] at hx
  rcases hx with rfl | rfl <;> exact ⟨by assumption,by assumption⟩
 have hin3:∀ {p q:Int} {i:Nat},0≤p→0≤q→I63 p→I63 q→i < 9223372036854775808→∀ x∈[p,q] ++ [(i:Int)],0≤x∧I63 x:=fun a b c d e x hx=>by
  rcases List.mem_append.1 hx with h | h
  ·exact hin2 a b c d x h
  ·rw [List.mem_singleton] at h; subst h; exact ⟨by omega,by unfold I63; omega⟩
 have hne23:∀ {p q p' q':Int} {i:Nat},0≤p→0≤q→I63 p→I63 q→0≤p'→0≤q'→I63 p'→I63 q'→i < 9223372036854775808→keyL 16 ([p,q] ++ [(i:Int)])≠keyL 16 [p',q']:=fun a b c d a' b' c' d' e =>
  keyI_ne (by decide) (by decide) (hin3 a b c d e) (hin2 a' b' c' d') (by simp)
 have hpt:hpt (ptB b a)=(b,a):=hpt_ptB (by omega) ha
 have hset:∀ (s0:St) (i:Nat),i < 9223372036854775808→XB s0→XB (s0.set (keyL 16 ([o,t] ++ [(i:Int)])) (ptB b a))∧Same [16] s0 (s0.set (keyL 16 ([o,t] ++ [(i:Int)])) (ptB b a))∧(∀ p q:Int,0≤p→0≤q→I63 p→I63 q→(s0.set (keyL 16 ([o,t] ++ [(i:Int)])) (ptB b a)).hlen 16 [p,q]=s0.hlen 16 [p,q]) ∧
   (∀ p q:Int,0≤p→0≤q→I63 p→I63 q→∀ j:Nat,j < 9223372036854775808→(s0.set (keyL 16 ([o,t] ++ [(i:Int)])) (ptB b a)).hpI 16 [p,q] j=if p=o∧q=t∧j=i then (b,a) else s0.hpI 16 [p,q] j):=fun s0 i hi h0=>by
  have hk0:keyL 16 ([o,t] ++ [(i:Int)])≠emptyB:=kpos 16 hnn (by omega)
  rw [set_put _ hk0 (ptB_some _ _)]
  refine ⟨h0.put (key25 16 (by simp)) _,h0.same (by decide) _ _,fun p q hp hq hp' hq' => ?_,fun p q hp hq hp' hq' j hj => ?_⟩
  ·unfold St.hlen St.int
   rw [val_put s0 h0.srt _ _ _ hk0,if_neg (hne23 ho ht ho' ht' hp hq hp' hq' hi)]
  ·unfold St.hpI
   rw [val_put s0 h0.srt _ _ _ hk0]
   by_cases e:p=o∧q=t∧j=i
   ·obtain ⟨rfl,rfl,rfl⟩:=e
    rw [if_pos rfl,if_pos ⟨rfl,rfl,rfl⟩,hpt]
   ·rw [if_neg e,if_neg]
    intro e2
    have:=keyI_inj (by decide) (by decide) (hin3 ho ht ho' ht' hi) (hin3 hp hq hp' hq' hj) e2
    simp only [List.cons_append,List.nil_append,List.cons.injEq,and_true] at this
    exact e ⟨this.1.symm,this.2.1.symm,by omega⟩
 have hlen0:=hg.hlen o t ho ht ho' ht'
 have hnew:(0 < s.hlen 16 [o,t]→(s.hpL 16 [o,t]).1≤b)→XG (k+1) (s.hnew 16 [o,t] b a):=fun hlast=>by
  unfold St.hnew
  have hbI:XB (s.setInt (keyL 16 [o,t]) (((s.hlen 16 [o,t]:Nat):Int)+1)):=hg.b.put (key25 16 (by simp)) _
  have hSI:Same [16] s (s.setInt (keyL 16 [o,t]) (((s.hlen 16 [o,t]:Nat):Int)+1)):=hg.b.same (by decide) _ _
  have hLI:∀ p q:Int,0≤p→0≤q→I63 p→I63 q→(s.setInt (keyL 16 [o,t]) (((s.hlen 16 [o,t]:Nat):Int)+1)).hlen 16 [p,q]=if p=o∧q=t then s.hlen 16 [o,t]+1 else s.hlen 16 [p,q]:=fun p q hp hq hp' hq'=>by
   unfold St.hlen
   rw [int_setInt s hg.b.srt _ _ (keyL_some 16 hnn) _ (by unfold St.hlen at hlen0; omega)]
   by_cases e:p=o∧q=t
   ·obtain ⟨rfl,rfl⟩:=e
    rw [if_pos rfl,if_pos ⟨rfl,rfl⟩]; omega
   ·rw [if_neg e,if_neg]
    intro e2
    have:=keyI_inj (by decide) (by decide) (hin2 ho ht ho' ht') (hin2 hp hq hp' hq') e2
    simp only [List.cons.injEq,and_true] at this
    exact e ⟨this.1.symm,this.2.symm⟩
  have hPI:∀ p q:Int,0≤p→0≤q→I63 p→I63 q→∀ j:Nat,j < 9223372036854775808→(s.setInt (keyL 16 [o,t]) (((s.hlen 16 [o,t]:Nat):Int)+1)).hpI 16 [p,q] j=s.hpI 16 [p,q] j:=fun p q hp hq hp' hq' j hj=>by
   unfold St.hpI St.setInt
   rw [val_put s hg.b.srt _ _ _ (keyL_some 16 hnn),if_neg (hne23 hp hq hp' hq' ho ht ho' ht' hj).symm]
  obtain ⟨c1,c2,c3,c4⟩:=hset _ (s.hlen 16 [o,t]) (by omega) hbI
  have hS:=hSI.trans c2
  generalize (s.setInt (keyL 16 [o,t]) (((s.hlen 16 [o,t]:Nat):Int)+1)).set (keyL 16 ([o,t] ++ [((s.hlen 16 [o,t]:Nat):Int)])) (ptB b a)=s2 at *
  generalize s.setInt (keyL 16 [o,t]) (((s.hlen 16 [o,t]:Nat):Int)+1)=s1 at *
  have hL2:∀ p q:Int,0≤p→0≤q→I63 p→I63 q→s2.hlen 16 [p,q]=if p=o∧q=t then s.hlen 16 [o,t]+1 else s.hlen 16 [p,q]:=fun p q hp hq hp' hq'=>by rw [c3 p q hp hq hp' hq',hLI p q hp hq hp' hq']
  have hP2:∀ p q:Int,0≤p→0≤q→I63 p→I63 q→∀ j:Nat,j < 9223372036854775808→s2.hpI 16 [p,q] j=if p=o∧q=t∧j=s.hlen 16 [o,t] then (b,a) else s.hpI 16 [p,q] j:=fun p q hp hq hp' hq' j hj=>by rw [c4 p q hp hq hp' hq' j hj,hPI p q hp hq hp' hq' j hj]
  refine ⟨c1,fun id v h0 h1 hv => ?_,fun p q hp hq hp' hq' i j hij hj => ?_,fun p q hp hq hp' hq' => ?_,?_,fun n hn h1 => ?_⟩
  ·rw [hS 15 [id] (by decide) (by simp) (nn1 h0)] at hv
   exact hg.rows id v h0 h1 hv
  ·rw [hL2 p q hp hq hp' hq'] at hj
   by_cases e:p=o∧q=t
   ·obtain ⟨rfl,rfl⟩:=e
    rw [if_pos ⟨rfl,rfl⟩] at hj
    rw [hP2 p q hp hq hp' hq' i (by omega),hP2 p q hp hq hp' hq' j (by omega)]
    by_cases ei:i=s.hlen 16 [p,q]
    ·rw [if_pos ⟨rfl,rfl,ei⟩,if_pos ⟨rfl,rfl,by omega⟩]; exact Nat.le_refl _
    ·rw [if_neg (fun h=>ei h.2.2)]
     by_cases ej:j=s.hlen 16 [p,q]
     ·rw [if_pos ⟨rfl,rfl,ej⟩]
      have hpos:0 < s.hlen 16 [p,q]:=by omega
      have h1:=hg.mono p q hp hq hp' hq' i (s.hlen 16 [p,q] - 1) (by omega) (by omega)
      have h2:=hlast hpos
      have e3:s.hpL 16 [p,q]=s.hpI 16 [p,q] ((s.hlen 16 [p,q] - 1:Nat):Int):=by
       unfold St.hpL St.hpI
       rw [show ((s.hlen 16 [p,q]:Nat):Int) - 1=((s.hlen 16 [p,q] - 1:Nat):Int) by omega]
      rw [e3] at h2
      exact Nat.le_trans h1 h2
     ·rw [if_neg (fun h=>ej h.2.2)]
      exact hg.mono p q hp hq hp' hq' i j hij (by omega)
   ·rw [if_neg e] at hj
    have hl:=hg.hlen p q hp hq hp' hq'
    rw [hP2 p q hp hq hp' hq' i (by omega),hP2 p q hp hq hp' hq' j (by omega),if_neg (fun h=>e ⟨h.1,h.2.1⟩),if_neg (fun h=>e ⟨h.1,h.2.1⟩)]
    exact hg.mono p q hp hq hp' hq' i j hij hj
  ·rw [hL2 p q hp hq hp' hq']
   split
   ·omega
   ·exact Nat.le_trans (hg.hlen p q hp hq hp' hq') (Nat.le_succ _)
  ·rw [hS.int (by decide) (by simp) (by simp)]; exact Nat.le_trans hg.cnt (Nat.le_succ _)
  ·rw [hS.int (by decide) (by simp) (nn1 hn)]; exact hg.op n hn h1
 unfold hpuSt
 split
 ·rename_i h0
  split
  ·exact hg.more (Nat.le_succ _)
  ·rename_i hlt
   split
   ·rename_i hbe
    rw [show ((s.hlen 16 [o,t]:Nat):Int) - 1=((s.hlen 16 [o,t] - 1:Nat):Int) by omega]
    obtain ⟨c1,c2,c3,c4⟩:=hset s (s.hlen 16 [o,t] - 1) (by omega) hg.b
    generalize s.set (keyL 16 ([o,t] ++ [((s.hlen 16 [o,t] - 1:Nat):Int)])) (ptB b a)=s2 at *
    have e3:s.hpL 16 [o,t]=s.hpI 16 [o,t] ((s.hlen 16 [o,t] - 1:Nat):Int):=by
     unfold St.hpL St.hpI
     rw [show ((s.hlen 16 [o,t]:Nat):Int) - 1=((s.hlen 16 [o,t] - 1:Nat):Int) by omega]
    have hB:∀ p q:Int,0≤p→0≤q→I63 p→I63 q→∀ j:Nat,j < 9223372036854775808→(s2.hpI 16 [p,q] j).1=(s.hpI 16 [p,q] j).1:=fun p q hp hq hp' hq' j hj=>by
     rw [c4 p q hp hq hp' hq' j hj]
     split
     ·rename_i e
      obtain ⟨rfl,rfl,rfl⟩:=e
      rw [← e3]; exact hbe
     ·rfl
    refine ⟨c1,fun id v h1 h2 hv => ?_,fun p q hp hq hp' hq' i j hij hj => ?_,fun p q hp hq hp' hq' => ?_,?_,fun n hn h1 => ?_⟩
    ·rw [c2 15 [id] (by decide) (by simp) (nn1 h1)] at hv
     exact hg.rows id v h1 h2 hv
    ·rw [c3 p q hp hq hp' hq'] at hj
     have hl:=hg.hlen p q hp hq hp' hq'
     rw [hB p q hp hq hp' hq' i (by omega),hB p q hp hq hp' hq' j (by omega)]
     exact hg.mono p q hp hq hp' hq' i j hij hj
    ·rw [c3 p q hp hq hp' hq']; exact Nat.le_trans (hg.hlen p q hp hq hp' hq') (Nat.le_succ _)
    ·rw [c2.int (by decide) (by simp) (by simp)]; exact Nat.le_trans hg.cnt (Nat.le_succ _)
    ·rw [c2.int (by decide) (by simp) (nn1 hn)]; exact hg.op n hn h1
   ·split
    ·exact hg.more (Nat.le_succ _)
    ·exact hnew fun _=>Nat.le_of_not_lt hlt
 ·rename_i h0
  exact hnew fun h=>absurd h h0
theorem XG.note {k:Nat} {s:St} (hg:XG k s) (hk:k < 1000000000000) {x:Ex} (hx:x.Ok) (hgd:x.good=true):XG (k+1) (noteSt s x):=by
 obtain ⟨_,g2,g3,g4,g5,_⟩:=Ex.good_at hgd
 unfold noteSt
 split
 ·exact hg.more (Nat.le_succ _)
 ·split
  ·exact hg.push hk g3 (Int.le_trans (by decide) g2) hx.op hx.sg (by omega) (uAdd_ok _ _)
  ·exact hg.more (Nat.le_succ _)
theorem XG.add {k:Nat} {h:Hand} {s:St} (hg:XG k s) (hk:k < 1000000000) {x:Ex} (hx:x.Ok):XG (k+2) (h.xadSt s x):=by
 unfold Hand.xadSt
 split
 ·rename_i hE
  have hgd:x.good=true:=by
   cases hg0:x.good with
   | true=>rfl
   | false=>rw [(xad_bad (h:=h) (s:=s) hg0).1] at hE; cases hE
  obtain ⟨g1,g2,g3,g4,g5,_⟩:=Ex.good_at hgd
  have hn16:¬ 16≤s.int (keyL 20 [x.st]):=fun hn=>by rw [(xad_full (h:=h) (s:=s) hgd hn).1] at hE; cases hE
  have h1:=hg.note (by omega) hx hgd
  have h2:XG (k+1) (h.ad2 s x):=by
   unfold Hand.ad2 Hand.addSt
   split
   ·exact h1.st (h1.put (.inr (.inr rfl)) (by simp) _)
   ·exact h1
  have h3:XG (k+2) (h.ad3 s x):=h2.setInt14 (by omega)
  have h4:XG (k+2) (h.ad4 s x):=h3.put15 _ (by unfold Hand.adN; omega) (by
   rw [rowOf_row _ (fun n hn=>by
    simp only [List.mem_cons,List.not_mem_nil,or_false] at hn
    have:=hx.st; have:=hx.op; have:=hx.sg; have:=hx.bl
    unfold I63 at *
    rcases hn with rfl | rfl | rfl | rfl <;> omega)]
   simp)
  have h5:XG (k+2) (h.ad5 s x):=h4.put (.inl rfl) (by simp) _
  have h6:XG (k+2) (h.ad6 s x):=h5.put (.inr (.inl rfl)) (by simp) _
  have hn6:(h.ad6 s x).int (keyL 20 [x.st])=s.int (keyL 20 [x.st]):=by
   have t1:Same [16] s (noteSt s x):=by
    unfold noteSt
    split
    ·exact Same.refl _ _
    ·split
     ·unfold hpuSt
      have hset:∀ i:Nat,Same [16] s (s.set (keyL 16 ([x.op,x.sg] ++ [(i:Int)])) (ptB x.bl.toNat (uAddS (s.hlast 16 [x.op,x.sg]) (sdW x.wo x.mx)))):=fun i=>by
       rw [set_put _ (kpos 16 (nn2 g3 (Int.le_trans (by decide) g2)) (by omega)) (ptB_some _ _)]
       exact hg.b.same (by decide) _ _
      have hnw:∀ a,Same [16] s (s.hnew 16 [x.op,x.sg] x.bl.toNat a):=fun a=>by
       unfold St.hnew
       have hb1:XB (s.setInt (keyL 16 [x.op,x.sg]) (((s.hlen 16 [x.op,x.sg]:Nat):Int)+1)):=hg.b.put (key25 16 (by simp)) _
       refine Same.trans (s1:=s.setInt (keyL 16 [x.op,x.sg]) (((s.hlen 16 [x.op,x.sg]:Nat):Int)+1)) (hg.b.same (n:=16) (by decide) [x.op,x.sg] _) ?_
       rw [set_put _ (kpos 16 (nn2 g3 (Int.le_trans (by decide) g2)) (by omega)) (ptB_some _ _)]
       exact hb1.same (by decide) _ _
      split
      ·rename_i h0
       split
       ·exact Same.refl _ _
       ·split
        ·have:=hset (s.hlen 16 [x.op,x.sg] - 1)
         rwa [show ((s.hlen 16 [x.op,x.sg] - 1:Nat):Int)=((s.hlen 16 [x.op,x.sg]:Nat):Int) - 1 by omega] at this
        ·split
         ·exact Same.refl _ _
         ·exact hnw _
      ·exact hnw _
     ·exact Same.refl _ _
   have t2:Same [19] (noteSt s x) (h.ad2 s x):=by
    unfold Hand.ad2 Hand.addSt
    split
    ·exact Same.st (h1.b.same (by decide) _ _)
    ·exact Same.refl _ _
   have t3:Same [14] (h.ad2 s x) (h.ad3 s x):=h2.b.same (by decide) _ _
   have t4:Same [15] (h.ad3 s x) (h.ad4 s x):=h3.b.same (by decide) _ _
   have t5:Same [17] (h.ad4 s x) (h.ad5 s x):=h4.b.same (by decide) _ _
   have t6:Same [18] (h.ad5 s x) (h.ad6 s x):=h5.b.same (by decide) _ _
   have nn:=nn1 (Int.le_trans (by decide) g1)
   rw [t6.int (by decide) (by simp) nn,t5.int (by decide) (by simp) nn,t4.int (by decide) (by simp) nn,t3.int (by decide) (by simp) nn,t2.int (by decide) (by simp) nn,t1.int (by decide) (by simp) nn]
  unfold Hand.ad7
  exact h6.setInt20 (by rw [hn6]; omega)
 ·exact hg.more (by omega)
end Go.Proofs.YtnkilceibkkjlaaGreat
