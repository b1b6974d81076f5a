/- What is proved here: the reference's holdings: Put. Its conditions: sizes. the reference's holdings: Take. Its conditions: sizes. the reference's holdings: Cut. Its conditions: sizes. the reference's holdings: Shift. Its conditions: sizes. -/
import Derived.Test.YtpojljieakdgiaaGreatDRHoldA
import Derived.Test.YtpojljieakdgiaaGreatDHoldD
set_option maxRecDepth 100000
set_option maxHeartbeats 16000000
namespace Go.Proofs.YtpojljieakdgiaaGreat
open Go.RowKit
def rputE (s:St) (a o t:Int) (m x:W4):Int:=if putC a o t x then 2 else if m=(0,0,0,0) then 14 else if growB (s.dep a t) (s.fct a t) m x then moreE (s.prt o t) x else 6
def rputSt (s:St) (a o t:Int) (m x:W4):St:=if rputE s a o t m x=0 then H1.wr (H1.addSt s (keyL 12 [o,t]) x) a t (sumW (s.dep a t) x) (growW (s.dep a t) (s.fct a t) m x) else s
theorem rput_law (s:St) (a o t:Int) (m x:W4):(putC a o t x→rputE s a o t m x=2∧rputSt s a o t m x=s)∧(¬ putC a o t x→m=(0,0,0,0)→rputE s a o t m x=14∧rputSt s a o t m x=s) ∧
  (¬ putC a o t x→m≠(0,0,0,0)→growB (s.dep a t) (s.fct a t) m x=false→rputE s a o t m x=6∧rputSt s a o t m x=s) ∧
  (¬ putC a o t x→m≠(0,0,0,0)→growB (s.dep a t) (s.fct a t) m x=true→moreE (s.prt o t) x=6→rputE s a o t m x=6∧rputSt s a o t m x=s∧H1.addSt s (keyL 12 [o,t]) x=s) ∧
  (¬ putC a o t x→m≠(0,0,0,0)→growB (s.dep a t) (s.fct a t) m x=true→moreE (s.prt o t) x=0→rputE s a o t m x=0∧rputSt s a o t m x=H1.wr (H1.addSt s (keyL 12 [o,t]) x) a t (sumW (s.dep a t) x) (growW (s.dep a t) (s.fct a t) m x)):=by
 have fin:∀ n:Int,n≠0→rputE s a o t m x=n→rputE s a o t m x=n∧rputSt s a o t m x=s:=fun n hn he=>⟨he,by unfold rputSt; rw [he,if_neg hn]⟩
 refine ⟨fun h1=>fin 2 (by decide) ?_,fun h1 h2=>fin 14 (by decide) ?_,fun h1 h2 h3=>fin 6 (by decide) ?_,fun h1 h2 h3 h4 => ?_,fun h1 h2 h3 h4 => ?_⟩
 ·unfold rputE; rw [if_pos h1]
 ·unfold rputE; rw [if_neg h1,if_pos h2]
 ·unfold rputE; rw [if_neg h1,if_neg h2,h3]; rfl
 ·have he:rputE s a o t m x=6:=by unfold rputE; rw [if_neg h1,if_neg h2,if_pos h3,h4]
  obtain ⟨p1,p2⟩:=fin 6 (by decide) he
  refine ⟨p1,p2,?_⟩
  unfold Hand.addSt
  rw [if_neg (fun e=>by have:=h4.symm.trans e; exact absurd this (by decide))]
 ·have he:rputE s a o t m x=0:=by unfold rputE; rw [if_neg h1,if_neg h2,if_pos h3,h4]
  exact ⟨he,by unfold rputSt; rw [if_pos he]⟩
theorem rPut_c (w:World) (b:Nat) (L:List Nat) (s:St) (a o t:Int) (m x:W4) (hxo:x.Ok) (hq:RRep w b s L) (hc:putC a o t x) :
  Calls Tryz.prog 80 #[.pointer (some ⟨b,0,none⟩),.int .i64 a,.int .i64 o,.int .i64 t,uV m,uV x] w fun e w'=>e = .returned (.int .i64 2)∧ROn w b L s w':=by
 have hB:=((FV.start hq).alloc (uO m)).alloc (uO x)
 rw [World.size_alloc] at hB
 have HA:Hid (∀ rs W,FV b w L s rs W→Calls Tryz.prog 143 #[uV x] W fun e w'=>e = .returned (.bool (decide (uN x < M128)))∧FV b w L s rs w'):=fun rs W hW=>QV.reads hW fun _ _=>ramount_any x hxo W
 have HB:=Lib.hid hB
 have HC:=Lib.hid (put_cases hc)
 have HDn:=Lib.hid (FV.done hB)
 clear hc hq
 by_cases hx0:x=(0,0,0,0)
 ·subst hx0
  have hE:∀ w,(Op.equalIn 10000 28 (.agg #[.int .u64 0,.int .u64 0,.int .u64 0,.int .u64 0]) (.agg #[.int .u64 0,.int .u64 0,.int .u64 0,.int .u64 0])).run Tryz.prog w = .ok true w:=fun w=>eqU (0,0,0,0) (0,0,0,0) w
  clear hB HA HB HC
  go_enter Tryz.func80,Tryz.ntmps80
  go_wp2_with fail
  go_ret
  exact ⟨rfl,HDn.out⟩
 ·have HX0:=Lib.hid hx0
  have hE:∀ w,(Op.equalIn 10000 28 (uV x) (.agg #[.int .u64 0,.int .u64 0,.int .u64 0,.int .u64 0])).run Tryz.prog w = .ok false w:=fun w=>by
   have:=eqU x (0,0,0,0) w
   rwa [decide_eq_false hx0] at this
  clear hB hx0 HDn
  generalize decide (uN x < M128)=bx at *
  go_enter Tryz.func80,Tryz.ntmps80
  go_wp2_with fail
  refine Calls.mono (HA.out _ _ HB.out) ?_
  rintro e w3 ⟨rfl,hB3⟩
  have HD:=Lib.hid (FV.done hB3)
  clear hB3 HB HA hE
  rcases HC.out with h1 | ⟨_,h1⟩ | ⟨_,h1,h2⟩
  ·exact absurd h1 HX0.out
  ·subst h1
   clear HC HX0
   go_wp2_with fail
   go_ret
   exact ⟨rfl,HD.out⟩
  ·subst h1
   clear HC HX0
   rcases h2 with h2 | ⟨h2,h3 | ⟨h3,h4⟩⟩
   ·have d1:decide (a < 1)=true:=decide_eq_true h2
    go_wp2_with fail
    go_ret
    exact ⟨rfl,HD.out⟩
   ·have d1:decide (a < 1)=false:=decide_eq_false (Int.not_lt.2 h2)
    have d2:decide (t < 1)=true:=decide_eq_true h3
    go_wp2_with fail
    go_ret
    exact ⟨rfl,HD.out⟩
   ·have d1:decide (a < 1)=false:=decide_eq_false (Int.not_lt.2 h2)
    have d2:decide (t < 1)=false:=decide_eq_false (Int.not_lt.2 h3)
    have d3:decide (o < 0)=true:=decide_eq_true h4
    go_wp2_with fail
    go_ret
    exact ⟨rfl,HD.out⟩
theorem rPut_n (w:World) (b:Nat) (L:List Nat) (s:St) (f0:Nat) (a o t:Int) (m x:W4) (ha:I63 a) (ho:I63 o) (ht:I63 t) (hmo:m.Ok) (hxo:x.Ok) (hq:RRep w b s L) (hf:s.Fit f0) (hm:f0 < 1000000000) (hc:¬ putC a o t x) :
  Calls Tryz.prog 80 #[.pointer (some ⟨b,0,none⟩),.int .i64 a,.int .i64 o,.int .i64 t,uV m,uV x] w fun e w'=>e = .returned (.int .i64 (rputE s a o t m x))∧ROn w b L (rputSt s a o t m x) w':=by
 have hB:=((FV.start hq).alloc (uO m)).alloc (uO x)
 rw [World.size_alloc] at hB
 have HA:Hid (∀ rs W,FV b w L s rs W→Calls Tryz.prog 143 #[uV x] W fun e w'=>e = .returned (.bool (decide (uN x < M128)))∧FV b w L s rs w'):=fun rs W hW=>QV.reads hW fun _ _=>ramount_any x hxo W
 have HDp:Hid (∀ rs W,FV b w L s rs W→Calls Tryz.prog 33 #[.pointer (some ⟨b,0,none⟩),.int .i64 a,.int .i64 t] W fun e w'=>e = .returned (uV (s.dep a t))∧FV b w L s rs w'):=fun rs W hW=>QV.reads hW fun L' h1=>rdep_q W b s L' f0 a t ha ht h1 hf (by omega)
 have HFc:Hid (∀ rs W,FV b w L s rs W→Calls Tryz.prog 34 #[.pointer (some ⟨b,0,none⟩),.int .i64 a,.int .i64 t] W fun e w'=>e = .returned (uV (s.fct a t))∧Below W.heap.size W w'):=fun rs W hW=>by
  obtain ⟨L',h1,_⟩:=hW.on
  exact rfct_q W b s L' f0 a t ha ht h1 hf (by omega)
 have HG:Hid (∀ W,Calls Tryz.prog 144 #[uV (s.dep a t),uV (s.fct a t),uV m,uV x] W fun e w'=>e = .returned (.tuple #[uV (growW (s.dep a t) (s.fct a t) m x),.bool (growB (s.dep a t) (s.fct a t) m x)])∧Below W.heap.size W w'):=rfgrow_any _ _ m x (amt_ok _ _) (fct_ok _ _ _) hmo hxo
 have hf1:(H1.addSt s (keyL 12 [o,t]) x).Fit (f0+2):=by
  unfold Hand.addSt; split
  ·exact Hand.st_fit (hf.mono (by omega)) (hf.setAmt _ _)
  ·exact hf.mono (by omega)
 have HD:Hid (∀ rs W,FV b w L (H1.addSt s (keyL 12 [o,t]) x) rs W→Calls Tryz.prog 21 #[uV (s.dep a t),uV x] W fun e w'=>e = .returned (.tuple #[uV (sumW (s.dep a t) x),.bool (sumB (s.dep a t) x)])∧FV b w L (H1.addSt s (keyL 12 [o,t]) x) rs w'):=fun rs W hW=>QV.reads hW fun _ _=>radd_u _ x (amt_ok _ _) hxo W
 have HP:Hid (∀ W,Calls Tryz.prog 91 #[.int .i64 o,.int .i64 t] W fun e w'=>e = .returned (.string (keyL 12 [o,t]))∧Below W.heap.size W w'):=rpart_any o t ho ht
 have HS:Hid (∀ rs W,FV b w L s rs W→Calls Tryz.prog 145 #[.pointer (some ⟨b,0,none⟩),.string (keyL 12 [o,t]),uV x] W fun e W'=>e = .returned (.int .i64 (moreE (s.prt o t) x))∧FV b w L (H1.addSt s (keyL 12 [o,t]) x) rs W'):=fun rs W hW=>QV.call hW fun L' h1=>rcAdd_q W b L' s f0 _ x hxo h1 hf (by omega)
 have HWR:Hid (∀ rs W,FV b w L (H1.addSt s (keyL 12 [o,t]) x) rs W→Calls Tryz.prog 146 #[.pointer (some ⟨b,0,none⟩),.int .i64 a,.int .i64 t,uV (sumW (s.dep a t) x),uV (growW (s.dep a t) (s.fct a t) m x)] W fun e W'=>e = .returned (.tuple #[])∧FV b w L (H1.wr (H1.addSt s (keyL 12 [o,t]) x) a t (sumW (s.dep a t) x) (growW (s.dep a t) (s.fct a t) m x)) rs W'):=fun rs W hW=>QV.call hW fun L' h1=>rset_q W b L' _ (f0+2) a t _ _ ha ht h1 hf1 (by omega)
 have hLaw:=(rput_law s a o t m x).2
 have HL:=Lib.hid (And.intro (hLaw.1 hc) (And.intro (hLaw.2.1 hc) (And.intro (hLaw.2.2.1 hc) (hLaw.2.2.2 hc))))
 have HMC:=Lib.hid (more_cases (s.prt o t) x)
 have HN:=putC_not hc
 have HB:=Lib.hid hB
 obtain ⟨hx0,hb1,hb2,hb3,hb4⟩:=HN
 rw [hb1] at HA
 have hE:∀ w,(Op.equalIn 10000 28 (uV x) (.agg #[.int .u64 0,.int .u64 0,.int .u64 0,.int .u64 0])).run Tryz.prog w = .ok false w:=fun w=>by
  have:=eqU x (0,0,0,0) w
  rwa [decide_eq_false hx0] at this
 clear hLaw
 generalize H1.wr (H1.addSt s (keyL 12 [o,t]) x) a t (sumW (s.dep a t) x) (growW (s.dep a t) (s.fct a t) m x)=s2 at *
 generalize H1.addSt s (keyL 12 [o,t]) x=s1 at *
 generalize rputSt s a o t m x=sx at *
 generalize rputE s a o t m x=pe at *
 generalize moreE (s.prt o t) x=le at *
 generalize growB (s.dep a t) (s.fct a t) m x=gb at *
 generalize growW (s.dep a t) (s.fct a t) m x=gw at *
 generalize sumB (s.dep a t) x=sb at *
 generalize sumW (s.dep a t) x=sw at *
 generalize s.dep a t=d at *
 generalize s.fct a t=fc at *
 generalize keyL 12 [o,t]=kk at *
 clear hB hq hf hf1 hc hx0 hb1
 go_enter Tryz.func80,Tryz.ntmps80
 go_wp2_with fail
 refine Calls.mono (HA.out _ _ HB.out) ?_
 rintro e w3 ⟨rfl,hB3⟩
 clear HA HB
 obtain ⟨m0,m1,m2,m3,_⟩:=row4 (hB3.u4 (g:=w.heap.size) (x:=m) (by simp))
 have HB3:=Lib.hid hB3
 by_cases hm0:m=(0,0,0,0)
 ·obtain ⟨h1,h2⟩:=HL.out.1 hm0
  subst h1 h2
  have hE2:∀ w,(Op.equalIn 10000 28 (uV m) (.agg #[.int .u64 0,.int .u64 0,.int .u64 0,.int .u64 0])).run Tryz.prog w = .ok true w:=fun w=>by
   have:=eqU m (0,0,0,0) w
   rwa [decide_eq_true hm0] at this
  have HD2:=Lib.hid (FV.done hB3)
  clear hB3 hm0 HDp HFc HG HD HP HWR HS HL HMC HB3
  go_wp2_with fail
  go_ret
  exact ⟨rfl,HD2.out⟩
 ·have HMm:=Lib.hid hm0
  have hE2:∀ w,(Op.equalIn 10000 28 (uV m) (.agg #[.int .u64 0,.int .u64 0,.int .u64 0,.int .u64 0])).run Tryz.prog w = .ok false w:=fun w=>by
   have:=eqU m (0,0,0,0) w
   rwa [decide_eq_false hm0] at this
  clear hB3 hm0
  go_wp2_with fail
  refine Calls.mono (HDp.out _ _ HB3.out) ?_
  rintro e w4 ⟨rfl,hB4⟩
  have hB5:=hB4.alloc (uO d)
  clear m0 m1 m2 m3 HB3 HDp hE hE2 hB4
  go_upto_region 6 with fail
  generalize w4.alloc (uO d)=w5 at *
  generalize w4.heap.size=g1 at *
  have HQ:=Lib.hid hB5
  have HF:Hid (∀ W,Below w5.heap.size w5 W→Calls Tryz.prog 34 #[.pointer (some ⟨b,0,none⟩),.int .i64 a,.int .i64 t] W fun e w'=>e = .returned (uV fc)∧Below W.heap.size W w'):=fun W hW=>HFc.out _ W (hB5.below hW)
  have HB0:=Lib.hid (bl_drew (Below.refl w5.heap.size w5))
  have hg1:g1 < w5.heap.size:=lt_of_at (hB5.row (g:=g1) (o:=uO d) (by simp))
  clear hB5 HFc
  refine wp_region_rely [[],[],[],[],[1,2,3],[],[],[0,1,2,3,4,5,6],[0,1,2,3,4,5,6,7],[0,1,2,3,4,5,6,7,8],[0,1,2,3,4,5,6,7,8],[],[0,1,2,3,4,5,6,7,8,9,11],[0,1,2,3,4,5,6,7,8,9,10,11,12]]
   [rgC (Below w5.heap.size w5),rgV 0 (uV d),rgV 1 (.pointer (some ⟨b,0,none⟩)),rgV 2 (.int .i64 a),rgV 3 (.int .i64 t),rgV 4 (uV fc),rgV 5 (uV m),rgV 6 (uV x),rgV 7 (.tuple #[uV gw,.bool gb]),rgV 8 (.tuple #[uV gw,.bool gb]),rgV 9 (uV gw),rgV 10 (.bool gb),rgP 11 (w5.heap.size),rgV 13 (.bool gb),rgS 11 12 (gw)] _ (by kernel_rfl) (by kernel_rfl) (by kernel_rfl)
   (fun vs=>by simp only [rgAct,rgPut,List.setIfInBounds_toArray,List.set_cons_zero,List.set_cons_succ]; exact rfl)
   ⟨fun _ _ _ hb h=>bl_then h hb,rgV_st,rgV_st,rgV_st,rgV_st,rgV_st,rgV_st,rgV_st,rgV_st,rgV_st,rgV_st,rgV_st,rgP_st,rgV_st,rgS_st,trivial⟩ ?_ ?_ ?_
  ·refine rgAll_yes rfl HB0.out ?_
   iterate 14 refine rgAll_no rfl ?_
   exact trivial
  ·refine ⟨?_,?_,?_,?_,?_,?_,?_,?_,?_,?_,?_,?_,?_,?_,trivial⟩
   ·rintro vs w1 ⟨hC,_⟩ K hK
    refine rg_loadU rfl rfl rfl ((HQ.out.below hC).u4 (x:=d) (by simp)) (hK _ _ (.inl (Below.refl _ _)) ?_)
    exact rgNew_one 1 rfl fun _=>rfl
   ·rintro vs w1 ⟨_,_⟩ K hK
    refine rg_move rfl (.inl rfl) rfl (hK _ _ (.inl (Below.refl _ _)) ?_)
    exact rgNew_one 2 rfl fun _=>rfl
   ·rintro vs w1 ⟨_,_⟩ K hK
    refine rg_move rfl (.inl rfl) rfl (hK _ _ (.inl (Below.refl _ _)) ?_)
    exact rgNew_one 3 rfl fun _=>rfl
   ·rintro vs w1 ⟨_,_⟩ K hK
    refine rg_move rfl (.inl rfl) rfl (hK _ _ (.inl (Below.refl _ _)) ?_)
    exact rgNew_one 4 rfl fun _=>rfl
   ·rintro vs w1 ⟨hC,e1,e2,e3,_⟩ K hK
    refine rg_fn rfl rfl rfl (by kernel_rfl) (show [vs 1,vs 2,vs 3]=_ from by rw [rg1 e1,rg1 e2,rg1 e3]) (Calls.mono (HF.out _ hC) ?_)
    rintro e w2 ⟨rfl,hb⟩
    refine ⟨_,rfl,hK _ _ (.inl hb) ?_⟩
    exact rgNew_one 5 rfl fun _=>rfl
   ·rintro vs w1 ⟨hC,_⟩ K hK
    refine rg_loadU rfl rfl rfl ((HQ.out.below hC).u4 (x:=m) (by simp)) (hK _ _ (.inl (Below.refl _ _)) ?_)
    exact rgNew_one 6 rfl fun _=>rfl
   ·rintro vs w1 ⟨hC,_⟩ K hK
    refine rg_loadU rfl rfl rfl ((HQ.out.below hC).u4 (x:=x) (by simp)) (hK _ _ (.inl (Below.refl _ _)) ?_)
    exact rgNew_one 7 rfl fun _=>rfl
   ·rintro vs w1 ⟨_,e0,_,_,_,e4,e5,e6,_⟩ K hK
    refine rg_fn rfl rfl rfl (by kernel_rfl) (show [vs 0,vs 4,vs 5,vs 6]=_ from by rw [rg1 e0,rg1 e4,rg1 e5,rg1 e6]) (Calls.mono (HG.out _) ?_)
    rintro e w2 ⟨rfl,hb⟩
    refine ⟨_,rfl,hK _ _ (.inl hb) ?_⟩
    exact rgNew_one 8 rfl fun _=>rfl
   ·rintro vs w1 ⟨_,_,_,_,_,_,_,_,e7,_⟩ K hK
    refine rg_move rfl (.inl rfl) (rg1 e7) (hK _ _ (.inl (Below.refl _ _)) ?_)
    exact rgNew_one 9 rfl fun _=>rfl
   ·rintro vs w1 ⟨_,_,_,_,_,_,_,_,_,e8,_⟩ K hK
    refine rg_extract rfl rfl (rg1 e8) rfl (hK _ _ (.inl (Below.refl _ _)) ?_)
    exact rgNew_one 10 rfl fun _=>rfl
   ·rintro vs w1 ⟨_,_,_,_,_,_,_,_,_,e8,_⟩ K hK
    refine rg_extract rfl rfl (rg1 e8) rfl (hK _ _ (.inl (Below.refl _ _)) ?_)
    exact rgNew_one 11 rfl fun _=>rfl
   ·rintro vs w1 ⟨hC,_⟩ K hK
    refine rg_allocU rfl rfl (hK _ _ (.inl (bl_alloc (Below.refl _ _) _)) ?_)
    iterate 12 refine rgNew_no rfl ?_
    refine rgNew_yes rfl (fun _=>⟨_,_,rfl,hC.size,heap_alloc_new _ _⟩) ?_
    iterate 2 refine rgNew_no rfl ?_
    exact trivial
   ·rintro vs w1 ⟨hC,_,_,_,_,_,_,_,_,_,e9,⟨_,_,e11,h11,g11⟩,_⟩ K hK
    refine rg_storeU rfl rfl (rg1 e11) (rg1 e9) g11 (hK _ _ (.inr ?_) ?_)
    ·refine rgStay_yes rfl (fun hC _=>bput hC h11) ?_
     iterate 11 refine rgStay_yes rfl (fun h _=>h) ?_
     refine rgStay_yes rfl (fun h _=>rgP_put h) ?_
     iterate 2 refine rgStay_no rfl ?_
     exact trivial
    ·iterate 14 refine rgNew_no rfl ?_
     refine rgNew_yes rfl (fun _=>⟨_,_,by show [vs 11,undef]=_; rw [rg1 e11],setRow_heap _ _ _ _ _ _ g11⟩) ?_
     exact trivial
   ·rintro vs w1 ⟨_,_,_,_,_,_,_,_,_,_,_,e10,_,_,_⟩ K hK
    refine rg_move rfl (.inr rfl) (rg1 e10) (hK _ _ (.inl (Below.refl _ _)) ?_)
    exact rgNew_one 13 rfl fun _=>rfl
  ·intro vs w1 hA
   obtain ⟨hC,e0,e1,e2,e3,e4,e5,e6,e7,e8,e9,e10,⟨p11,_,e11,h11,g11⟩,e13,s12,_⟩:=hA
   have e0:=rg1 e0
   have e1:=rg1 e1
   have e2:=rg1 e2
   have e3:=rg1 e3
   have e4:=rg1 e4
   have e5:=rg1 e5
   have e6:=rg1 e6
   have e7:=rg1 e7
   have e8:=rg1 e8
   have e9:=rg1 e9
   have e10:=rg1 e10
   have e11:=rg1 e11
   have e13:=rg1 e13
   have s12:=rgS_at s12 e11
   simp only [e0,e1,e2,e3,e4,e5,e6,e7,e8,e9,e10,e11,e13]
   have hB6:=HQ.out.add1 hC h11 s12
   have hne:p11≠g1:=by omega
   have HNE:=Lib.hid hne
   clear e0 e1 e2 e3 e4 e5 e6 e7 e8 e9 e10 e13 g11 s12 h11 hC HF HG HB0 HQ hne hg1
   cases gb with
   | false =>
    obtain ⟨h1,h2⟩:=HL.out.2.1 HMm.out (by trivial)
    subst h1 h2
    have HD2:=Lib.hid (FV.done hB6)
    clear hB6 HL HMC HD HP HWR HS
    go_wp2_with fail
    go_ret
    exact ⟨rfl,HD2.out⟩
   | true =>
    have HQ2:=Lib.hid hB6
    have HB1:=Lib.hid (bl_drew (Below.refl w1.heap.size w1))
    clear hB6
    go_wp2_with fail
    go_upto_region 9 with fail
    refine wp_region_rely_tail 5 [[],[],[],[1,2],[],[0,1,2,3,4],[0,1,2,3,4,5]]
     [rgC (Below w1.heap.size w1),rgV 0 (.pointer (some ⟨b,0,none⟩)),rgV 1 (.int .i64 o),rgV 2 (.int .i64 t),rgV 3 (.string kk),rgV 4 (uV x)] _ (by kernel_rfl) (by kernel_rfl) (by decide) (by kernel_rfl) (by kernel_rfl)
     (fun vs=>by simp only [rgAct,rgPut,List.setIfInBounds_toArray,List.set_cons_zero,List.set_cons_succ]; exact rfl)
     ⟨fun _ _ _ hb h=>bl_then h hb,rgV_st,rgV_st,rgV_st,rgV_st,rgV_st,trivial⟩ ?_ ?_ ?_
    ·refine rgAll_yes rfl HB1.out ?_
     iterate 5 refine rgAll_no rfl ?_
     exact trivial
    ·refine ⟨?_,?_,?_,?_,?_,trivial⟩
     ·rintro vs w1 ⟨_,_⟩ K hK
      refine rg_move rfl (.inl rfl) rfl (hK _ _ (.inl (Below.refl _ _)) ?_)
      exact rgNew_one 1 rfl fun _=>rfl
     ·rintro vs w1 ⟨_,_⟩ K hK
      refine rg_move rfl (.inl rfl) rfl (hK _ _ (.inl (Below.refl _ _)) ?_)
      exact rgNew_one 2 rfl fun _=>rfl
     ·rintro vs w1 ⟨_,_⟩ K hK
      refine rg_move rfl (.inl rfl) rfl (hK _ _ (.inl (Below.refl _ _)) ?_)
      exact rgNew_one 3 rfl fun _=>rfl
     ·rintro vs w1 ⟨_,e1,e2,_⟩ K hK
      refine rg_fn rfl rfl rfl (by kernel_rfl) (show [vs 1,vs 2]=_ from by rw [rg1 e1,rg1 e2]) (Calls.mono (HP.out _) ?_)
      rintro e w2 ⟨rfl,hb⟩
      refine ⟨_,rfl,hK _ _ (.inl hb) ?_⟩
      exact rgNew_one 4 rfl fun _=>rfl
     ·rintro vs w1 ⟨hC,_⟩ K hK
      refine rg_loadU rfl rfl rfl ((HQ2.out.below hC).u4 (x:=x) (by simp)) (hK _ _ (.inl (Below.refl _ _)) ?_)
      exact rgNew_one 5 rfl fun _=>rfl
    ·intro vs w1 hA
     obtain ⟨hC,e0,e1,e2,e3,e4,_⟩:=hA
     have e0:=rg1 e0
     have e1:=rg1 e1
     have e2:=rg1 e2
     have e3:=rg1 e3
     have e4:=rg1 e4
     refine rgTail_cons ?_
     refine rg_fn rfl rfl rfl (by kernel_rfl) (show [vs 0,vs 3,vs 4]=_ from by rw [e0,e3,e4]) (Calls.mono (HS.out _ _ (HQ2.out.below hC)) ?_)
     rintro e w2 ⟨rfl,hq2⟩
     refine ⟨_,rfl,?_⟩
     refine rgTail_cons ?_
     refine rg_move rfl (.inr rfl) rfl ?_
     refine rgTail_nil ?_
     simp only [rgSet,Nat.reduceEqDiff,↓reduceIte,e0,e1,e2,e3,e4]
     clear e0 e1 e2 e3 e4 hC HP HS HB1 HQ2
     rcases HMC.out with rfl | rfl
     ·obtain ⟨h1,h2⟩:=HL.out.2.2.2 HMm.out (by trivial) (by trivial)
      have h2':=h2.symm
      subst h1 h2'
      obtain ⟨d0,d1,d2,d3,d4,d5,d6,d7⟩:=row4 (hq2.u4 (g:=g1) (x:=d) (by simp))
      obtain ⟨x0,x1,x2,x3,_⟩:=row4 (hq2.u4 (g:=w.heap.size+1) (x:=x) (by simp))
      have HQ3:=Lib.hid hq2
      clear hq2 HL HMC
      go_wp2_with fail
      refine Calls.mono (HD.out _ _ HQ3.out) ?_
      rintro e w9 ⟨rfl,hB9⟩
      clear d0 d1 d2 d3 d4 d5 d6 d7 x0 x1 x2 x3 HD HQ3
      obtain ⟨d0,d1,d2,d3,d4,d5,d6,d7⟩:=row4 (hB9.u4 (g:=g1) (x:=d) (by simp))
      have hB10:=hB9.put4 (g:=g1) (y:=d) sw (by simp) [(p11,uO gw)] (fun x hx=>by rw [List.mem_singleton] at hx; subst hx; exact ⟨by simp,HNE.out⟩)
      clear hB9
      go_upto_region 13 with fail
      generalize ((((w9.setCell ⟨g1,0,none⟩ (.int .u64 sw.1)).setCell ⟨g1,1,none⟩ (.int .u64 sw.2.1)).setCell ⟨g1,2,none⟩ (.int .u64 sw.2.2.1)).setCell ⟨g1,3,none⟩ (.int .u64 sw.2.2.2))=w10 at *
      clear d0 d1 d2 d3 d4 d5 d6 d7
      obtain ⟨d0,d1,d2,d3,_⟩:=row4 (hB10.u4 (g:=g1) (x:=sw) (by simp))
      obtain ⟨x0,x1,x2,x3,_⟩:=row4 (hB10.u4 (g:=p11) (x:=gw) (by simp))
      have HQ4:=Lib.hid hB10
      clear hB10
      go_wp2_with fail
      refine Calls.mono (HWR.out _ _ HQ4.out) ?_
      rintro e w11 ⟨rfl,hB11⟩
      have HD2:=Lib.hid (FV.done hB11)
      clear hB11 HQ4 HWR d0 d1 d2 d3 x0 x1 x2 x3
      go_wp2_with fail
      go_ret
      exact ⟨rfl,HD2.out⟩
     ·obtain ⟨h1,h2,h3⟩:=HL.out.2.2.1 HMm.out (by trivial) (by trivial)
      have h3':=h3
      subst h1 h2 h3'
      have HD2:=Lib.hid (FV.done hq2)
      clear hq2 HL HMC HD HWR
      go_wp2_with fail
      go_ret
      exact ⟨rfl,HD2.out⟩
theorem rPut_q (w:World) (b:Nat) (L:List Nat) (s:St) (f0:Nat) (a o t:Int) (m x:W4) (ha:I63 a) (ho:I63 o) (ht:I63 t) (hmo:m.Ok) (hxo:x.Ok) (hq:RRep w b s L) (hf:s.Fit f0) (hm:f0 < 1000000000) :
  Calls Tryz.prog 80 #[.pointer (some ⟨b,0,none⟩),.int .i64 a,.int .i64 o,.int .i64 t,uV m,uV x] w fun e w'=>e = .returned (.int .i64 (rputE s a o t m x))∧ROn w b L (rputSt s a o t m x) w':=by
 by_cases hc:putC a o t x
 ·obtain ⟨h1,h2⟩:=(rput_law s a o t m x).1 hc
  rw [h1,h2]
  exact rPut_c w b L s a o t m x hxo hq hc
 ·exact rPut_n w b L s f0 a o t m x ha ho ht hmo hxo hq hf hm hc
theorem rTake_q (w:World) (b:Nat) (L:List Nat) (s:St) (f0:Nat) (a o t:Int) (m x:W4) (ha:I63 a) (ho:I63 o) (ht:I63 t) (hmo:m.Ok) (hxo:x.Ok) (hq:RRep w b s L) (hf:s.Fit f0) (hm:f0 < 1000000000) :
  Calls Tryz.prog 81 #[.pointer (some ⟨b,0,none⟩),.int .i64 a,.int .i64 o,.int .i64 t,uV m,uV x] w fun e w'=>e = .returned (.tuple #[uV (takeW s a o t m x),.int .i64 (takeE s a o t m x)])∧ROn w b L (H1.takeSt s a o t m x) w':=by
 have hB:=(((FV.start hq).alloc (uO m)).alloc (uO x)).alloc zO
 rw [World.size_alloc,World.size_alloc] at hB
 have HDp:Hid (∀ rs W,FV b w L s rs W→Calls Tryz.prog 33 #[.pointer (some ⟨b,0,none⟩),.int .i64 a,.int .i64 t] W fun e w'=>e = .returned (uV (s.dep a t))∧Below W.heap.size W w'):=fun rs W hW=>by
  obtain ⟨L',h1,_⟩:=hW.on
  exact rdep_q W b s L' f0 a t ha ht h1 hf (by omega)
 have HFc:Hid (∀ rs W,FV b w L s rs W→Calls Tryz.prog 34 #[.pointer (some ⟨b,0,none⟩),.int .i64 a,.int .i64 t] W fun e w'=>e = .returned (uV (s.fct a t))∧FV b w L s rs w'):=fun rs W hW=>QV.reads hW fun L' h1=>rfct_q W b s L' f0 a t ha ht h1 hf (by omega)
 have HD:Hid (∀ W,Calls Tryz.prog 19 #[uV (s.dep a t),uV x] W fun e w'=>e = .returned (.tuple #[uV (subW (s.dep a t) x),.bool (subB (s.dep a t) x)])∧Below W.heap.size W w'):=rsub_u _ x (amt_ok _ _) hxo
 have HW:Hid (∀ rs W,FV b w L s rs W→Calls Tryz.prog 92 #[uV x,uV (s.fct a t),uV m] W fun e w'=>e = .returned (.tuple #[uV (worthW x (s.fct a t) m),.bool (goodB x (s.fct a t) m)])∧FV b w L s rs w'):=fun rs W hW=>QV.reads hW fun _ _=>rfworth_any x _ m hxo (fct_ok _ _ _) hmo W
 have HP:Hid (∀ W,Calls Tryz.prog 91 #[.int .i64 o,.int .i64 t] W fun e w'=>e = .returned (.string (keyL 12 [o,t]))∧Below W.heap.size W w'):=rpart_any o t ho ht
 have HS:Hid (∀ rs W,FV b w L s rs W→Calls Tryz.prog 147 #[.pointer (some ⟨b,0,none⟩),.string (keyL 12 [o,t]),uV (worthW x (s.fct a t) m)] W fun e W'=>e = .returned (.int .i64 (lessE' (s.prt o t) (worthW x (s.fct a t) m)))∧FV b w L (H1.subSt s (keyL 12 [o,t]) (worthW x (s.fct a t) m)) rs W'):=fun rs W hW=>QV.call hW fun L' h1=>rcSub_q W b L' s f0 _ _ (worthW_ok _ _ _) h1 hf (by omega)
 have hfs:(H1.subSt s (keyL 12 [o,t]) (worthW x (s.fct a t) m)).Fit (f0+2):=by
  unfold Hand.subSt; split
  ·exact Hand.st_fit (hf.mono (by omega)) (hf.setAmt _ _)
  ·exact hf.mono (by omega)
 have HWR:Hid (∀ rs W,FV b w L (H1.subSt s (keyL 12 [o,t]) (worthW x (s.fct a t) m)) rs W→Calls Tryz.prog 146 #[.pointer (some ⟨b,0,none⟩),.int .i64 a,.int .i64 t,uV (subW (s.dep a t) x),uV (s.fct a t)] W fun e W'=>e = .returned (.tuple #[])∧FV b w L (H1.wr (H1.subSt s (keyL 12 [o,t]) (worthW x (s.fct a t) m)) a t (subW (s.dep a t) x) (s.fct a t)) rs W'):=fun rs W hW=>QV.call hW fun L' h1=>rset_q W b L' _ (f0+2) a t _ _ ha ht h1 hfs (by omega)
 have HL:=Lib.hid (take_law H1 s a o t m x)
 have HLC:=Lib.hid (less_cases (s.prt o t) (worthW x (s.fct a t) m))
 have HB:=Lib.hid hB
 generalize H1.takeSt s a o t m x=sx at *
 generalize H1.wr (H1.subSt s (keyL 12 [o,t]) (worthW x (s.fct a t) m)) a t (subW (s.dep a t) x) (s.fct a t)=s3 at *
 generalize H1.subSt s (keyL 12 [o,t]) (worthW x (s.fct a t) m)=s2 at *
 generalize takeE s a o t m x=te at *
 generalize takeW s a o t m x=tw at *
 generalize lessE' (s.prt o t) (worthW x (s.fct a t) m)=le at *
 generalize goodB x (s.fct a t) m=gb at *
 generalize worthW x (s.fct a t) m=u at *
 generalize subB (s.dep a t) x=sb at *
 generalize subW (s.dep a t) x=rst at *
 generalize s.dep a t=d at *
 generalize s.fct a t=fc at *
 generalize keyL 12 [o,t]=kk at *
 by_cases hx0:x=(0,0,0,0)
 ·obtain ⟨h1,h2,h3⟩:=HL.out.1 hx0
  subst h1 h2 h3 hx0
  have hE:∀ w,(Op.equalIn 10000 28 (.agg #[.int .u64 0,.int .u64 0,.int .u64 0,.int .u64 0]) (.agg #[.int .u64 0,.int .u64 0,.int .u64 0,.int .u64 0])).run Tryz.prog w = .ok true w:=fun w=>eqU (0,0,0,0) (0,0,0,0) w
  have hz:(((w.alloc (uO m)).alloc zO).alloc zO).heap[w.heap.size+2]? = some zO:=HB.out.row (by simp)
  have HZ:=Lib.hid hz
  have HD2:=Lib.hid (FV.done hB)
  clear hB hz hq hf HL HLC HWR hfs HS HP HW HD HDp HFc HB
  go_enter Tryz.func81,Tryz.ntmps81
  go_wp2_with fail
  refine bodyPost_ret (results_cell_row2 rfl _ _ (w.heap.size+2) 28 (uL (0,0,0,0)) (0,0) _ rfl HZ.out Tryz.underlying28 rfl (by kernel_rfl)) rfl ?_
  exact ⟨rfl,HD2.out⟩
 ·have HX0:=Lib.hid hx0
  have hE:∀ w,(Op.equalIn 10000 28 (uV x) (.agg #[.int .u64 0,.int .u64 0,.int .u64 0,.int .u64 0])).run Tryz.prog w = .ok false w:=fun w=>by
   have:=eqU x (0,0,0,0) w
   rwa [decide_eq_false hx0] at this
  clear hB hq hf hfs hx0
  go_enter Tryz.func81,Tryz.ntmps81
  go_wp2_with fail
  refine Calls.mono (HFc.out _ _ HB.out) ?_
  rintro e w3 ⟨rfl,hB3⟩
  have hB4:=hB3.alloc (uO fc)
  clear hB3 HB HFc hE
  go_upto_region 4 with fail
  generalize w3.alloc (uO fc)=w4 at *
  generalize w3.heap.size=g1 at *
  have HQ:=Lib.hid hB4
  have HDe:Hid (∀ W,Below w4.heap.size w4 W→Calls Tryz.prog 33 #[.pointer (some ⟨b,0,none⟩),.int .i64 a,.int .i64 t] W fun e w'=>e = .returned (uV d)∧Below W.heap.size W w'):=fun W hW=>HDp.out _ W (hB4.below hW)
  have HB0:=Lib.hid (bl_drew (Below.refl w4.heap.size w4))
  clear hB4 HDp
  refine wp_region_rely [[],[],[],[0,1,2],[],[0,1,2,3,4],[0,1,2,3,4,5],[0,1,2,3,4,5,6],[0,1,2,3,4,5,6],[],[0,1,2,3,4,5,6,7,9],[0,1,2,3,4,5,6,7,8,9,10]]
   [rgC (Below w4.heap.size w4),rgV 0 (.pointer (some ⟨b,0,none⟩)),rgV 1 (.int .i64 a),rgV 2 (.int .i64 t),rgV 3 (uV d),rgV 4 (uV x),rgV 5 (.tuple #[uV rst,.bool sb]),rgV 6 (.tuple #[uV rst,.bool sb]),rgV 7 (uV rst),rgV 8 (.bool sb),rgP 9 (w4.heap.size),rgV 11 (.bool sb),rgS 9 10 (rst)] _ (by kernel_rfl) (by kernel_rfl) (by kernel_rfl)
   (fun vs=>by simp only [rgAct,rgPut,List.setIfInBounds_toArray,List.set_cons_zero,List.set_cons_succ]; exact rfl)
   ⟨fun _ _ _ hb h=>bl_then h hb,rgV_st,rgV_st,rgV_st,rgV_st,rgV_st,rgV_st,rgV_st,rgV_st,rgV_st,rgP_st,rgV_st,rgS_st,trivial⟩ ?_ ?_ ?_
  ·refine rgAll_yes rfl HB0.out ?_
   iterate 12 refine rgAll_no rfl ?_
   exact trivial
  ·refine ⟨?_,?_,?_,?_,?_,?_,?_,?_,?_,?_,?_,?_,trivial⟩
   ·rintro vs w1 ⟨_,_⟩ K hK
    refine rg_move rfl (.inl rfl) rfl (hK _ _ (.inl (Below.refl _ _)) ?_)
    exact rgNew_one 1 rfl fun _=>rfl
   ·rintro vs w1 ⟨_,_⟩ K hK
    refine rg_move rfl (.inl rfl) rfl (hK _ _ (.inl (Below.refl _ _)) ?_)
    exact rgNew_one 2 rfl fun _=>rfl
   ·rintro vs w1 ⟨_,_⟩ K hK
    refine rg_move rfl (.inl rfl) rfl (hK _ _ (.inl (Below.refl _ _)) ?_)
    exact rgNew_one 3 rfl fun _=>rfl
   ·rintro vs w1 ⟨hC,e0,e1,e2,_⟩ K hK
    refine rg_fn rfl rfl rfl (by kernel_rfl) (show [vs 0,vs 1,vs 2]=_ from by rw [rg1 e0,rg1 e1,rg1 e2]) (Calls.mono (HDe.out _ hC) ?_)
    rintro e w2 ⟨rfl,hb⟩
    refine ⟨_,rfl,hK _ _ (.inl hb) ?_⟩
    exact rgNew_one 4 rfl fun _=>rfl
   ·rintro vs w1 ⟨hC,_⟩ K hK
    refine rg_loadU rfl rfl rfl ((HQ.out.below hC).u4 (x:=x) (by simp)) (hK _ _ (.inl (Below.refl _ _)) ?_)
    exact rgNew_one 5 rfl fun _=>rfl
   ·rintro vs w1 ⟨_,_,_,_,e3,e4,_⟩ K hK
    refine rg_fn rfl rfl rfl (by kernel_rfl) (show [vs 3,vs 4]=_ from by rw [rg1 e3,rg1 e4]) (Calls.mono (HD.out _) ?_)
    rintro e w2 ⟨rfl,hb⟩
    refine ⟨_,rfl,hK _ _ (.inl hb) ?_⟩
    exact rgNew_one 6 rfl fun _=>rfl
   ·rintro vs w1 ⟨_,_,_,_,_,_,e5,_⟩ K hK
    refine rg_move rfl (.inl rfl) (rg1 e5) (hK _ _ (.inl (Below.refl _ _)) ?_)
    exact rgNew_one 7 rfl fun _=>rfl
   ·rintro vs w1 ⟨_,_,_,_,_,_,_,e6,_⟩ K hK
    refine rg_extract rfl rfl (rg1 e6) rfl (hK _ _ (.inl (Below.refl _ _)) ?_)
    exact rgNew_one 8 rfl fun _=>rfl
   ·rintro vs w1 ⟨_,_,_,_,_,_,_,e6,_⟩ K hK
    refine rg_extract rfl rfl (rg1 e6) rfl (hK _ _ (.inl (Below.refl _ _)) ?_)
    exact rgNew_one 9 rfl fun _=>rfl
   ·rintro vs w1 ⟨hC,_⟩ K hK
    refine rg_allocU rfl rfl (hK _ _ (.inl (bl_alloc (Below.refl _ _) _)) ?_)
    iterate 10 refine rgNew_no rfl ?_
    refine rgNew_yes rfl (fun _=>⟨_,_,rfl,hC.size,heap_alloc_new _ _⟩) ?_
    iterate 2 refine rgNew_no rfl ?_
    exact trivial
   ·rintro vs w1 ⟨hC,_,_,_,_,_,_,_,e7,⟨_,_,e9,h9,g9⟩,_⟩ K hK
    refine rg_storeU rfl rfl (rg1 e9) (rg1 e7) g9 (hK _ _ (.inr ?_) ?_)
    ·refine rgStay_yes rfl (fun hC _=>bput hC h9) ?_
     iterate 9 refine rgStay_yes rfl (fun h _=>h) ?_
     refine rgStay_yes rfl (fun h _=>rgP_put h) ?_
     iterate 2 refine rgStay_no rfl ?_
     exact trivial
    ·iterate 12 refine rgNew_no rfl ?_
     refine rgNew_yes rfl (fun _=>⟨_,_,by show [vs 9,undef]=_; rw [rg1 e9],setRow_heap _ _ _ _ _ _ g9⟩) ?_
     exact trivial
   ·rintro vs w1 ⟨_,_,_,_,_,_,_,_,_,e8,_,_,_⟩ K hK
    refine rg_move rfl (.inr rfl) (rg1 e8) (hK _ _ (.inl (Below.refl _ _)) ?_)
    exact rgNew_one 11 rfl fun _=>rfl
  ·intro vs w1 hA
   obtain ⟨hC,e0,e1,e2,e3,e4,e5,e6,e7,e8,⟨p9,_,e9,h9,g9⟩,e11,s10,_⟩:=hA
   have e0:=rg1 e0
   have e1:=rg1 e1
   have e2:=rg1 e2
   have e3:=rg1 e3
   have e4:=rg1 e4
   have e5:=rg1 e5
   have e6:=rg1 e6
   have e7:=rg1 e7
   have e8:=rg1 e8
   have e9:=rg1 e9
   have e11:=rg1 e11
   have s10:=rgS_at s10 e9
   simp only [e0,e1,e2,e3,e4,e5,e6,e7,e8,e9,e11]
   have hB6:=HQ.out.add1 hC h9 s10
   clear e0 e1 e2 e3 e4 e5 e6 e7 e8 e11 g9 s10 h9 hC HDe HD HB0 HQ
   cases sb with
   | false =>
    obtain ⟨h1,h2,h3⟩:=HL.out.2.1 HX0.out rfl
    subst h1 h2 h3
    have hz:=hB6.u4 (g:=w.heap.size+2) (x:=(0,0,0,0)) (by simp)
    obtain ⟨z0,z1,z2,z3,z4,z5,z6,z7⟩:=row4 hz
    have HZ:=Lib.hid (put4 hz (0,0,0,0))
    have HD2:=Lib.hid (FV.done (hB6.put4 (g:=w.heap.size+2) (y:=(0,0,0,0)) (0,0,0,0) (by simp) [] (fun _ hx=>by cases hx)))
    clear hz hB6 HL HLC HW HP HS HWR
    go_wp2_with fail
    refine bodyPost_ret (results_cell_row2 rfl _ _ (w.heap.size+2) 28 (uL (0,0,0,0)) (0,0) _ rfl HZ.out Tryz.underlying28 rfl (by kernel_rfl)) rfl ?_
    exact ⟨rfl,HD2.out⟩
   | true =>
    obtain ⟨d0,d1,d2,d3,_⟩:=row4 (hB6.u4 (g:=g1) (x:=fc) (by simp))
    obtain ⟨a0,a1,a2,a3,_⟩:=row4 (hB6.u4 (g:=w.heap.size+1) (x:=x) (by simp))
    obtain ⟨b0,b1,b2,b3,_⟩:=row4 (hB6.u4 (g:=w.heap.size) (x:=m) (by simp))
    have HB6:=Lib.hid hB6
    clear hB6
    go_wp2_with fail
    refine Calls.mono (HW.out _ _ HB6.out) ?_
    rintro e w7 ⟨rfl,hB7⟩
    have hB8:=hB7.alloc (uO u)
    clear d0 d1 d2 d3 a0 a1 a2 a3 b0 b1 b2 b3 hB7 HB6 HW
    go_upto_region 8 with fail
    generalize w7.alloc (uO u)=w8 at *
    generalize w7.heap.size=g3 at *
    cases gb with
    | false =>
     obtain ⟨h1,h2,h3⟩:=HL.out.2.2.1 HX0.out (by trivial) (by trivial)
     subst h1 h2 h3
     have hz:=hB8.u4 (g:=w.heap.size+2) (x:=(0,0,0,0)) (by simp)
     obtain ⟨z0,z1,z2,z3,z4,z5,z6,z7⟩:=row4 hz
     have HZ:=Lib.hid (put4 hz (0,0,0,0))
     have HD2:=Lib.hid (FV.done (hB8.put4 (g:=w.heap.size+2) (y:=(0,0,0,0)) (0,0,0,0) (by simp) [] (fun _ hx=>by cases hx)))
     clear hz hB8 HL HLC HP HS HWR
     go_wp2_with fail
     refine bodyPost_ret (results_cell_row2 rfl _ _ (w.heap.size+2) 28 (uL (0,0,0,0)) (0,0) _ rfl HZ.out Tryz.underlying28 rfl (by kernel_rfl)) rfl ?_
     exact ⟨rfl,HD2.out⟩
    | true =>
     have HQ2:=Lib.hid hB8
     have HB1:=Lib.hid (bl_drew (Below.refl w8.heap.size w8))
     clear hB8
     go_wp2_with fail
     go_upto_region 10 with fail
     refine wp_region_rely_tail 5 [[],[],[],[1,2],[],[0,1,2,3,4],[0,1,2,3,4,5]]
      [rgC (Below w8.heap.size w8),rgV 0 (.pointer (some ⟨b,0,none⟩)),rgV 1 (.int .i64 o),rgV 2 (.int .i64 t),rgV 3 (.string kk),rgV 4 (uV u)] _ (by kernel_rfl) (by kernel_rfl) (by decide) (by kernel_rfl) (by kernel_rfl)
      (fun vs=>by simp only [rgAct,rgPut,List.setIfInBounds_toArray,List.set_cons_zero,List.set_cons_succ]; exact rfl)
      ⟨fun _ _ _ hb h=>bl_then h hb,rgV_st,rgV_st,rgV_st,rgV_st,rgV_st,trivial⟩ ?_ ?_ ?_
     ·refine rgAll_yes rfl HB1.out ?_
      iterate 5 refine rgAll_no rfl ?_
      exact trivial
     ·refine ⟨?_,?_,?_,?_,?_,trivial⟩
      ·rintro vs w1 ⟨_,_⟩ K hK
       refine rg_move rfl (.inl rfl) rfl (hK _ _ (.inl (Below.refl _ _)) ?_)
       exact rgNew_one 1 rfl fun _=>rfl
      ·rintro vs w1 ⟨_,_⟩ K hK
       refine rg_move rfl (.inl rfl) rfl (hK _ _ (.inl (Below.refl _ _)) ?_)
       exact rgNew_one 2 rfl fun _=>rfl
      ·rintro vs w1 ⟨_,_⟩ K hK
       refine rg_move rfl (.inl rfl) rfl (hK _ _ (.inl (Below.refl _ _)) ?_)
       exact rgNew_one 3 rfl fun _=>rfl
      ·rintro vs w1 ⟨_,e1,e2,_⟩ K hK
       refine rg_fn rfl rfl rfl (by kernel_rfl) (show [vs 1,vs 2]=_ from by rw [rg1 e1,rg1 e2]) (Calls.mono (HP.out _) ?_)
       rintro e w2 ⟨rfl,hb⟩
       refine ⟨_,rfl,hK _ _ (.inl hb) ?_⟩
       exact rgNew_one 4 rfl fun _=>rfl
      ·rintro vs w1 ⟨hC,_⟩ K hK
       refine rg_loadU rfl rfl rfl ((HQ2.out.below hC).u4 (x:=u) (by simp)) (hK _ _ (.inl (Below.refl _ _)) ?_)
       exact rgNew_one 5 rfl fun _=>rfl
     ·intro vs w1 hA
      obtain ⟨hC,e0,e1,e2,e3,e4,_⟩:=hA
      have e0:=rg1 e0
      have e1:=rg1 e1
      have e2:=rg1 e2
      have e3:=rg1 e3
      have e4:=rg1 e4
      refine rgTail_cons ?_
      refine rg_fn rfl rfl rfl (by kernel_rfl) (show [vs 0,vs 3,vs 4]=_ from by rw [e0,e3,e4]) (Calls.mono (HS.out _ _ (HQ2.out.below hC)) ?_)
      rintro e w2 ⟨rfl,hq2⟩
      refine ⟨_,rfl,?_⟩
      refine rgTail_cons ?_
      refine rg_move rfl (.inr rfl) rfl ?_
      refine rgTail_nil ?_
      simp only [rgSet,Nat.reduceEqDiff,↓reduceIte,e0,e1,e2,e3,e4]
      clear e0 e1 e2 e3 e4 hC HP HS HB1 HQ2
      rcases HLC.out with rfl | rfl
      ·obtain ⟨h1,h2,h3⟩:=HL.out.2.2.2.2 HX0.out (by trivial) (by trivial) (by trivial)
       have h2':=h2.symm
       have h3':=h3.symm
       subst h1 h2' h3'
       obtain ⟨r0,r1,r2,r3,_⟩:=row4 (hq2.u4 (g:=p9) (x:=rst) (by simp))
       obtain ⟨d0,d1,d2,d3,_⟩:=row4 (hq2.u4 (g:=g1) (x:=fc) (by simp))
       have HQ3:=Lib.hid hq2
       clear hq2 HL HLC
       go_wp2_with fail
       refine Calls.mono (HWR.out _ _ HQ3.out) ?_
       rintro e w9 ⟨rfl,hB9⟩
       clear r0 r1 r2 r3 d0 d1 d2 d3 HQ3 HWR
       have hz:=hB9.u4 (g:=w.heap.size+2) (x:=(0,0,0,0)) (by simp)
       obtain ⟨z0,z1,z2,z3,z4,z5,z6,z7⟩:=row4 hz
       obtain ⟨u0,u1,u2,u3,_⟩:=row4 (hB9.u4 (g:=g3) (x:=u) (by simp))
       have HZ:=Lib.hid (put4 hz u)
       have HD2:=Lib.hid (FV.done (hB9.put4 (g:=w.heap.size+2) (y:=(0,0,0,0)) u (by simp) [] (fun _ hx=>by cases hx)))
       clear hz hB9
       go_wp2_with fail
       refine bodyPost_ret (results_cell_row2 rfl _ _ (w.heap.size+2) 28 (uL u) (0,0) _ rfl HZ.out Tryz.underlying28 rfl (by kernel_rfl)) rfl ?_
       exact ⟨rfl,HD2.out⟩
      ·obtain ⟨h1,h2,h3,h4⟩:=HL.out.2.2.2.1 HX0.out (by trivial) (by trivial) (by trivial)
       have h4':=h4
       subst h1 h2 h3 h4'
       have hz:=hq2.u4 (g:=w.heap.size+2) (x:=(0,0,0,0)) (by simp)
       obtain ⟨z0,z1,z2,z3,z4,z5,z6,z7⟩:=row4 hz
       have HZ:=Lib.hid (put4 hz (0,0,0,0))
       have HD2:=Lib.hid (FV.done (hq2.put4 (g:=w.heap.size+2) (y:=(0,0,0,0)) (0,0,0,0) (by simp) [] (fun _ hx=>by cases hx)))
       clear hz hq2 HL
       go_wp2_with fail
       refine bodyPost_ret (results_cell_row2 rfl _ _ (w.heap.size+2) 28 (uL (0,0,0,0)) (0,0) _ rfl HZ.out Tryz.underlying28 rfl (by kernel_rfl)) rfl ?_
       exact ⟨rfl,HD2.out⟩
theorem rCut_q (w:World) (b:Nat) (L:List Nat) (s:St) (f:Nat) (o t:Int) (tk fk:W4) (ho:I63 o) (ht:I63 t) (htk:tk.Ok) (hfk:fk.Ok) (hq:RRep w b s L) (hf:s.Fit f) (hm:f < 10000000000) :
  Calls Tryz.prog 84 #[.pointer (some ⟨b,0,none⟩),.int .i64 o,.int .i64 t,uV tk,uV fk] w fun e w'=>e = .returned (.tuple #[uV (cutW s o t tk fk),.int .i64 (cutE s o t tk fk)])∧ROn w b L (H1.cutSt s o t tk fk) w':=by
 have hB:=(((FV.start hq).alloc (uO tk)).alloc (uO fk)).alloc zO
 rw [World.size_alloc,World.size_alloc] at hB
 have HPa:Hid (∀ rs W,FV b w L s rs W→Calls Tryz.prog 35 #[.pointer (some ⟨b,0,none⟩),.int .i64 o,.int .i64 t] W fun e w'=>e = .returned (uV (s.prt o t))∧FV b w L s rs w'):=fun rs W hW=>QV.reads hW fun L' h1=>rprt_q W b s L' f o t ho ht h1 hf (by omega)
 have HU:Hid (∀ rs W,FV b w L s rs W→Calls Tryz.prog 152 #[uV (s.prt o t),uV tk,uV fk] W fun e w'=>e = .returned (.tuple #[uV (suW (s.prt o t) tk fk),.bool (suB (s.prt o t) tk fk)])∧FV b w L s rs w'):=fun rs W hW=>QV.reads hW fun _ _=>rscaleup_any _ tk fk (amt_ok _ _) htk hfk W
 have HC:Hid (∀ rs W,FV b w L s rs W→Calls Tryz.prog 23 #[uV tk,uV fk] W fun e w'=>e = .returned (.int .i64 (uCmp tk fk))∧FV b w L s rs w'):=fun rs W hW=>QV.reads hW fun _ _=>rcmp_u tk fk htk hfk W
 have HP:Hid (∀ W,Calls Tryz.prog 91 #[.int .i64 o,.int .i64 t] W fun e w'=>e = .returned (.string (keyL 12 [o,t]))∧Below W.heap.size W w'):=rpart_any o t ho ht
 have HS:Hid (∀ rs W,FV b w L s rs W→Calls Tryz.prog 153 #[.pointer (some ⟨b,0,none⟩),.string (keyL 12 [o,t]),uV (suW (s.prt o t) tk fk)] W fun e W'=>e = .returned (.tuple #[])∧FV b w L (H1.st s (s.setAmt (keyL 12 [o,t]) (suW (s.prt o t) tk fk))) rs W'):=fun rs W hW=>hW.cset (Nat.lt_of_le_of_lt hf.size (by omega)) _ _
 have HD:Hid (∀ rs s' W,FV b w L s' rs W→Calls Tryz.prog 19 #[uV (s.prt o t),uV (suW (s.prt o t) tk fk)] W fun e w'=>e = .returned (.tuple #[uV (subW (s.prt o t) (suW (s.prt o t) tk fk)),.bool (subB (s.prt o t) (suW (s.prt o t) tk fk))])∧FV b w L s' rs w'):=fun rs s' W hW=>QV.reads hW fun _ _=>rsub_u _ _ (amt_ok _ _) (suW_ok _ _ _) W
 have HL:=Lib.hid (cut_law H1 s o t tk fk)
 have HB:=Lib.hid hB
 generalize H1.cutSt s o t tk fk=sx at *
 generalize H1.st s (s.setAmt (keyL 12 [o,t]) (suW (s.prt o t) tk fk))=s2 at *
 generalize cutW s o t tk fk=cw at *
 generalize cutE s o t tk fk=ce at *
 generalize subB (s.prt o t) (suW (s.prt o t) tk fk)=lb at *
 generalize subW (s.prt o t) (suW (s.prt o t) tk fk)=l at *
 generalize suW (s.prt o t) tk fk=x at *
 generalize suB (s.prt o t) tk fk=xb at *
 generalize s.prt o t=p at *
 generalize keyL 12 [o,t]=kk at *
 have hgt:decide (0 < uCmp tk fk)=true∨decide (0 < uCmp tk fk)=false:=by cases decide (0 < uCmp tk fk) <;> simp
 have HGT:=Lib.hid hgt
 clear hB hq hf hgt
 generalize uCmp tk fk=cm at *
 go_enter Tryz.func84,Tryz.ntmps84
 go_wp2_with fail
 refine Calls.mono (HPa.out _ _ HB.out) ?_
 rintro e w3 ⟨rfl,hB3⟩
 have hB4:=hB3.alloc (uO p)
 clear hB3 HB HPa
 go_upto_region 2 with fail
 generalize w3.alloc (uO p)=w4 at *
 generalize w3.heap.size=g1 at *
 obtain ⟨p0,p1,p2,p3,_⟩:=row4 (hB4.u4 (g:=g1) (x:=p) (by simp))
 obtain ⟨a0,a1,a2,a3,_⟩:=row4 (hB4.u4 (g:=w.heap.size) (x:=tk) (by simp))
 obtain ⟨b0,b1,b2,b3,_⟩:=row4 (hB4.u4 (g:=w.heap.size+1) (x:=fk) (by simp))
 have HB4:=Lib.hid hB4
 clear hB4
 go_wp2_with fail
 refine Calls.mono (HU.out _ _ HB4.out) ?_
 rintro e w5 ⟨rfl,hB5⟩
 have hB6:=hB5.alloc (uO x)
 clear p0 p1 p2 p3 a0 a1 a2 a3 b0 b1 b2 b3 hB5 HB4 HU
 go_upto_region 3 with fail
 generalize w5.alloc (uO x)=w6 at *
 generalize w5.heap.size=g2 at *
 cases xb with
 | false =>
  obtain ⟨h1,h2,h3⟩:=HL.out.1 rfl
  subst h1 h2 h3
  have hz:=hB6.u4 (g:=w.heap.size+2) (x:=(0,0,0,0)) (by simp)
  obtain ⟨z0,z1,z2,z3,z4,z5,z6,z7⟩:=row4 hz
  have HZ:=Lib.hid (put4 hz (0,0,0,0))
  have HD2:=Lib.hid (QV.done (hB6.put4 (g:=w.heap.size+2) (y:=(0,0,0,0)) (0,0,0,0) (by simp) [] (fun _ hx=>by cases hx)))
  clear hz hB6 HL HC HS HD HP
  go_wp2_with fail
  refine bodyPost_ret (results_cell_row2 rfl _ _ (w.heap.size+2) 28 (uL (0,0,0,0)) (0,0) _ rfl HZ.out Tryz.underlying28 rfl (by kernel_rfl)) rfl ?_
  exact ⟨rfl,HD2.out⟩
 | true =>
  obtain ⟨a0,a1,a2,a3,_⟩:=row4 (hB6.u4 (g:=w.heap.size) (x:=tk) (by simp))
  obtain ⟨b0,b1,b2,b3,_⟩:=row4 (hB6.u4 (g:=w.heap.size+1) (x:=fk) (by simp))
  have HB6:=Lib.hid hB6
  clear hB6
  go_wp2_with fail
  refine Calls.mono (HC.out _ _ HB6.out) ?_
  rintro e w7 ⟨rfl,hB7⟩
  clear a0 a1 a2 a3 b0 b1 b2 b3 HB6 HC
  rcases HGT.out with hgt | hgt
  ·obtain ⟨h1,h2,h3⟩:=HL.out.2.1 hgt
   subst h1 h2 h3
   have hz:=hB7.u4 (g:=w.heap.size+2) (x:=(0,0,0,0)) (by simp)
   obtain ⟨z0,z1,z2,z3,z4,z5,z6,z7⟩:=row4 hz
   have HZ:=Lib.hid (put4 hz (0,0,0,0))
   have HD2:=Lib.hid (QV.done (hB7.put4 (g:=w.heap.size+2) (y:=(0,0,0,0)) (0,0,0,0) (by simp) [] (fun _ hx=>by cases hx)))
   clear hz hB7 HL HS HD HP HGT
   go_wp2_with fail
   refine bodyPost_ret (results_cell_row2 rfl _ _ (w.heap.size+2) 28 (uL (0,0,0,0)) (0,0) _ rfl HZ.out Tryz.underlying28 rfl (by kernel_rfl)) rfl ?_
   exact ⟨rfl,HD2.out⟩
  ·obtain ⟨h1,h2,h3⟩:=HL.out.2.2 (by trivial) hgt
   have h1':=h1.symm
   have h3':=h3.symm
   subst h1' h2 h3'
   clear HL HGT
   go_wp2_with fail
   go_upto_region 5 with fail
   have HQ:=Lib.hid hB7
   have HB0:=Lib.hid (bl_drew (Below.refl w7.heap.size w7))
   clear hB7
   refine wp_region_rely_tail 5 [[],[],[],[1,2],[],[0,1,2,3,4]]
    [rgC (Below w7.heap.size w7),rgV 0 (.pointer (some ⟨b,0,none⟩)),rgV 1 (.int .i64 o),rgV 2 (.int .i64 t),rgV 3 (.string kk),rgV 4 (uV x)] _ (by kernel_rfl) (by kernel_rfl) (by decide) (by kernel_rfl) (by kernel_rfl)
    (fun vs=>by simp only [rgAct,rgPut,List.setIfInBounds_toArray,List.set_cons_zero,List.set_cons_succ]; exact rfl)
    ⟨fun _ _ _ hb h=>bl_then h hb,rgV_st,rgV_st,rgV_st,rgV_st,rgV_st,trivial⟩ ?_ ?_ ?_
   ·refine rgAll_yes rfl HB0.out ?_
    iterate 5 refine rgAll_no rfl ?_
    exact trivial
   ·refine ⟨?_,?_,?_,?_,?_,trivial⟩
    ·rintro vs w1 ⟨_,_⟩ K hK
     refine rg_move rfl (.inl rfl) rfl (hK _ _ (.inl (Below.refl _ _)) ?_)
     exact rgNew_one 1 rfl fun _=>rfl
    ·rintro vs w1 ⟨_,_⟩ K hK
     refine rg_move rfl (.inl rfl) rfl (hK _ _ (.inl (Below.refl _ _)) ?_)
     exact rgNew_one 2 rfl fun _=>rfl
    ·rintro vs w1 ⟨_,_⟩ K hK
     refine rg_move rfl (.inl rfl) rfl (hK _ _ (.inl (Below.refl _ _)) ?_)
     exact rgNew_one 3 rfl fun _=>rfl
    ·rintro vs w1 ⟨_,e1,e2,_⟩ K hK
     refine rg_fn rfl rfl rfl (by kernel_rfl) (show [vs 1,vs 2]=_ from by rw [rg1 e1,rg1 e2]) (Calls.mono (HP.out _) ?_)
     rintro e w2 ⟨rfl,hb⟩
     refine ⟨_,rfl,hK _ _ (.inl hb) ?_⟩
     exact rgNew_one 4 rfl fun _=>rfl
    ·rintro vs w1 ⟨hC,_⟩ K hK
     refine rg_loadU rfl rfl rfl ((HQ.out.below hC).u4 (x:=x) (by simp)) (hK _ _ (.inl (Below.refl _ _)) ?_)
     exact rgNew_one 5 rfl fun _=>rfl
   ·intro vs w1 hA
    obtain ⟨hC,e0,e1,e2,e3,e4,_⟩:=hA
    have e0:=rg1 e0
    have e1:=rg1 e1
    have e2:=rg1 e2
    have e3:=rg1 e3
    have e4:=rg1 e4
    refine rgTail_cons ?_
    refine rg_fn rfl rfl rfl (by kernel_rfl) (show [vs 0,vs 3,vs 4]=_ from by rw [e0,e3,e4]) (Calls.mono (HS.out _ _ (HQ.out.below hC)) ?_)
    rintro e w2 ⟨rfl,hq2⟩
    refine ⟨_,rfl,?_⟩
    refine rgTail_nil ?_
    simp only [rgSet,Nat.reduceEqDiff,↓reduceIte,e0,e1,e2,e3,e4]
    obtain ⟨p0,p1,p2,p3,_⟩:=row4 (hq2.u4 (g:=g1) (x:=p) (by simp))
    obtain ⟨x0,x1,x2,x3,_⟩:=row4 (hq2.u4 (g:=g2) (x:=x) (by simp))
    have HQ2:=Lib.hid hq2
    clear e0 e1 e2 e3 e4 hC HP HS HB0 HQ hq2
    go_wp2_with fail
    refine Calls.mono (HD.out _ _ _ HQ2.out) ?_
    rintro e w8 ⟨rfl,hB8⟩
    have hB9:=hB8.alloc (uO l)
    clear p0 p1 p2 p3 x0 x1 x2 x3 hB8 HQ2 HD
    go_upto_region 7 with fail
    generalize w8.alloc (uO l)=w9 at *
    generalize w8.heap.size=g3 at *
    have hz:=hB9.u4 (g:=w.heap.size+2) (x:=(0,0,0,0)) (by simp)
    obtain ⟨z0,z1,z2,z3,z4,z5,z6,z7⟩:=row4 hz
    obtain ⟨x0,x1,x2,x3,_⟩:=row4 (hB9.u4 (g:=g3) (x:=l) (by simp))
    have HZ:=Lib.hid (put4 hz l)
    have HD2:=Lib.hid (QV.done (hB9.put4 (g:=w.heap.size+2) (y:=(0,0,0,0)) l (by simp) [] (fun _ hx=>by cases hx)))
    clear hz hB9
    go_wp2_with fail
    refine bodyPost_ret (results_cell_row2 rfl _ _ (w.heap.size+2) 28 (uL l) (0,0) _ rfl HZ.out Tryz.underlying28 rfl (by kernel_rfl)) rfl ?_
    exact ⟨rfl,HD2.out⟩
theorem rShift_q (w:World) (b:Nat) (L:List Nat) (s:St) (f0:Nat) (a o t:Int) (m:W4) (ha:I63 a) (ho:I63 o) (ht:I63 t) (hmo:m.Ok) (hq:RRep w b s L) (hf:s.Fit f0) (hm:f0 < 1000000000) :
  Calls Tryz.prog 83 #[.pointer (some ⟨b,0,none⟩),.int .i64 a,.int .i64 o,.int .i64 t,uV m] w fun e w'=>e = .returned (.tuple #[uV (shiftW s a o t m),.int .i64 (shiftE s a o t m)])∧ROn w b L (H1.shiftSt s a o t m) w':=by
 have hB:=((FV.start hq).alloc (uO m)).alloc zO
 rw [World.size_alloc] at hB
 have HDp:Hid (∀ rs W,FV b w L s rs W→Calls Tryz.prog 33 #[.pointer (some ⟨b,0,none⟩),.int .i64 a,.int .i64 t] W fun e w'=>e = .returned (uV (s.dep a t))∧FV b w L s rs w'):=fun rs W hW=>QV.reads hW fun L' h1=>rdep_q W b s L' f0 a t ha ht h1 hf (by omega)
 have HFc:Hid (∀ rs W,FV b w L s rs W→Calls Tryz.prog 34 #[.pointer (some ⟨b,0,none⟩),.int .i64 a,.int .i64 t] W fun e w'=>e = .returned (uV (s.fct a t))∧Below W.heap.size W w'):=fun rs W hW=>by
  obtain ⟨L',h1,_⟩:=hW.on
  exact rfct_q W b s L' f0 a t ha ht h1 hf (by omega)
 have HO:Hid (∀ rs W,FV b w L s rs W→Calls Tryz.prog 90 #[] W fun e w'=>e = .returned (uV oneW)∧FV b w L s rs w'):=fun rs W hW=>QV.reads hW fun _ _=>rone_any W
 have HW:Hid (∀ rs W,FV b w L s rs W→Calls Tryz.prog 36 #[.pointer (some ⟨b,0,none⟩),.int .i64 a,.int .i64 t,uV oneW] W fun e w'=>e = .returned (uV (worthW (s.dep a t) (s.fct a t) oneW))∧FV b w L s rs w'):=fun rs W hW=>QV.reads hW fun L' h1=>rworth_q W b s L' f0 a t oneW ha ht one_ok h1 hf (by omega)
 have HMv:Hid (∀ W,Calls Tryz.prog 150 #[uV (s.dep a t),uV (s.fct a t),uV m] W fun e w'=>e = .returned (.tuple #[uV (moveW (s.dep a t) (s.fct a t) m),.bool (moveB (s.dep a t) (s.fct a t) m)])∧Below W.heap.size W w'):=rfmove_any _ _ m (amt_ok _ _) (fct_ok _ _ _) hmo
 have HP0:Hid (∀ W,Calls Tryz.prog 91 #[.int .i64 0,.int .i64 t] W fun e w'=>e = .returned (.string (keyL 12 [0,t]))∧Below W.heap.size W w'):=rpart_any 0 t (by decide) ht
 have HP1:Hid (∀ W,Calls Tryz.prog 91 #[.int .i64 o,.int .i64 t] W fun e w'=>e = .returned (.string (keyL 12 [o,t]))∧Below W.heap.size W w'):=rpart_any o t ho ht
 have HS:Hid (∀ rs W,FV b w L s rs W→Calls Tryz.prog 151 #[.pointer (some ⟨b,0,none⟩),.string (keyL 12 [0,t]),.string (keyL 12 [o,t]),uV (worthW (s.dep a t) (s.fct a t) oneW)] W fun e W'=>e = .returned (.int .i64 (moveE s (keyL 12 [0,t]) (keyL 12 [o,t]) (worthW (s.dep a t) (s.fct a t) oneW)))∧FV b w L (H1.moveSt s (keyL 12 [0,t]) (keyL 12 [o,t]) (worthW (s.dep a t) (s.fct a t) oneW)) rs W'):=fun rs W hW=>QV.call hW fun L' h1=>rcMove_q W b L' s f0 _ _ _ (worthW_ok _ _ _) h1 hf (by omega)
 have hfs:(H1.moveSt s (keyL 12 [0,t]) (keyL 12 [o,t]) (worthW (s.dep a t) (s.fct a t) oneW)).Fit (f0+4):=by
  unfold Hand.moveSt; split
  ·have h1:(H1.st s (s.setAmt (keyL 12 [0,t]) (subW (s.amt (keyL 12 [0,t])) (worthW (s.dep a t) (s.fct a t) oneW)))).Fit (f0+2):=Hand.st_fit (hf.mono (by omega)) (hf.setAmt _ _)
   exact Hand.st_fit (h1.mono (by omega)) (h1.setAmt _ _)
  ·exact hf.mono (by omega)
 have HWR:Hid (∀ rs W,FV b w L (H1.moveSt s (keyL 12 [0,t]) (keyL 12 [o,t]) (worthW (s.dep a t) (s.fct a t) oneW)) rs W→Calls Tryz.prog 146 #[.pointer (some ⟨b,0,none⟩),.int .i64 a,.int .i64 t,uV (s.dep a t),uV (moveW (s.dep a t) (s.fct a t) m)] W fun e W'=>e = .returned (.tuple #[])∧FV b w L (H1.wr (H1.moveSt s (keyL 12 [0,t]) (keyL 12 [o,t]) (worthW (s.dep a t) (s.fct a t) oneW)) a t (s.dep a t) (moveW (s.dep a t) (s.fct a t) m)) rs W'):=fun rs W hW=>QV.call hW fun L' h1=>rset_q W b L' _ (f0+4) a t _ _ ha ht h1 hfs (by omega)
 have HL:=Lib.hid (shift_law H1 s a o t m)
 have HMC:=Lib.hid (moveE_cases s (keyL 12 [0,t]) (keyL 12 [o,t]) (worthW (s.dep a t) (s.fct a t) oneW))
 have HB:=Lib.hid hB
 generalize H1.shiftSt s a o t m=sx at *
 generalize H1.wr (H1.moveSt s (keyL 12 [0,t]) (keyL 12 [o,t]) (worthW (s.dep a t) (s.fct a t) oneW)) a t (s.dep a t) (moveW (s.dep a t) (s.fct a t) m)=s3 at *
 generalize H1.moveSt s (keyL 12 [0,t]) (keyL 12 [o,t]) (worthW (s.dep a t) (s.fct a t) oneW)=s2 at *
 generalize shiftE s a o t m=te at *
 generalize shiftW s a o t m=tw at *
 generalize moveE s (keyL 12 [0,t]) (keyL 12 [o,t]) (worthW (s.dep a t) (s.fct a t) oneW)=me at *
 generalize worthW (s.dep a t) (s.fct a t) oneW=u at *
 generalize moveB (s.dep a t) (s.fct a t) m=mb at *
 generalize moveW (s.dep a t) (s.fct a t) m=mw at *
 generalize s.dep a t=d at *
 generalize s.fct a t=fc at *
 generalize keyL 12 [0,t]=k0 at *
 generalize keyL 12 [o,t]=k1 at *
 generalize oneW=ow at *
 clear hB hq hf hfs
 go_enter Tryz.func83,Tryz.ntmps83
 go_wp2_with fail
 refine Calls.mono (HDp.out _ _ HB.out) ?_
 rintro e w3 ⟨rfl,hB3⟩
 have hB4:=hB3.alloc (uO d)
 clear hB3 HB HDp
 go_upto_region 2 with fail
 generalize w3.alloc (uO d)=w4 at *
 generalize w3.heap.size=g1 at *
 by_cases ho1:o < 1
 ·obtain ⟨h1,h2,h3⟩:=HL.out.1 ho1
  subst h1 h2 h3
  have hd1:decide (o < 1)=true:=decide_eq_true ho1
  clear HMv HP0 HP1 HS HWR HMC HW HO HFc
  have hz:=hB4.u4 (g:=w.heap.size+1) (x:=(0,0,0,0)) (by simp)
  obtain ⟨z0,z1,z2,z3,z4,z5,z6,z7⟩:=row4 hz
  have HZ:=Lib.hid (put4 hz (0,0,0,0))
  have HD2:=Lib.hid (FV.done (hB4.put4 (g:=w.heap.size+1) (y:=(0,0,0,0)) (0,0,0,0) (by simp) [] (fun _ hx=>by cases hx)))
  clear hz hB4 HL
  go_wp2_with fail
  refine bodyPost_ret (results_cell_row2 rfl _ _ (w.heap.size+1) 28 (uL (0,0,0,0)) (0,0) _ rfl HZ.out Tryz.underlying28 rfl (by kernel_rfl)) rfl ?_
  exact ⟨rfl,HD2.out⟩
 ·have hd1:decide (o < 1)=false:=decide_eq_false ho1
  have HO1:=Lib.hid (Int.not_lt.1 ho1)
  clear ho1
  obtain ⟨d0,d1,d2,d3,_⟩:=row4 (hB4.u4 (g:=g1) (x:=d) (by simp))
  obtain ⟨m0,m1,m2,m3,_⟩:=row4 (hB4.u4 (g:=w.heap.size) (x:=m) (by simp))
  by_cases hd0:d=(0,0,0,0)
  ·obtain ⟨h1,h2,h3⟩:=HL.out.2.1 HO1.out hd0
   subst h1 h2 h3
   have hE:∀ w,(Op.equalIn 10000 28 (uV d) (.agg #[.int .u64 0,.int .u64 0,.int .u64 0,.int .u64 0])).run Tryz.prog w = .ok true w:=fun w=>by
    have:=eqU d (0,0,0,0) w
    rwa [decide_eq_true hd0] at this
   clear HMv HP0 HP1 HS HWR HMC HW HO HFc hd0
   have hz:=hB4.u4 (g:=w.heap.size+1) (x:=(0,0,0,0)) (by simp)
   obtain ⟨z0,z1,z2,z3,z4,z5,z6,z7⟩:=row4 hz
   have HZ:=Lib.hid (put4 hz (0,0,0,0))
   have HD2:=Lib.hid (FV.done (hB4.put4 (g:=w.heap.size+1) (y:=(0,0,0,0)) (0,0,0,0) (by simp) [] (fun _ hx=>by cases hx)))
   clear hz hB4 HL
   go_wp2_with fail
   refine bodyPost_ret (results_cell_row2 rfl _ _ (w.heap.size+1) 28 (uL (0,0,0,0)) (0,0) _ rfl HZ.out Tryz.underlying28 rfl (by kernel_rfl)) rfl ?_
   exact ⟨rfl,HD2.out⟩
  ·have hE:∀ w,(Op.equalIn 10000 28 (uV d) (.agg #[.int .u64 0,.int .u64 0,.int .u64 0,.int .u64 0])).run Tryz.prog w = .ok false w:=fun w=>by
    have:=eqU d (0,0,0,0) w
    rwa [decide_eq_false hd0] at this
   have HD0:=Lib.hid hd0
   clear hd0
   by_cases hm0:m=(0,0,0,0)
   ·obtain ⟨h1,h2,h3⟩:=HL.out.2.2.1 HO1.out HD0.out hm0
    subst h1 h2 h3
    have hEm:∀ w,(Op.equalIn 10000 28 (uV m) (.agg #[.int .u64 0,.int .u64 0,.int .u64 0,.int .u64 0])).run Tryz.prog w = .ok true w:=fun w=>by
     have:=eqU m (0,0,0,0) w
     rwa [decide_eq_true hm0] at this
    clear HMv HP0 HP1 HS HWR HMC HW HO HFc hm0
    have hz:=hB4.u4 (g:=w.heap.size+1) (x:=(0,0,0,0)) (by simp)
    obtain ⟨z0,z1,z2,z3,z4,z5,z6,z7⟩:=row4 hz
    have HZ:=Lib.hid (put4 hz (0,0,0,0))
    have HD2:=Lib.hid (FV.done (hB4.put4 (g:=w.heap.size+1) (y:=(0,0,0,0)) (0,0,0,0) (by simp) [] (fun _ hx=>by cases hx)))
    clear hz hB4 HL
    go_wp2_with fail
    refine bodyPost_ret (results_cell_row2 rfl _ _ (w.heap.size+1) 28 (uL (0,0,0,0)) (0,0) _ rfl HZ.out Tryz.underlying28 rfl (by kernel_rfl)) rfl ?_
    exact ⟨rfl,HD2.out⟩
   ·have hEm:∀ w,(Op.equalIn 10000 28 (uV m) (.agg #[.int .u64 0,.int .u64 0,.int .u64 0,.int .u64 0])).run Tryz.prog w = .ok false w:=fun w=>by
     have:=eqU m (0,0,0,0) w
     rwa [decide_eq_false hm0] at this
    have HM0:=Lib.hid hm0
    have HB4:=Lib.hid hB4
    clear hm0 hB4
    go_wp2_with fail
    refine Calls.mono (HO.out _ _ HB4.out) ?_
    rintro e w5 ⟨rfl,hB5⟩
    have HB5:=Lib.hid hB5
    clear hB5 HB4 HO hE hEm d0 d1 d2 d3 m0 m1 m2 m3
    go_wp2_with fail
    refine Calls.mono (HW.out _ _ HB5.out) ?_
    rintro e w6 ⟨rfl,hB6⟩
    have hB7:=hB6.alloc (uO u)
    clear hB6 HB5 HW
    go_upto_region 9 with fail
    generalize w6.alloc (uO u)=w7 at *
    generalize w6.heap.size=g2 at *
    have HQ:=Lib.hid hB7
    have HF:Hid (∀ W,Below w7.heap.size w7 W→Calls Tryz.prog 34 #[.pointer (some ⟨b,0,none⟩),.int .i64 a,.int .i64 t] W fun e w'=>e = .returned (uV fc)∧Below W.heap.size W w'):=fun W hW=>HFc.out _ W (hB7.below hW)
    have HB0:=Lib.hid (bl_drew (Below.refl w7.heap.size w7))
    clear hB7 HFc
    refine wp_region_rely [[],[],[],[],[1,2,3],[],[0,1,2,3,4,5],[0,1,2,3,4,5,6],[0,1,2,3,4,5,6,7],[0,1,2,3,4,5,6,7],[],[0,1,2,3,4,5,6,7,8,10],[0,1,2,3,4,5,6,7,8,9,10,11]]
     [rgC (Below w7.heap.size w7),rgV 0 (uV d),rgV 1 (.pointer (some ⟨b,0,none⟩)),rgV 2 (.int .i64 a),rgV 3 (.int .i64 t),rgV 4 (uV fc),rgV 5 (uV m),rgV 6 (.tuple #[uV mw,.bool mb]),rgV 7 (.tuple #[uV mw,.bool mb]),rgV 8 (uV mw),rgV 9 (.bool mb),rgP 10 (w7.heap.size),rgV 12 (.bool mb),rgS 10 11 (mw)] _ (by kernel_rfl) (by kernel_rfl) (by kernel_rfl)
     (fun vs=>by simp only [rgAct,rgPut,List.setIfInBounds_toArray,List.set_cons_zero,List.set_cons_succ]; exact rfl)
     ⟨fun _ _ _ hb h=>bl_then h hb,rgV_st,rgV_st,rgV_st,rgV_st,rgV_st,rgV_st,rgV_st,rgV_st,rgV_st,rgV_st,rgP_st,rgV_st,rgS_st,trivial⟩ ?_ ?_ ?_
    ·refine rgAll_yes rfl HB0.out ?_
     iterate 13 refine rgAll_no rfl ?_
     exact trivial
    ·refine ⟨?_,?_,?_,?_,?_,?_,?_,?_,?_,?_,?_,?_,?_,trivial⟩
     ·rintro vs w1 ⟨hC,_⟩ K hK
      refine rg_loadU rfl rfl rfl ((HQ.out.below hC).u4 (x:=d) (by simp)) (hK _ _ (.inl (Below.refl _ _)) ?_)
      exact rgNew_one 1 rfl fun _=>rfl
     ·rintro vs w1 ⟨_,_⟩ K hK
      refine rg_move rfl (.inl rfl) rfl (hK _ _ (.inl (Below.refl _ _)) ?_)
      exact rgNew_one 2 rfl fun _=>rfl
     ·rintro vs w1 ⟨_,_⟩ K hK
      refine rg_move rfl (.inl rfl) rfl (hK _ _ (.inl (Below.refl _ _)) ?_)
      exact rgNew_one 3 rfl fun _=>rfl
     ·rintro vs w1 ⟨_,_⟩ K hK
      refine rg_move rfl (.inl rfl) rfl (hK _ _ (.inl (Below.refl _ _)) ?_)
      exact rgNew_one 4 rfl fun _=>rfl
     ·rintro vs w1 ⟨hC,e1,e2,e3,_⟩ K hK
      refine rg_fn rfl rfl rfl (by kernel_rfl) (show [vs 1,vs 2,vs 3]=_ from by rw [rg1 e1,rg1 e2,rg1 e3]) (Calls.mono (HF.out _ hC) ?_)
      rintro e w2 ⟨rfl,hb⟩
      refine ⟨_,rfl,hK _ _ (.inl hb) ?_⟩
      exact rgNew_one 5 rfl fun _=>rfl
     ·rintro vs w1 ⟨hC,_⟩ K hK
      refine rg_loadU rfl rfl rfl ((HQ.out.below hC).u4 (x:=m) (by simp)) (hK _ _ (.inl (Below.refl _ _)) ?_)
      exact rgNew_one 6 rfl fun _=>rfl
     ·rintro vs w1 ⟨_,e0,_,_,_,e4,e5,_⟩ K hK
      refine rg_fn rfl rfl rfl (by kernel_rfl) (show [vs 0,vs 4,vs 5]=_ from by rw [rg1 e0,rg1 e4,rg1 e5]) (Calls.mono (HMv.out _) ?_)
      rintro e w2 ⟨rfl,hb⟩
      refine ⟨_,rfl,hK _ _ (.inl hb) ?_⟩
      exact rgNew_one 7 rfl fun _=>rfl
     ·rintro vs w1 ⟨_,_,_,_,_,_,_,e6,_⟩ K hK
      refine rg_move rfl (.inl rfl) (rg1 e6) (hK _ _ (.inl (Below.refl _ _)) ?_)
      exact rgNew_one 8 rfl fun _=>rfl
     ·rintro vs w1 ⟨_,_,_,_,_,_,_,_,e7,_⟩ K hK
      refine rg_extract rfl rfl (rg1 e7) rfl (hK _ _ (.inl (Below.refl _ _)) ?_)
      exact rgNew_one 9 rfl fun _=>rfl
     ·rintro vs w1 ⟨_,_,_,_,_,_,_,_,e7,_⟩ K hK
      refine rg_extract rfl rfl (rg1 e7) rfl (hK _ _ (.inl (Below.refl _ _)) ?_)
      exact rgNew_one 10 rfl fun _=>rfl
     ·rintro vs w1 ⟨hC,_⟩ K hK
      refine rg_allocU rfl rfl (hK _ _ (.inl (bl_alloc (Below.refl _ _) _)) ?_)
      iterate 11 refine rgNew_no rfl ?_
      refine rgNew_yes rfl (fun _=>⟨_,_,rfl,hC.size,heap_alloc_new _ _⟩) ?_
      iterate 2 refine rgNew_no rfl ?_
      exact trivial
     ·rintro vs w1 ⟨hC,_,_,_,_,_,_,_,_,e8,⟨_,_,e10,h10,g10⟩,_⟩ K hK
      refine rg_storeU rfl rfl (rg1 e10) (rg1 e8) g10 (hK _ _ (.inr ?_) ?_)
      ·refine rgStay_yes rfl (fun hC _=>bput hC h10) ?_
       iterate 10 refine rgStay_yes rfl (fun h _=>h) ?_
       refine rgStay_yes rfl (fun h _=>rgP_put h) ?_
       iterate 2 refine rgStay_no rfl ?_
       exact trivial
      ·iterate 13 refine rgNew_no rfl ?_
       refine rgNew_yes rfl (fun _=>⟨_,_,by show [vs 10,undef]=_; rw [rg1 e10],setRow_heap _ _ _ _ _ _ g10⟩) ?_
       exact trivial
     ·rintro vs w1 ⟨_,_,_,_,_,_,_,_,_,_,e9,_,_,_⟩ K hK
      refine rg_move rfl (.inr rfl) (rg1 e9) (hK _ _ (.inl (Below.refl _ _)) ?_)
      exact rgNew_one 12 rfl fun _=>rfl
    ·intro vs w1 hA
     obtain ⟨hC,e0,e1,e2,e3,e4,e5,e6,e7,e8,e9,⟨p10,_,e10,h10,g10⟩,e12,s11,_⟩:=hA
     have e0:=rg1 e0
     have e1:=rg1 e1
     have e2:=rg1 e2
     have e3:=rg1 e3
     have e4:=rg1 e4
     have e5:=rg1 e5
     have e6:=rg1 e6
     have e7:=rg1 e7
     have e8:=rg1 e8
     have e9:=rg1 e9
     have e10:=rg1 e10
     have e12:=rg1 e12
     have s11:=rgS_at s11 e10
     simp only [e0,e1,e2,e3,e4,e5,e6,e7,e8,e9,e10,e12]
     have hB7:=HQ.out.add1 hC h10 s11
     clear e0 e1 e2 e3 e4 e5 e6 e7 e8 e9 e12 g10 s11 h10 hC HF HMv HB0 HQ
     cases mb with
     | false =>
      obtain ⟨h1,h2,h3⟩:=HL.out.2.2.2.1 HO1.out HD0.out HM0.out (by trivial)
      subst h1 h2 h3
      clear HP0 HP1 HS HWR HMC
      have hz:=hB7.u4 (g:=w.heap.size+1) (x:=(0,0,0,0)) (by simp)
      obtain ⟨z0,z1,z2,z3,z4,z5,z6,z7⟩:=row4 hz
      have HZ:=Lib.hid (put4 hz (0,0,0,0))
      have HD2:=Lib.hid (FV.done (hB7.put4 (g:=w.heap.size+1) (y:=(0,0,0,0)) (0,0,0,0) (by simp) [] (fun _ hx=>by cases hx)))
      clear hz hB7 HL
      go_wp2_with fail
      refine bodyPost_ret (results_cell_row2 rfl _ _ (w.heap.size+1) 28 (uL (0,0,0,0)) (0,0) _ rfl HZ.out Tryz.underlying28 rfl (by kernel_rfl)) rfl ?_
      exact ⟨rfl,HD2.out⟩
     | true =>
      have HQ2:=Lib.hid hB7
      have HB1:=Lib.hid (bl_drew (Below.refl w1.heap.size w1))
      clear hB7
      go_wp2_with fail
      go_upto_region 12 with fail
      refine wp_region_rely_tail 7 [[],[],[1],[],[],[1,2,3,4],[],[0,1,2,3,4,5,6],[0,1,2,3,4,5,6,7]]
       [rgC (Below w1.heap.size w1),rgV 0 (.pointer (some ⟨b,0,none⟩)),rgV 1 (.int .i64 t),rgV 2 (.string k0),rgV 3 (.int .i64 o),rgV 4 (.int .i64 t),rgV 5 (.string k1),rgV 6 (uV u)] _ (by kernel_rfl) (by kernel_rfl) (by decide) (by kernel_rfl) (by kernel_rfl)
       (fun vs=>by simp only [rgAct,rgPut,List.setIfInBounds_toArray,List.set_cons_zero,List.set_cons_succ]; exact rfl)
       ⟨fun _ _ _ hb h=>bl_then h hb,rgV_st,rgV_st,rgV_st,rgV_st,rgV_st,rgV_st,rgV_st,trivial⟩ ?_ ?_ ?_
      ·refine rgAll_yes rfl HB1.out ?_
       iterate 7 refine rgAll_no rfl ?_
       exact trivial
      ·refine ⟨?_,?_,?_,?_,?_,?_,?_,trivial⟩
       ·rintro vs w1 ⟨_,_⟩ K hK
        refine rg_move rfl (.inl rfl) rfl (hK _ _ (.inl (Below.refl _ _)) ?_)
        exact rgNew_one 1 rfl fun _=>rfl
       ·rintro vs w1 ⟨_,_⟩ K hK
        refine rg_move rfl (.inl rfl) rfl (hK _ _ (.inl (Below.refl _ _)) ?_)
        exact rgNew_one 2 rfl fun _=>rfl
       ·rintro vs w1 ⟨_,e1,_⟩ K hK
        refine rg_fn rfl rfl rfl (by kernel_rfl) (show [.int .i64 0,vs 1]=_ from by rw [rg1 e1]) (Calls.mono (HP0.out _) ?_)
        rintro e w2 ⟨rfl,hb⟩
        refine ⟨_,rfl,hK _ _ (.inl hb) ?_⟩
        exact rgNew_one 3 rfl fun _=>rfl
       ·rintro vs w1 ⟨_,_⟩ K hK
        refine rg_move rfl (.inl rfl) rfl (hK _ _ (.inl (Below.refl _ _)) ?_)
        exact rgNew_one 4 rfl fun _=>rfl
       ·rintro vs w1 ⟨_,_⟩ K hK
        refine rg_move rfl (.inl rfl) rfl (hK _ _ (.inl (Below.refl _ _)) ?_)
        exact rgNew_one 5 rfl fun _=>rfl
       ·rintro vs w1 ⟨_,_,_,e3,e4,_⟩ K hK
        refine rg_fn rfl rfl rfl (by kernel_rfl) (show [vs 3,vs 4]=_ from by rw [rg1 e3,rg1 e4]) (Calls.mono (HP1.out _) ?_)
        rintro e w2 ⟨rfl,hb⟩
        refine ⟨_,rfl,hK _ _ (.inl hb) ?_⟩
        exact rgNew_one 6 rfl fun _=>rfl
       ·rintro vs w1 ⟨hC,_⟩ K hK
        refine rg_loadU rfl rfl rfl ((HQ2.out.below hC).u4 (x:=u) (by simp)) (hK _ _ (.inl (Below.refl _ _)) ?_)
        exact rgNew_one 7 rfl fun _=>rfl
      ·intro vs w1 hA
       obtain ⟨hC,e0,e1,e2,e3,e4,e5,e6,_⟩:=hA
       have e0:=rg1 e0
       have e1:=rg1 e1
       have e2:=rg1 e2
       have e3:=rg1 e3
       have e4:=rg1 e4
       have e5:=rg1 e5
       have e6:=rg1 e6
       refine rgTail_cons ?_
       refine rg_fn rfl rfl rfl (by kernel_rfl) (show [vs 0,vs 2,vs 5,vs 6]=_ from by rw [e0,e2,e5,e6]) (Calls.mono (HS.out _ _ (HQ2.out.below hC)) ?_)
       rintro e w2 ⟨rfl,hq2⟩
       refine ⟨_,rfl,?_⟩
       refine rgTail_cons ?_
       refine rg_move rfl (.inr rfl) rfl ?_
       refine rgTail_nil ?_
       simp only [rgSet,Nat.reduceEqDiff,↓reduceIte,e0,e1,e2,e3,e4,e5,e6]
       clear e0 e1 e2 e3 e4 e5 e6 hC HP0 HP1 HS HB1 HQ2
       rcases HMC.out with rfl | rfl | rfl
       ·obtain ⟨h1,h2,h3⟩:=HL.out.2.2.2.2.2 HO1.out HD0.out HM0.out (by trivial) (by trivial)
        have h2':=h2.symm
        have h3':=h3.symm
        subst h1 h2' h3'
        obtain ⟨r0,r1,r2,r3,_⟩:=row4 (hq2.u4 (g:=p10) (x:=mw) (by simp))
        obtain ⟨d0,d1,d2,d3,_⟩:=row4 (hq2.u4 (g:=g1) (x:=d) (by simp))
        have HQ3:=Lib.hid hq2
        clear hq2 HL HMC
        go_wp2_with fail
        refine Calls.mono (HWR.out _ _ HQ3.out) ?_
        rintro e w9 ⟨rfl,hB9⟩
        clear r0 r1 r2 r3 d0 d1 d2 d3 HQ3 HWR
        have hz:=hB9.u4 (g:=w.heap.size+1) (x:=(0,0,0,0)) (by simp)
        obtain ⟨z0,z1,z2,z3,z4,z5,z6,z7⟩:=row4 hz
        obtain ⟨u0,u1,u2,u3,_⟩:=row4 (hB9.u4 (g:=g2) (x:=u) (by simp))
        have HZ:=Lib.hid (put4 hz u)
        have HD2:=Lib.hid (FV.done (hB9.put4 (g:=w.heap.size+1) (y:=(0,0,0,0)) u (by simp) [] (fun _ hx=>by cases hx)))
        clear hz hB9
        go_wp2_with fail
        refine bodyPost_ret (results_cell_row2 rfl _ _ (w.heap.size+1) 28 (uL u) (0,0) _ rfl HZ.out Tryz.underlying28 rfl (by kernel_rfl)) rfl ?_
        exact ⟨rfl,HD2.out⟩
       ·obtain ⟨h1,h2,h3,h4⟩:=HL.out.2.2.2.2.1 6 (by decide) HO1.out HD0.out HM0.out (by trivial) (by trivial)
        subst h1 h2 h3 h4
        clear HWR HMC
        have hz:=hq2.u4 (g:=w.heap.size+1) (x:=(0,0,0,0)) (by simp)
        obtain ⟨z0,z1,z2,z3,z4,z5,z6,z7⟩:=row4 hz
        have HZ:=Lib.hid (put4 hz (0,0,0,0))
        have HD2:=Lib.hid (FV.done (hq2.put4 (g:=w.heap.size+1) (y:=(0,0,0,0)) (0,0,0,0) (by simp) [] (fun _ hx=>by cases hx)))
        clear hz hq2 HL
        go_wp2_with fail
        refine bodyPost_ret (results_cell_row2 rfl _ _ (w.heap.size+1) 28 (uL (0,0,0,0)) (0,0) _ rfl HZ.out Tryz.underlying28 rfl (by kernel_rfl)) rfl ?_
        exact ⟨rfl,HD2.out⟩
       ·obtain ⟨h1,h2,h3,h4⟩:=HL.out.2.2.2.2.1 13 (by decide) HO1.out HD0.out HM0.out (by trivial) (by trivial)
        subst h1 h2 h3 h4
        clear HWR HMC
        have hz:=hq2.u4 (g:=w.heap.size+1) (x:=(0,0,0,0)) (by simp)
        obtain ⟨z0,z1,z2,z3,z4,z5,z6,z7⟩:=row4 hz
        have HZ:=Lib.hid (put4 hz (0,0,0,0))
        have HD2:=Lib.hid (FV.done (hq2.put4 (g:=w.heap.size+1) (y:=(0,0,0,0)) (0,0,0,0) (by simp) [] (fun _ hx=>by cases hx)))
        clear hz hq2 HL
        go_wp2_with fail
        refine bodyPost_ret (results_cell_row2 rfl _ _ (w.heap.size+1) 28 (uL (0,0,0,0)) (0,0) _ rfl HZ.out Tryz.underlying28 rfl (by kernel_rfl)) rfl ?_
        exact ⟨rfl,HD2.out⟩
end Go.Proofs.YtpojljieakdgiaaGreat
