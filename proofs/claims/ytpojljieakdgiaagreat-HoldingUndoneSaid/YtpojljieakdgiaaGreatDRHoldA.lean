/- What is proved here: the reference's holdings, read: Deposit, Factor, part, Part, Worth. Their conditions: sizes. the reference's holdings: Worth, set. Their conditions: sizes. -/
import Derived.Test.YtpojljieakdgiaaGreatDRCellM
import Derived.Test.YtpojljieakdgiaaGreatDRFacG
set_option maxRecDepth 100000
set_option maxHeartbeats 16000000
namespace Go.Proofs.YtpojljieakdgiaaGreat
open Go.RowKit
theorem rkey2_any (t:Nat) (ht1:1≤t) (ht2:t≤255) (a b:Int) (ha:I63 a) (hb:I63 b) (W:World):Calls Tryz.prog 89 #[.int .i64 t,.slice (some ⟨W.heap.size,0,none⟩) 2 2] (W.alloc (iRow a b)) fun e w'=>e = .returned (.string (keyL t [a,b]))∧Below W.heap.size W w' :=
 (rkey_any t ht1 ht2 _ [a,b] _ (two_ints W a b) (by simp) (fun n hn=>by
  simp only [List.mem_cons,List.not_mem_nil,or_false] at hn
  rcases hn with rfl | rfl
  ·exact ha
  ·exact hb)).mono fun e w' ⟨he,hb⟩=>⟨he,bl_then (bl_alloc (Below.refl _ W) _) hb⟩
theorem rpart_any (o t:Int) (ho:I63 o) (ht:I63 t) (w:World):Calls Tryz.prog 91 #[.int .i64 o,.int .i64 t] w fun e w'=>e = .returned (.string (keyL 12 [o,t]))∧Below w.heap.size w w':=by
 have HK:Hid (Calls Tryz.prog 89 #[.int .i64 12,.slice (some ⟨w.heap.size,0,none⟩) 2 2] (w.alloc (iRow o t)) fun e w'=>e = .returned (.string (keyL 12 [o,t]))∧Below w.heap.size w w'):=rkey2_any 12 (by decide) (by decide) o t ho ht w
 go_enter Tryz.func91,Tryz.ntmps91
 go_wp2_with fail
 refine Calls.mono HK.out ?_
 rintro e w1 ⟨rfl,hb⟩
 have HB:=Lib.hid hb
 clear hb HK
 go_wp2_with fail
 go_ret
 exact ⟨rfl,HB.out⟩
theorem BV.key {w:World} (t:Nat) (ht1:1≤t) (ht2:t≤255) (a b:Int) (ha:I63 a) (hb:I63 b):Hid (∀ rs W,BV w rs W→Calls Tryz.prog 89 #[.int .i64 t,.slice (some ⟨W.heap.size,0,none⟩) 2 2] (W.alloc (iRow a b)) fun e w'=>e = .returned (.string (keyL t [a,b]))∧BV w rs w') :=
 fun _ W hW=>(rkey2_any t ht1 ht2 a b ha hb W).mono fun _ _ ⟨he,hb⟩=>⟨he,hW.below hb⟩
theorem BV.ramt {w:World} (b:Nat) (s:St) (L:List Nat) (f:Nat) (k:ByteArray) (hq:RRep w b s L) (hf:s.Fit f) (hm:f < 100000000000):Hid (∀ rs W,BV w rs W→Calls Tryz.prog 88 #[.pointer (some ⟨b,0,none⟩),.string k] W fun e w'=>e = .returned (uV (s.amt k))∧BV w rs w') :=
 fun _ W hW=>hW.reads (ramt_any W b s L k (hq.below hW.bl) (by have:=hf.size; unfold St.size at this; omega))
theorem rdep_q (w:World) (b:Nat) (s:St) (L:List Nat) (f:Nat) (a t:Int) (ha:I63 a) (ht:I63 t) (hq:RRep w b s L) (hf:s.Fit f) (hm:f < 100000000000) :
  Calls Tryz.prog 33 #[.pointer (some ⟨b,0,none⟩),.int .i64 a,.int .i64 t] w fun e w'=>e = .returned (uV (s.dep a t))∧Below w.heap.size w w':=by
 have HB:=Lib.hid ((BV.start w).alloc zO)
 have HK:Hid (∀ rs W,BV w rs W→Calls Tryz.prog 89 #[.int .i64 10,.slice (some ⟨W.heap.size,0,none⟩) 2 2] (W.alloc (iRow a t)) fun e w'=>e = .returned (.string (keyL 10 [a,t]))∧BV w rs w'):=BV.key 10 (by decide) (by decide) a t ha ht
 have HA:=BV.ramt b s L f (keyL 10 [a,t]) hq hf hm
 unfold St.dep
 generalize s.amt (keyL 10 [a,t])=u at *
 generalize keyL 10 [a,t]=kk at *
 clear hq hf
 have hK:=HK.out _ _ HB.out
 rw [World.size_alloc] at hK
 have HK:=Lib.hid hK
 clear hK
 go_enter Tryz.func33,Tryz.ntmps33
 go_wp2_with fail
 refine Calls.mono HK.out ?_
 rintro e w2 ⟨rfl,hB2⟩
 have HB2:=Lib.hid hB2
 clear hB2 HB HK
 go_wp2_with fail
 refine Calls.mono (HA.out _ _ HB2.out) ?_
 rintro e w3 ⟨rfl,hB3⟩
 have hz:=hB3.u4 (g:=w.heap.size) (x:=(0,0,0,0)) (by simp)
 obtain ⟨z0,z1,z2,z3,z4,z5,z6,z7⟩:=row4 hz
 have HZ:=Lib.hid (put4 hz u)
 have HB:=Lib.hid (put4_below (BV.bl hB3) (Nat.le_refl w.heap.size) (.int .u64 u.1) (.int .u64 u.2.1) (.int .u64 u.2.2.1) (.int .u64 u.2.2.2))
 clear hz hB3 HB2 HA
 go_wp2_with fail
 refine bodyPost_ret (results_cell_row rfl _ _ w.heap.size 28 (uL u) (0,0) _ rfl HZ.out Tryz.underlying28 rfl (by kernel_rfl)) rfl ?_
 exact ⟨rfl,HB.out⟩
theorem rprt_q (w:World) (b:Nat) (s:St) (L:List Nat) (f:Nat) (o t:Int) (ho:I63 o) (ht:I63 t) (hq:RRep w b s L) (hf:s.Fit f) (hm:f < 100000000000) :
  Calls Tryz.prog 35 #[.pointer (some ⟨b,0,none⟩),.int .i64 o,.int .i64 t] w fun e w'=>e = .returned (uV (s.prt o t))∧Below w.heap.size w w':=by
 have HB:=Lib.hid ((BV.start w).alloc zO)
 have HK:Hid (∀ rs W,BV w rs W→Calls Tryz.prog 91 #[.int .i64 o,.int .i64 t] W fun e w'=>e = .returned (.string (keyL 12 [o,t]))∧BV w rs w'):=fun _ W hW=>hW.reads (rpart_any o t ho ht W)
 have HA:=BV.ramt b s L f (keyL 12 [o,t]) hq hf hm
 unfold St.prt
 generalize s.amt (keyL 12 [o,t])=u at *
 generalize keyL 12 [o,t]=kk at *
 clear hq hf
 go_enter Tryz.func35,Tryz.ntmps35
 go_wp2_with fail
 refine Calls.mono (HK.out _ _ HB.out) ?_
 rintro e w2 ⟨rfl,hB2⟩
 have HB2:=Lib.hid hB2
 clear hB2 HB HK
 go_wp2_with fail
 refine Calls.mono (HA.out _ _ HB2.out) ?_
 rintro e w3 ⟨rfl,hB3⟩
 have hz:=hB3.u4 (g:=w.heap.size) (x:=(0,0,0,0)) (by simp)
 obtain ⟨z0,z1,z2,z3,z4,z5,z6,z7⟩:=row4 hz
 have HZ:=Lib.hid (put4 hz u)
 have HB:=Lib.hid (put4_below (BV.bl hB3) (Nat.le_refl w.heap.size) (.int .u64 u.1) (.int .u64 u.2.1) (.int .u64 u.2.2.1) (.int .u64 u.2.2.2))
 clear hz hB3 HB2 HA
 go_wp2_with fail
 refine bodyPost_ret (results_cell_row rfl _ _ w.heap.size 28 (uL u) (0,0) _ rfl HZ.out Tryz.underlying28 rfl (by kernel_rfl)) rfl ?_
 exact ⟨rfl,HB.out⟩
theorem rfct_q (w:World) (b:Nat) (s:St) (L:List Nat) (f:Nat) (a t:Int) (ha:I63 a) (ht:I63 t) (hq:RRep w b s L) (hf:s.Fit f) (hm:f < 100000000000) :
  Calls Tryz.prog 34 #[.pointer (some ⟨b,0,none⟩),.int .i64 a,.int .i64 t] w fun e w'=>e = .returned (uV (s.fct a t))∧Below w.heap.size w w':=by
 have HB:=Lib.hid ((BV.start w).alloc zO)
 have HK:Hid (∀ rs W,BV w rs W→Calls Tryz.prog 89 #[.int .i64 11,.slice (some ⟨W.heap.size,0,none⟩) 2 2] (W.alloc (iRow a t)) fun e w'=>e = .returned (.string (keyL 11 [a,t]))∧BV w rs w'):=BV.key 11 (by decide) (by decide) a t ha ht
 have HA:=BV.ramt b s L f (keyL 11 [a,t]) hq hf hm
 have HO:Hid (∀ rs W,BV w rs W→Calls Tryz.prog 90 #[] W fun e w'=>e = .returned (uV oneW)∧BV w rs w'):=fun _ W hW=>hW.reads (rone_any W)
 have HF:Hid (s.fct a t=if s.amt (keyL 11 [a,t])=(0,0,0,0) then oneW else s.amt (keyL 11 [a,t])):=rfl
 generalize s.fct a t=r at *
 generalize s.amt (keyL 11 [a,t])=u at *
 generalize keyL 11 [a,t]=kk at *
 generalize oneW=ow at *
 clear hq hf
 have hK:=HK.out _ _ HB.out
 rw [World.size_alloc] at hK
 have HK:=Lib.hid hK
 clear hK
 go_enter Tryz.func34,Tryz.ntmps34
 go_wp2_with fail
 refine Calls.mono HK.out ?_
 rintro e w2 ⟨rfl,hB2⟩
 have HB2:=Lib.hid hB2
 clear hB2 HB HK
 go_wp2_with fail
 refine Calls.mono (HA.out _ _ HB2.out) ?_
 rintro e w3 ⟨rfl,hB3⟩
 have hB4:=hB3.alloc (uO u)
 clear hB3 HB2 HA
 go_upto_region 2 with fail
 generalize w3.alloc (uO u)=w4 at *
 generalize w3.heap.size=g at *
 obtain ⟨u0,u1,u2,u3,_⟩:=row4 (hB4.u4 (g:=g) (x:=u) (by simp))
 by_cases h0:u=(0,0,0,0)
 ·have hE:∀ w,(Op.equalIn 10000 28 (uV u) (.agg #[.int .u64 0,.int .u64 0,.int .u64 0,.int .u64 0])).run Tryz.prog w = .ok true w:=fun w=>by
   have:=eqU u (0,0,0,0) w
   rwa [decide_eq_true h0] at this
  have hr:r=ow:=by rw [HF.out,if_pos h0]
  subst hr
  have HB4:=Lib.hid hB4
  clear HF h0 hB4
  go_wp2_with fail
  refine Calls.mono (HO.out _ _ HB4.out) ?_
  rintro e w5 ⟨rfl,hB5⟩
  have hz:=hB5.u4 (g:=w.heap.size) (x:=(0,0,0,0)) (by simp)
  obtain ⟨z0,z1,z2,z3,z4,z5,z6,z7⟩:=row4 hz
  have HZ:=Lib.hid (put4 hz r)
  have HB:=Lib.hid (put4_below (BV.bl hB5) (Nat.le_refl w.heap.size) (.int .u64 r.1) (.int .u64 r.2.1) (.int .u64 r.2.2.1) (.int .u64 r.2.2.2))
  clear hz hB5 HB4 HO
  go_wp2_with fail
  refine bodyPost_ret (results_cell_row rfl _ _ w.heap.size 28 (uL r) (0,0) _ rfl HZ.out Tryz.underlying28 rfl (by kernel_rfl)) rfl ?_
  exact ⟨rfl,HB.out⟩
 ·have hE:∀ w,(Op.equalIn 10000 28 (uV u) (.agg #[.int .u64 0,.int .u64 0,.int .u64 0,.int .u64 0])).run Tryz.prog w = .ok false w:=fun w=>by
   have:=eqU u (0,0,0,0) w
   rwa [decide_eq_false h0] at this
  have hr:r=u:=by rw [HF.out,if_neg h0]
  subst hr
  have hz:=hB4.u4 (g:=w.heap.size) (x:=(0,0,0,0)) (by simp)
  obtain ⟨z0,z1,z2,z3,z4,z5,z6,z7⟩:=row4 hz
  have HZ:=Lib.hid (put4 hz r)
  have HB:=Lib.hid (put4_below (BV.bl hB4) (Nat.le_refl w.heap.size) (.int .u64 r.1) (.int .u64 r.2.1) (.int .u64 r.2.2.1) (.int .u64 r.2.2.2))
  clear hz hB4 HO HF h0
  go_wp2_with fail
  refine bodyPost_ret (results_cell_row rfl _ _ w.heap.size 28 (uL r) (0,0) _ rfl HZ.out Tryz.underlying28 rfl (by kernel_rfl)) rfl ?_
  exact ⟨rfl,HB.out⟩
theorem rkeyI_any (t:Nat) (ht1:1≤t) (ht2:t≤255) (a b:Int) (ha:I63 a) (hb:I63 b):Hid (∀ W v,IntsAt W v [a,b]→Calls Tryz.prog 89 #[.int .i64 t,v] W fun e w'=>e = .returned (.string (keyL t [a,b]))∧Below W.heap.size W w') :=
 fun W v hv=>rkey_any t ht1 ht2 v [a,b] W hv (by simp) (fun n hn=>by
  simp only [List.mem_cons,List.not_mem_nil,or_false] at hn
  rcases hn with rfl | rfl
  ·exact ha
  ·exact hb)
theorem rworth_q (w:World) (b:Nat) (s:St) (L:List Nat) (f:Nat) (a t:Int) (m:W4) (ha:I63 a) (ht:I63 t) (hm0:m.Ok) (hq:RRep w b s L) (hf:s.Fit f) (hm:f < 100000000000) :
  Calls Tryz.prog 36 #[.pointer (some ⟨b,0,none⟩),.int .i64 a,.int .i64 t,uV m] w fun e w'=>e = .returned (uV (worthW (s.dep a t) (s.fct a t) m))∧Below w.heap.size w w':=by
 have hB:=((BV.start w).alloc (uO m)).alloc zO
 rw [World.size_alloc] at hB
 have hD:∀ rs W,BV w rs W→Calls Tryz.prog 33 #[.pointer (some ⟨b,0,none⟩),.int .i64 a,.int .i64 t] W fun e w'=>e = .returned (uV (s.dep a t))∧Below W.heap.size W w':=fun rs W hW=>rdep_q W b s L f a t ha ht (hq.below hW.bl) hf hm
 have hF:∀ rs W,BV w rs W→Calls Tryz.prog 34 #[.pointer (some ⟨b,0,none⟩),.int .i64 a,.int .i64 t] W fun e w'=>e = .returned (uV (s.fct a t))∧Below W.heap.size W w':=fun rs W hW=>rfct_q W b s L f a t ha ht (hq.below hW.bl) hf hm
 have HW:Hid (∀ W,Calls Tryz.prog 92 #[uV (s.dep a t),uV (s.fct a t),uV m] W fun e w'=>e = .returned (.tuple #[uV (worthW (s.dep a t) (s.fct a t) m),.bool (goodB (s.dep a t) (s.fct a t) m)])∧Below W.heap.size W w'):=rfworth_any _ _ m (amt_ok _ _) (fct_ok _ _ _) hm0
 have HDF:=Lib.hid hD
 have HFF:=Lib.hid hF
 generalize worthW (s.dep a t) (s.fct a t) m=u at *
 generalize goodB (s.dep a t) (s.fct a t) m=ub at *
 generalize s.dep a t=d at *
 generalize s.fct a t=fc at *
 clear hq hf hD hF
 go_enter Tryz.func36,Tryz.ntmps36
 go_wp2_with fail
 go_upto_region 1 with fail
 generalize (w.alloc (uO m)).alloc zO=W0 at *
 have HQ:=Lib.hid hB
 have HD:Hid (∀ W,Below W0.heap.size W0 W→Calls Tryz.prog 33 #[.pointer (some ⟨b,0,none⟩),.int .i64 a,.int .i64 t] W fun e w'=>e = .returned (uV d)∧Below W.heap.size W w'):=fun W hW=>HDF.out _ W (hB.below hW)
 have HF:Hid (∀ W,Below W0.heap.size W0 W→Calls Tryz.prog 34 #[.pointer (some ⟨b,0,none⟩),.int .i64 a,.int .i64 t] W fun e w'=>e = .returned (uV fc)∧Below W.heap.size W w'):=fun W hW=>HFF.out _ W (hB.below hW)
 have HB0:=Lib.hid (bl_drew (Below.refl W0.heap.size W0))
 clear hB HDF HFF
 refine wp_region_rely [[],[],[],[0,1,2],[],[],[],[0,1,2,3,4,5,6],[],[0,1,2,3,4,5,6,7,8],[0,1,2,3,4,5,6,7,8,9],[0,1,2,3,4,5,6,7,8,9,10],[0,1,2,3,4,5,6,7,8,9,10],[],[0,1,2,3,4,5,6,7,8,9,10,11,13],[0,1,2,3,4,5,6,7,8,9,10,11,12,13,14]]
  [rgC (Below W0.heap.size W0),rgV 0 (.pointer (some ⟨b,0,none⟩)),rgV 1 (.int .i64 a),rgV 2 (.int .i64 t),rgV 3 (uV d),rgV 4 (.pointer (some ⟨b,0,none⟩)),rgV 5 (.int .i64 a),rgV 6 (.int .i64 t),rgV 7 (uV fc),rgV 8 (uV m),rgV 9 (.tuple #[uV u,.bool ub]),rgV 10 (.tuple #[uV u,.bool ub]),rgV 11 (uV u),rgV 12 (.bool ub),rgP 13 (W0.heap.size),rgV 15 (.bool ub),rgS 13 14 (u)] _ (by kernel_rfl) (by kernel_rfl) (by kernel_rfl)
  (fun vs=>by simp only [rgAct,rgPut,List.setIfInBounds_toArray,List.set_cons_zero,List.set_cons_succ]; exact rfl)
  ⟨fun _ _ _ hb h=>bl_then h hb,rgV_st,rgV_st,rgV_st,rgV_st,rgV_st,rgV_st,rgV_st,rgV_st,rgV_st,rgV_st,rgV_st,rgV_st,rgV_st,rgP_st,rgV_st,rgS_st,trivial⟩ ?_ ?_ ?_
 ·refine rgAll_yes rfl HB0.out ?_
  iterate 16 refine rgAll_no rfl ?_
  exact trivial
 ·refine ⟨?_,?_,?_,?_,?_,?_,?_,?_,?_,?_,?_,?_,?_,?_,?_,?_,trivial⟩
  ·rintro vs w1 ⟨_,_⟩ K hK
   refine rg_move rfl (.inl rfl) rfl (hK _ _ (.inl (Below.refl _ _)) ?_)
   exact rgNew_one 1 rfl fun _=>rfl
  ·rintro vs w1 ⟨_,_⟩ K hK
   refine rg_move rfl (.inl rfl) rfl (hK _ _ (.inl (Below.refl _ _)) ?_)
   exact rgNew_one 2 rfl fun _=>rfl
  ·rintro vs w1 ⟨_,_⟩ K hK
   refine rg_move rfl (.inl rfl) rfl (hK _ _ (.inl (Below.refl _ _)) ?_)
   exact rgNew_one 3 rfl fun _=>rfl
  ·rintro vs w1 ⟨hC,e0,e1,e2,_⟩ K hK
   refine rg_fn rfl rfl rfl (by kernel_rfl) (show [vs 0,vs 1,vs 2]=_ from by rw [rg1 e0,rg1 e1,rg1 e2]) (Calls.mono (HD.out _ hC) ?_)
   rintro e w2 ⟨rfl,hb⟩
   refine ⟨_,rfl,hK _ _ (.inl hb) ?_⟩
   exact rgNew_one 4 rfl fun _=>rfl
  ·rintro vs w1 ⟨_,_⟩ K hK
   refine rg_move rfl (.inl rfl) rfl (hK _ _ (.inl (Below.refl _ _)) ?_)
   exact rgNew_one 5 rfl fun _=>rfl
  ·rintro vs w1 ⟨_,_⟩ K hK
   refine rg_move rfl (.inl rfl) rfl (hK _ _ (.inl (Below.refl _ _)) ?_)
   exact rgNew_one 6 rfl fun _=>rfl
  ·rintro vs w1 ⟨_,_⟩ K hK
   refine rg_move rfl (.inl rfl) rfl (hK _ _ (.inl (Below.refl _ _)) ?_)
   exact rgNew_one 7 rfl fun _=>rfl
  ·rintro vs w1 ⟨hC,_,_,_,_,e4,e5,e6,_⟩ K hK
   refine rg_fn rfl rfl rfl (by kernel_rfl) (show [vs 4,vs 5,vs 6]=_ from by rw [rg1 e4,rg1 e5,rg1 e6]) (Calls.mono (HF.out _ hC) ?_)
   rintro e w2 ⟨rfl,hb⟩
   refine ⟨_,rfl,hK _ _ (.inl hb) ?_⟩
   exact rgNew_one 8 rfl fun _=>rfl
  ·rintro vs w1 ⟨hC,_⟩ K hK
   refine rg_loadU rfl rfl rfl ((HQ.out.below hC).u4 (x:=m) (by simp)) (hK _ _ (.inl (Below.refl _ _)) ?_)
   exact rgNew_one 9 rfl fun _=>rfl
  ·rintro vs w1 ⟨_,_,_,_,e3,_,_,_,e7,e8,_⟩ K hK
   refine rg_fn rfl rfl rfl (by kernel_rfl) (show [vs 3,vs 7,vs 8]=_ from by rw [rg1 e3,rg1 e7,rg1 e8]) (Calls.mono (HW.out _) ?_)
   rintro e w2 ⟨rfl,hb⟩
   refine ⟨_,rfl,hK _ _ (.inl hb) ?_⟩
   exact rgNew_one 10 rfl fun _=>rfl
  ·rintro vs w1 ⟨_,_,_,_,_,_,_,_,_,_,e9,_⟩ K hK
   refine rg_move rfl (.inl rfl) (rg1 e9) (hK _ _ (.inl (Below.refl _ _)) ?_)
   exact rgNew_one 11 rfl fun _=>rfl
  ·rintro vs w1 ⟨_,_,_,_,_,_,_,_,_,_,_,e10,_⟩ K hK
   refine rg_extract rfl rfl (rg1 e10) rfl (hK _ _ (.inl (Below.refl _ _)) ?_)
   exact rgNew_one 12 rfl fun _=>rfl
  ·rintro vs w1 ⟨_,_,_,_,_,_,_,_,_,_,_,e10,_⟩ K hK
   refine rg_extract rfl rfl (rg1 e10) rfl (hK _ _ (.inl (Below.refl _ _)) ?_)
   exact rgNew_one 13 rfl fun _=>rfl
  ·rintro vs w1 ⟨hC,_⟩ K hK
   refine rg_allocU rfl rfl (hK _ _ (.inl (bl_alloc (Below.refl _ _) _)) ?_)
   iterate 14 refine rgNew_no rfl ?_
   refine rgNew_yes rfl (fun _=>⟨_,_,rfl,hC.size,heap_alloc_new _ _⟩) ?_
   iterate 2 refine rgNew_no rfl ?_
   exact trivial
  ·rintro vs w1 ⟨hC,_,_,_,_,_,_,_,_,_,_,_,e11,⟨_,_,e13,h13,g13⟩,_⟩ K hK
   refine rg_storeU rfl rfl (rg1 e13) (rg1 e11) g13 (hK _ _ (.inr ?_) ?_)
   ·refine rgStay_yes rfl (fun hC _=>bput hC h13) ?_
    iterate 13 refine rgStay_yes rfl (fun h _=>h) ?_
    refine rgStay_yes rfl (fun h _=>rgP_put h) ?_
    iterate 2 refine rgStay_no rfl ?_
    exact trivial
   ·iterate 16 refine rgNew_no rfl ?_
    refine rgNew_yes rfl (fun _=>⟨_,_,by show [vs 13,undef]=_; rw [rg1 e13],setRow_heap _ _ _ _ _ _ g13⟩) ?_
    exact trivial
  ·rintro vs w1 ⟨_,_,_,_,_,_,_,_,_,_,_,_,_,e12,_,_,_⟩ K hK
   refine rg_move rfl (.inr rfl) (rg1 e12) (hK _ _ (.inl (Below.refl _ _)) ?_)
   exact rgNew_one 15 rfl fun _=>rfl
 ·intro vs w1 hA
  obtain ⟨hC,e0,e1,e2,e3,e4,e5,e6,e7,e8,e9,e10,e11,e12,⟨p13,_,e13,h13,g13⟩,e15,s14,_⟩:=hA
  have e0:=rg1 e0
  have e1:=rg1 e1
  have e2:=rg1 e2
  have e3:=rg1 e3
  have e4:=rg1 e4
  have e5:=rg1 e5
  have e6:=rg1 e6
  have e7:=rg1 e7
  have e8:=rg1 e8
  have e9:=rg1 e9
  have e10:=rg1 e10
  have e11:=rg1 e11
  have e12:=rg1 e12
  have e13:=rg1 e13
  have e15:=rg1 e15
  have s14:=rgS_at s14 e13
  simp only [e0,e1,e2,e3,e4,e5,e6,e7,e8,e9,e10,e11,e12,e13,e15]
  have hB6:=HQ.out.add1 hC h13 s14
  clear e0 e1 e2 e3 e4 e5 e6 e7 e8 e9 e10 e11 e12 e15 g13 s14 h13 hC HD HF HW HB0 HQ
  have hz:=hB6.u4 (g:=w.heap.size+1) (x:=(0,0,0,0)) (by simp)
  obtain ⟨z0,z1,z2,z3,z4,z5,z6,z7⟩:=row4 hz
  obtain ⟨u0,u1,u2,u3,_⟩:=row4 (hB6.u4 (g:=p13) (x:=u) (by simp))
  have HZ:=Lib.hid (put4 hz u)
  have HB:=Lib.hid (put4_below (BV.bl hB6) (show w.heap.size≤w.heap.size+1 by omega) (.int .u64 u.1) (.int .u64 u.2.1) (.int .u64 u.2.2.1) (.int .u64 u.2.2.2))
  clear hz hB6
  go_wp2_with fail
  refine bodyPost_ret (results_cell_row rfl _ _ (w.heap.size+1) 28 (uL u) (0,0) _ rfl HZ.out Tryz.underlying28 rfl (by kernel_rfl)) rfl ?_
  exact ⟨rfl,HB.out⟩
theorem rset0_q (w:World) (b:Nat) (L:List Nat) (s s1 s2:St) (a t:Int) (d f:W4) (k1 k2:ByteArray) (f0:W4)
  (hE:d=(0,0,0,0)→f0=(0,0,0,0)) (hE2:d≠(0,0,0,0)→f0=f)
  (HK1:Hid (∀ W v,IntsAt W v [a,t]→Calls Tryz.prog 89 #[.int .i64 10,v] W fun e w'=>e = .returned (.string k1)∧Below W.heap.size W w'))
  (HK2:Hid (∀ W v,IntsAt W v [a,t]→Calls Tryz.prog 89 #[.int .i64 11,v] W fun e w'=>e = .returned (.string k2)∧Below W.heap.size W w'))
  (HS1:Hid (∀ rs W,FV b w L s rs W→Calls Tryz.prog 153 #[.pointer (some ⟨b,0,none⟩),.string k1,uV d] W fun e W'=>e = .returned (.tuple #[])∧FV b w L s1 rs W'))
  (HS2:Hid (∀ rs W,FV b w L s1 rs W→Calls Tryz.prog 153 #[.pointer (some ⟨b,0,none⟩),.string k2,uV f0] W fun e W'=>e = .returned (.tuple #[])∧FV b w L s2 rs W'))
  (hq0:RRep w b s L) :
  Calls Tryz.prog 146 #[.pointer (some ⟨b,0,none⟩),.int .i64 a,.int .i64 t,uV d,uV f] w fun e w'=>e = .returned (.tuple #[])∧ROn w b L s2 w':=by
 by_cases hd0:d=(0,0,0,0)
 ·obtain rfl:=hE hd0
  subst hd0
  have hE0:∀ w,(Op.equalIn 10000 28 (.agg #[.int .u64 0,.int .u64 0,.int .u64 0,.int .u64 0]) (.agg #[.int .u64 0,.int .u64 0,.int .u64 0,.int .u64 0])).run Tryz.prog w = .ok true w:=fun w=>eqU (0,0,0,0) (0,0,0,0) w
  have hq1:FV b w L s [(w.heap.size+1,uO (0,0,0,0)),(w.heap.size,uO (0,0,0,0))] ((w.alloc (uO (0,0,0,0))).alloc zO):=by
   have h1:=((FV.start hq0).alloc (uO (0,0,0,0))).alloc zO
   rwa [World.size_alloc] at h1
  clear hE hE2 hq0
  go_enter Tryz.func146,Tryz.ntmps146
  go_wp2_with fail
  go_upto_region 3 with fail
  generalize (w.alloc (uO (0,0,0,0))).alloc zO=W0 at *
  have HQ1:=Lib.hid hq1
  have HB0:=Lib.hid (bl_drew (Below.refl W0.heap.size W0))
  clear hq1
  refine wp_region_rely_tail 6 [[],[],[],[1,2],[1,2,3],[],[0,1,2,3,4,5]]
   [rgC (Below W0.heap.size W0),rgV 0 (.pointer (some ⟨b,0,none⟩)),rgV 1 (.int .i64 a),rgV 2 (.int .i64 t),rgI 3 ([a,t]),rgV 4 (.string k1),rgV 5 (uV (0,0,0,0))] _ (by kernel_rfl) (by kernel_rfl) (by decide) (by kernel_rfl) (by kernel_rfl)
   (fun vs=>by simp only [rgAct,rgPut,List.setIfInBounds_toArray,List.set_cons_zero,List.set_cons_succ]; exact rfl)
   ⟨fun _ _ _ hb h=>bl_then h hb,rgV_st,rgV_st,rgV_st,rgI_st,rgV_st,rgV_st,trivial⟩ ?_ ?_ ?_
  ·refine rgAll_yes rfl HB0.out ?_
   iterate 6 refine rgAll_no rfl ?_
   exact trivial
  ·refine ⟨?_,?_,?_,?_,?_,?_,trivial⟩
   ·rintro vs w1 ⟨_,_⟩ K hK
    refine rg_move rfl (.inl rfl) rfl (hK _ _ (.inl (Below.refl _ _)) ?_)
    exact rgNew_one 1 rfl fun _=>rfl
   ·rintro vs w1 ⟨_,_⟩ K hK
    refine rg_move rfl (.inl rfl) rfl (hK _ _ (.inl (Below.refl _ _)) ?_)
    exact rgNew_one 2 rfl fun _=>rfl
   ·rintro vs w1 ⟨_,_⟩ K hK
    refine rg_move rfl (.inl rfl) rfl (hK _ _ (.inl (Below.refl _ _)) ?_)
    exact rgNew_one 3 rfl fun _=>rfl
   ·rintro vs w1 ⟨_,e1,e2,_⟩ K hK
    refine rg_ints2 rfl rfl (rg1 e1) (rg1 e2) (hK _ _ (.inl (bl_alloc (Below.refl _ _) _)) ?_)
    iterate 4 refine rgNew_no rfl ?_
    refine rgNew_yes rfl (fun _=>two_ints _ _ _) ?_
    iterate 2 refine rgNew_no rfl ?_
    exact trivial
   ·rintro vs w1 ⟨_,_,_,i3,_⟩ K hK
    refine rg_fn rfl rfl rfl (by kernel_rfl) rfl (Calls.mono (HK1.out _ _ i3) ?_)
    rintro e w2 ⟨rfl,hb⟩
    refine ⟨_,rfl,hK _ _ (.inl hb) ?_⟩
    exact rgNew_one 5 rfl fun _=>rfl
   ·rintro vs w1 ⟨hC,_⟩ K hK
    refine rg_loadU rfl rfl rfl ((HQ1.out.below hC).u4 (x:=(0,0,0,0)) (by simp)) (hK _ _ (.inl (Below.refl _ _)) ?_)
    exact rgNew_one 6 rfl fun _=>rfl
  ·intro vs w1 hA
   obtain ⟨hC,e0,e1,e2,i3,e4,e5,_⟩:=hA
   have e0:=rg1 e0
   have e1:=rg1 e1
   have e2:=rg1 e2
   have e4:=rg1 e4
   have e5:=rg1 e5
   refine rgTail_cons ?_
   refine rg_fn rfl rfl rfl (by kernel_rfl) (show [vs 0,vs 4,vs 5]=_ from by rw [e0,e4,e5]) (Calls.mono (HS1.out _ _ (HQ1.out.below hC)) ?_)
   rintro e w2 ⟨rfl,hq2⟩
   refine ⟨_,rfl,?_⟩
   refine rgTail_nil ?_
   simp only [rgSet,Nat.reduceEqDiff,↓reduceIte,e0,e1,e2,e4,e5]
   generalize vs 3=v3 at *
   clear e0 e1 e2 e4 e5 i3 hC HK1 HS1 HB0 HQ1
   have HQ2:=Lib.hid hq2
   have HB1:=Lib.hid (bl_drew (Below.refl w2.heap.size w2))
   clear hq2
   go_upto_region 4 with fail
   refine wp_region_rely_tail 6 [[],[],[],[1,2],[1,2,3],[],[0,1,2,3,4,5]]
    [rgC (Below w2.heap.size w2),rgV 0 (.pointer (some ⟨b,0,none⟩)),rgV 1 (.int .i64 a),rgV 2 (.int .i64 t),rgI 3 ([a,t]),rgV 4 (.string k2),rgV 5 (uV (0,0,0,0))] _ (by kernel_rfl) (by kernel_rfl) (by decide) (by kernel_rfl) (by kernel_rfl)
    (fun vs=>by simp only [rgAct,rgPut,List.setIfInBounds_toArray,List.set_cons_zero,List.set_cons_succ]; exact rfl)
    ⟨fun _ _ _ hb h=>bl_then h hb,rgV_st,rgV_st,rgV_st,rgI_st,rgV_st,rgV_st,trivial⟩ ?_ ?_ ?_
   ·refine rgAll_yes rfl HB1.out ?_
    iterate 6 refine rgAll_no rfl ?_
    exact trivial
   ·refine ⟨?_,?_,?_,?_,?_,?_,trivial⟩
    ·rintro vs w1 ⟨_,_⟩ K hK
     refine rg_move rfl (.inl rfl) rfl (hK _ _ (.inl (Below.refl _ _)) ?_)
     exact rgNew_one 1 rfl fun _=>rfl
    ·rintro vs w1 ⟨_,_⟩ K hK
     refine rg_move rfl (.inl rfl) rfl (hK _ _ (.inl (Below.refl _ _)) ?_)
     exact rgNew_one 2 rfl fun _=>rfl
    ·rintro vs w1 ⟨_,_⟩ K hK
     refine rg_move rfl (.inl rfl) rfl (hK _ _ (.inl (Below.refl _ _)) ?_)
     exact rgNew_one 3 rfl fun _=>rfl
    ·rintro vs w1 ⟨_,e1,e2,_⟩ K hK
     refine rg_ints2 rfl rfl (rg1 e1) (rg1 e2) (hK _ _ (.inl (bl_alloc (Below.refl _ _) _)) ?_)
     iterate 4 refine rgNew_no rfl ?_
     refine rgNew_yes rfl (fun _=>two_ints _ _ _) ?_
     iterate 2 refine rgNew_no rfl ?_
     exact trivial
    ·rintro vs w1 ⟨_,_,_,i3,_⟩ K hK
     refine rg_fn rfl rfl rfl (by kernel_rfl) rfl (Calls.mono (HK2.out _ _ i3) ?_)
     rintro e w2 ⟨rfl,hb⟩
     refine ⟨_,rfl,hK _ _ (.inl hb) ?_⟩
     exact rgNew_one 5 rfl fun _=>rfl
    ·rintro vs w1 ⟨hC,_⟩ K hK
     refine rg_loadU rfl rfl rfl ((HQ2.out.below hC).u4 (x:=(0,0,0,0)) (by simp)) (hK _ _ (.inl (Below.refl _ _)) ?_)
     exact rgNew_one 6 rfl fun _=>rfl
   ·intro vs w1 hA
    obtain ⟨hC,e0,e1,e2,i3,e4,e5,_⟩:=hA
    have e0:=rg1 e0
    have e1:=rg1 e1
    have e2:=rg1 e2
    have e4:=rg1 e4
    have e5:=rg1 e5
    refine rgTail_cons ?_
    refine rg_fn rfl rfl rfl (by kernel_rfl) (show [vs 0,vs 4,vs 5]=_ from by rw [e0,e4,e5]) (Calls.mono (HS2.out _ _ (HQ2.out.below hC)) ?_)
    rintro e w2 ⟨rfl,hq2⟩
    refine ⟨_,rfl,?_⟩
    refine rgTail_nil ?_
    simp only [rgSet,Nat.reduceEqDiff,↓reduceIte,e0,e1,e2,e4,e5]
    clear e0 e1 e2 e4 e5 i3
    have HD:=Lib.hid hq2.done
    clear hq2 HK2 HS2 HB1 HQ2
    generalize vs 3=v3b at *
    go_end0
    exact ⟨rfl,HD.out⟩
 ·obtain rfl:=hE2 hd0
  have hE0:∀ w,(Op.equalIn 10000 28 (uV d) (.agg #[.int .u64 0,.int .u64 0,.int .u64 0,.int .u64 0])).run Tryz.prog w = .ok false w:=fun w=>by
   have:=eqU d (0,0,0,0) w
   rwa [decide_eq_false hd0] at this
  have hq1:FV b w L s [(w.heap.size+1,uO f0),(w.heap.size,uO d)] ((w.alloc (uO d)).alloc (uO f0)):=by
   have h1:=((FV.start hq0).alloc (uO d)).alloc (uO f0)
   rwa [World.size_alloc] at h1
  clear hE hE2 hd0 hq0
  go_enter Tryz.func146,Tryz.ntmps146
  go_wp2_with fail
  go_upto_region 3 with fail
  generalize (w.alloc (uO d)).alloc (uO f0)=W0 at *
  have HQ1:=Lib.hid hq1
  have HB0:=Lib.hid (bl_drew (Below.refl W0.heap.size W0))
  clear hq1
  refine wp_region_rely_tail 6 [[],[],[],[1,2],[1,2,3],[],[0,1,2,3,4,5]]
   [rgC (Below W0.heap.size W0),rgV 0 (.pointer (some ⟨b,0,none⟩)),rgV 1 (.int .i64 a),rgV 2 (.int .i64 t),rgI 3 ([a,t]),rgV 4 (.string k1),rgV 5 (uV d)] _ (by kernel_rfl) (by kernel_rfl) (by decide) (by kernel_rfl) (by kernel_rfl)
   (fun vs=>by simp only [rgAct,rgPut,List.setIfInBounds_toArray,List.set_cons_zero,List.set_cons_succ]; exact rfl)
   ⟨fun _ _ _ hb h=>bl_then h hb,rgV_st,rgV_st,rgV_st,rgI_st,rgV_st,rgV_st,trivial⟩ ?_ ?_ ?_
  ·refine rgAll_yes rfl HB0.out ?_
   iterate 6 refine rgAll_no rfl ?_
   exact trivial
  ·refine ⟨?_,?_,?_,?_,?_,?_,trivial⟩
   ·rintro vs w1 ⟨_,_⟩ K hK
    refine rg_move rfl (.inl rfl) rfl (hK _ _ (.inl (Below.refl _ _)) ?_)
    exact rgNew_one 1 rfl fun _=>rfl
   ·rintro vs w1 ⟨_,_⟩ K hK
    refine rg_move rfl (.inl rfl) rfl (hK _ _ (.inl (Below.refl _ _)) ?_)
    exact rgNew_one 2 rfl fun _=>rfl
   ·rintro vs w1 ⟨_,_⟩ K hK
    refine rg_move rfl (.inl rfl) rfl (hK _ _ (.inl (Below.refl _ _)) ?_)
    exact rgNew_one 3 rfl fun _=>rfl
   ·rintro vs w1 ⟨_,e1,e2,_⟩ K hK
    refine rg_ints2 rfl rfl (rg1 e1) (rg1 e2) (hK _ _ (.inl (bl_alloc (Below.refl _ _) _)) ?_)
    iterate 4 refine rgNew_no rfl ?_
    refine rgNew_yes rfl (fun _=>two_ints _ _ _) ?_
    iterate 2 refine rgNew_no rfl ?_
    exact trivial
   ·rintro vs w1 ⟨_,_,_,i3,_⟩ K hK
    refine rg_fn rfl rfl rfl (by kernel_rfl) rfl (Calls.mono (HK1.out _ _ i3) ?_)
    rintro e w2 ⟨rfl,hb⟩
    refine ⟨_,rfl,hK _ _ (.inl hb) ?_⟩
    exact rgNew_one 5 rfl fun _=>rfl
   ·rintro vs w1 ⟨hC,_⟩ K hK
    refine rg_loadU rfl rfl rfl ((HQ1.out.below hC).u4 (x:=d) (by simp)) (hK _ _ (.inl (Below.refl _ _)) ?_)
    exact rgNew_one 6 rfl fun _=>rfl
  ·intro vs w1 hA
   obtain ⟨hC,e0,e1,e2,i3,e4,e5,_⟩:=hA
   have e0:=rg1 e0
   have e1:=rg1 e1
   have e2:=rg1 e2
   have e4:=rg1 e4
   have e5:=rg1 e5
   refine rgTail_cons ?_
   refine rg_fn rfl rfl rfl (by kernel_rfl) (show [vs 0,vs 4,vs 5]=_ from by rw [e0,e4,e5]) (Calls.mono (HS1.out _ _ (HQ1.out.below hC)) ?_)
   rintro e w2 ⟨rfl,hq2⟩
   refine ⟨_,rfl,?_⟩
   refine rgTail_nil ?_
   simp only [rgSet,Nat.reduceEqDiff,↓reduceIte,e0,e1,e2,e4,e5]
   generalize vs 3=v3 at *
   clear e0 e1 e2 e4 e5 i3 hC HK1 HS1 HB0 HQ1
   have HQ2:=Lib.hid hq2
   have HB1:=Lib.hid (bl_drew (Below.refl w2.heap.size w2))
   clear hq2
   go_upto_region 4 with fail
   refine wp_region_rely_tail 6 [[],[],[],[1,2],[1,2,3],[],[0,1,2,3,4,5]]
    [rgC (Below w2.heap.size w2),rgV 0 (.pointer (some ⟨b,0,none⟩)),rgV 1 (.int .i64 a),rgV 2 (.int .i64 t),rgI 3 ([a,t]),rgV 4 (.string k2),rgV 5 (uV f0)] _ (by kernel_rfl) (by kernel_rfl) (by decide) (by kernel_rfl) (by kernel_rfl)
    (fun vs=>by simp only [rgAct,rgPut,List.setIfInBounds_toArray,List.set_cons_zero,List.set_cons_succ]; exact rfl)
    ⟨fun _ _ _ hb h=>bl_then h hb,rgV_st,rgV_st,rgV_st,rgI_st,rgV_st,rgV_st,trivial⟩ ?_ ?_ ?_
   ·refine rgAll_yes rfl HB1.out ?_
    iterate 6 refine rgAll_no rfl ?_
    exact trivial
   ·refine ⟨?_,?_,?_,?_,?_,?_,trivial⟩
    ·rintro vs w1 ⟨_,_⟩ K hK
     refine rg_move rfl (.inl rfl) rfl (hK _ _ (.inl (Below.refl _ _)) ?_)
     exact rgNew_one 1 rfl fun _=>rfl
    ·rintro vs w1 ⟨_,_⟩ K hK
     refine rg_move rfl (.inl rfl) rfl (hK _ _ (.inl (Below.refl _ _)) ?_)
     exact rgNew_one 2 rfl fun _=>rfl
    ·rintro vs w1 ⟨_,_⟩ K hK
     refine rg_move rfl (.inl rfl) rfl (hK _ _ (.inl (Below.refl _ _)) ?_)
     exact rgNew_one 3 rfl fun _=>rfl
    ·rintro vs w1 ⟨_,e1,e2,_⟩ K hK
     refine rg_ints2 rfl rfl (rg1 e1) (rg1 e2) (hK _ _ (.inl (bl_alloc (Below.refl _ _) _)) ?_)
     iterate 4 refine rgNew_no rfl ?_
     refine rgNew_yes rfl (fun _=>two_ints _ _ _) ?_
     iterate 2 refine rgNew_no rfl ?_
     exact trivial
    ·rintro vs w1 ⟨_,_,_,i3,_⟩ K hK
     refine rg_fn rfl rfl rfl (by kernel_rfl) rfl (Calls.mono (HK2.out _ _ i3) ?_)
     rintro e w2 ⟨rfl,hb⟩
     refine ⟨_,rfl,hK _ _ (.inl hb) ?_⟩
     exact rgNew_one 5 rfl fun _=>rfl
    ·rintro vs w1 ⟨hC,_⟩ K hK
     refine rg_loadU rfl rfl rfl ((HQ2.out.below hC).u4 (x:=f0) (by simp)) (hK _ _ (.inl (Below.refl _ _)) ?_)
     exact rgNew_one 6 rfl fun _=>rfl
   ·intro vs w1 hA
    obtain ⟨hC,e0,e1,e2,i3,e4,e5,_⟩:=hA
    have e0:=rg1 e0
    have e1:=rg1 e1
    have e2:=rg1 e2
    have e4:=rg1 e4
    have e5:=rg1 e5
    refine rgTail_cons ?_
    refine rg_fn rfl rfl rfl (by kernel_rfl) (show [vs 0,vs 4,vs 5]=_ from by rw [e0,e4,e5]) (Calls.mono (HS2.out _ _ (HQ2.out.below hC)) ?_)
    rintro e w2 ⟨rfl,hq2⟩
    refine ⟨_,rfl,?_⟩
    refine rgTail_nil ?_
    simp only [rgSet,Nat.reduceEqDiff,↓reduceIte,e0,e1,e2,e4,e5]
    clear e0 e1 e2 e4 e5 i3
    have HD:=Lib.hid hq2.done
    clear hq2 HK2 HS2 HB1 HQ2
    generalize vs 3=v3b at *
    go_end0
    exact ⟨rfl,HD.out⟩
theorem rset_q (w:World) (b:Nat) (L:List Nat) (s:St) (f0:Nat) (a t:Int) (d f:W4) (ha:I63 a) (ht:I63 t) (hq:RRep w b s L) (hf:s.Fit f0) (hm:f0 < 10000000000) :
  Calls Tryz.prog 146 #[.pointer (some ⟨b,0,none⟩),.int .i64 a,.int .i64 t,uV d,uV f] w fun e w'=>e = .returned (.tuple #[])∧ROn w b L (H1.wr s a t d f) w':=by
 have h1:(s.setAmt (keyL 10 [a,t]) d).Fit (f0+2):=hf.setAmt _ _
 exact rset0_q w b L s (s.setAmt (keyL 10 [a,t]) d) (H1.wr s a t d f) a t d f (keyL 10 [a,t]) (keyL 11 [a,t]) (if d=(0,0,0,0) then (0,0,0,0) else f) (fun e=>if_pos e) (fun e=>if_neg e)
  (rkeyI_any 10 (by decide) (by decide) a t ha ht) (rkeyI_any 11 (by decide) (by decide) a t ha ht) (fun rs W hW=>hW.cset (Nat.lt_of_le_of_lt hf.size (by omega)) _ _) (fun rs W hW=>hW.cset (Nat.lt_of_le_of_lt h1.size (by omega)) _ _) hq
end Go.Proofs.YtpojljieakdgiaaGreat
