/- What is proved here: the reference's Add, Sub and Move of amounts in a store. Their conditions: sizes. the reference's Move of amounts in a store. Its conditions: sizes. -/
import Derived.Test.YtpojljieakdgiaaGreatDRCell
set_option maxRecDepth 100000
set_option maxHeartbeats 16000000
namespace Go.Proofs.YtpojljieakdgiaaGreat
open Go.RowKit
abbrev FV (b:Nat) (w:World) (L:List Nat) (s:St) (rs:List (Nat × Obj)) (W:World):Prop:=QV (FRep b) w L s rs W
theorem FV.start {b:Nat} {w:World} {L:List Nat} {s:St} (h:RRep w b s L):FV b w L s [] w:=QV.start (fRep_ok b) h
def ROn (w:World) (b:Nat) (L:List Nat) (s:St) (W:World):Prop:=∃ L',RRep W b s L'∧Step w L W L'
theorem FV.done {b:Nat} {w W:World} {L:List Nat} {s:St} {rs:List (Nat × Obj)} (h:FV b w L s rs W):ROn w b L s W:=QV.done h
theorem FV.camt {b:Nat} {w W:World} {L:List Nat} {s:St} {rs:List (Nat × Obj)} {f:Nat} (hq:FV b w L s rs W) (hf:s.Fit f) (hm:f < 100000000000) (k:ByteArray):Calls Tryz.prog 88 #[.pointer (some ⟨b,0,none⟩),.string k] W fun e W'=>e = .returned (uV (s.amt k))∧Below W.heap.size W W':=by
 obtain ⟨L',h1,_⟩:=hq.on
 exact ramt_any W b s L' k h1 (by have:=hf.size; unfold St.size at this; omega)
theorem FV.cset {b:Nat} {w W:World} {L:List Nat} {s:St} {rs:List (Nat × Obj)} (hq:FV b w L s rs W) (hz:s.size < 1000000000000) (k:ByteArray) (x:W4):Calls Tryz.prog 153 #[.pointer (some ⟨b,0,none⟩),.string k,uV x] W fun e W'=>e = .returned (.tuple #[])∧FV b w L (s.setAmt k x) rs W' :=
 QV.call hq fun L' h1=>(rsetAmt_any W b s L' k x h1 hz).mono fun _ _ ⟨he,h2⟩=>⟨he,h2.2⟩
abbrev H1:Hand:=⟨none,true,[]⟩
theorem more_no (x y:W4):(sumB x y=false→moreE x y=6)∧(decide (uN (sumW x y) < M128)=false→moreE x y=6)∧(sumB x y=true→decide (uN (sumW x y) < M128)=true→moreE x y=0∧moreW x y=sumW x y) :=
 ⟨fun h=>((more_law x y).1 h).2,fun h=>((more_law x y).2.1 h).2,fun h1 h2=>⟨((more_law x y).2.2 h1 h2).2,((more_law x y).2.2 h1 h2).1⟩⟩
theorem rcSub_q (w:World) (b:Nat) (L:List Nat) (s:St) (f:Nat) (k:ByteArray) (a:W4) (ha:a.Ok) (hq:RRep w b s L) (hf:s.Fit f) (hm:f < 10000000000) :
  Calls Tryz.prog 147 #[.pointer (some ⟨b,0,none⟩),.string k,uV a] w fun e w'=>e = .returned (.int .i64 (lessE' (s.amt k) a))∧ROn w b L (H1.subSt s k a) w':=by
 have hq1:=(FV.start hq).alloc (uO a)
 have HAk:Hid (∀ W,FV b w L s [(w.heap.size,uO a)] W→Calls Tryz.prog 88 #[.pointer (some ⟨b,0,none⟩),.string k] W fun e W'=>e = .returned (uV (s.amt k))∧Below W.heap.size W W'):=fun W hW=>hW.camt hf (by omega) k
 have HL:Hid (∀ W,Calls Tryz.prog 19 #[uV (s.amt k),uV a] W fun e w'=>e = .returned (.tuple #[uV (subW (s.amt k) a),.bool (subB (s.amt k) a)])∧Below W.heap.size W w'):=rsub_u _ a (amt_ok _ _) ha
 have HS:Hid (∀ rs W,FV b w L s rs W→Calls Tryz.prog 153 #[.pointer (some ⟨b,0,none⟩),.string k,uV (subW (s.amt k) a)] W fun e W'=>e = .returned (.tuple #[])∧FV b w L (s.setAmt k (subW (s.amt k) a)) rs W'):=fun rs W hW=>hW.cset (Nat.lt_of_le_of_lt hf.size (by omega)) k _
 have HE:Hid ((subB (s.amt k) a=false→lessE' (s.amt k) a=13∧H1.subSt s k a=s)∧(subB (s.amt k) a=true→lessE' (s.amt k) a=0∧H1.subSt s k a=s.setAmt k (subW (s.amt k) a))):=by
  unfold subB lessE' Hand.subSt lessE' Hand.st
  refine ⟨fun h => ?_,fun h => ?_⟩
  ·have:=of_decide_eq_false h
   rw [if_neg this,if_neg (by decide)]; exact ⟨rfl,rfl⟩
  ·have:=of_decide_eq_true h
   rw [if_pos this,if_pos rfl]; exact ⟨rfl,rfl⟩
 generalize s.setAmt k (subW (s.amt k) a)=s1 at *
 generalize H1.subSt s k a=sx at *
 generalize lessE' (s.amt k) a=ee at *
 generalize subW (s.amt k) a=u at *
 generalize subB (s.amt k) a=er at *
 generalize s.amt k=xk at *
 clear hf hq ha
 go_enter Tryz.func147,Tryz.ntmps147
 go_wp2_with fail
 go_upto_region 1 with fail
 generalize w.alloc (uO a)=W0 at *
 have HQ:=Lib.hid hq1
 have HA:Hid (∀ W,Below W0.heap.size W0 W→Calls Tryz.prog 88 #[.pointer (some ⟨b,0,none⟩),.string k] W fun e W'=>e = .returned (uV xk)∧Below W.heap.size W W'):=fun W hW=>HAk.out W (hq1.below hW)
 have HB0:=Lib.hid (bl_drew (Below.refl W0.heap.size W0))
 clear hq1
 refine wp_region_rely [[],[],[0,1],[],[0,1,2,3],[0,1,2,3,4],[0,1,2,3,4,5],[0,1,2,3,4,5],[],[0,1,2,3,4,5,6,8],[0,1,2,3,4,5,6,7,8,9]]
  [rgC (Below W0.heap.size W0),rgV 0 (.pointer (some ⟨b,0,none⟩)),rgV 1 (.string k),rgV 2 (uV xk),rgV 3 (uV a),rgV 4 (.tuple #[uV u,.bool er]),rgV 5 (.tuple #[uV u,.bool er]),rgV 6 (uV u),rgV 7 (.bool er),rgP 8 (W0.heap.size),rgV 10 (.bool er),rgS 8 9 (u)] _ (by kernel_rfl) (by kernel_rfl) (by kernel_rfl)
  (fun vs=>by simp only [rgAct,rgPut,List.setIfInBounds_toArray,List.set_cons_zero,List.set_cons_succ]; exact rfl)
  ⟨fun _ _ _ hb h=>bl_then h hb,rgV_st,rgV_st,rgV_st,rgV_st,rgV_st,rgV_st,rgV_st,rgV_st,rgP_st,rgV_st,rgS_st,trivial⟩ ?_ ?_ ?_
 ·refine rgAll_yes rfl HB0.out ?_
  iterate 11 refine rgAll_no rfl ?_
  exact trivial
 ·refine ⟨?_,?_,?_,?_,?_,?_,?_,?_,?_,?_,?_,trivial⟩
  ·rintro vs w1 ⟨_,_⟩ K hK
   refine rg_move rfl (.inl rfl) rfl (hK _ _ (.inl (Below.refl _ _)) ?_)
   exact rgNew_one 1 rfl fun _=>rfl
  ·rintro vs w1 ⟨_,_⟩ K hK
   refine rg_move rfl (.inl rfl) rfl (hK _ _ (.inl (Below.refl _ _)) ?_)
   exact rgNew_one 2 rfl fun _=>rfl
  ·rintro vs w1 ⟨hC,e0,e1,_⟩ K hK
   refine rg_fn rfl rfl rfl (by kernel_rfl) (show [vs 0,vs 1]=_ from by rw [rg1 e0,rg1 e1]) (Calls.mono (HA.out _ hC) ?_)
   rintro e w2 ⟨rfl,hb⟩
   refine ⟨_,rfl,hK _ _ (.inl hb) ?_⟩
   exact rgNew_one 3 rfl fun _=>rfl
  ·rintro vs w1 ⟨hC,_⟩ K hK
   refine rg_loadU rfl rfl rfl ((HQ.out.below hC).u4 (x:=a) (by simp)) (hK _ _ (.inl (Below.refl _ _)) ?_)
   exact rgNew_one 4 rfl fun _=>rfl
  ·rintro vs w1 ⟨_,_,_,e2,e3,_⟩ K hK
   refine rg_fn rfl rfl rfl (by kernel_rfl) (show [vs 2,vs 3]=_ from by rw [rg1 e2,rg1 e3]) (Calls.mono (HL.out _) ?_)
   rintro e w2 ⟨rfl,hb⟩
   refine ⟨_,rfl,hK _ _ (.inl hb) ?_⟩
   exact rgNew_one 5 rfl fun _=>rfl
  ·rintro vs w1 ⟨_,_,_,_,_,e4,_⟩ K hK
   refine rg_move rfl (.inl rfl) (rg1 e4) (hK _ _ (.inl (Below.refl _ _)) ?_)
   exact rgNew_one 6 rfl fun _=>rfl
  ·rintro vs w1 ⟨_,_,_,_,_,_,e5,_⟩ K hK
   refine rg_extract rfl rfl (rg1 e5) rfl (hK _ _ (.inl (Below.refl _ _)) ?_)
   exact rgNew_one 7 rfl fun _=>rfl
  ·rintro vs w1 ⟨_,_,_,_,_,_,e5,_⟩ K hK
   refine rg_extract rfl rfl (rg1 e5) rfl (hK _ _ (.inl (Below.refl _ _)) ?_)
   exact rgNew_one 8 rfl fun _=>rfl
  ·rintro vs w1 ⟨hC,_⟩ K hK
   refine rg_allocU rfl rfl (hK _ _ (.inl (bl_alloc (Below.refl _ _) _)) ?_)
   iterate 9 refine rgNew_no rfl ?_
   refine rgNew_yes rfl (fun _=>⟨_,_,rfl,hC.size,heap_alloc_new _ _⟩) ?_
   iterate 2 refine rgNew_no rfl ?_
   exact trivial
  ·rintro vs w1 ⟨hC,_,_,_,_,_,_,e6,⟨_,_,e8,h8,g8⟩,_⟩ K hK
   refine rg_storeU rfl rfl (rg1 e8) (rg1 e6) g8 (hK _ _ (.inr ?_) ?_)
   ·refine rgStay_yes rfl (fun hC _=>bput hC h8) ?_
    iterate 8 refine rgStay_yes rfl (fun h _=>h) ?_
    refine rgStay_yes rfl (fun h _=>rgP_put h) ?_
    iterate 2 refine rgStay_no rfl ?_
    exact trivial
   ·iterate 11 refine rgNew_no rfl ?_
    refine rgNew_yes rfl (fun _=>⟨_,_,by show [vs 8,undef]=_; rw [rg1 e8],setRow_heap _ _ _ _ _ _ g8⟩) ?_
    exact trivial
  ·rintro vs w1 ⟨_,_,_,_,_,_,_,_,e7,_,_,_⟩ K hK
   refine rg_move rfl (.inr rfl) (rg1 e7) (hK _ _ (.inl (Below.refl _ _)) ?_)
   exact rgNew_one 10 rfl fun _=>rfl
 ·intro vs w1 hA
  obtain ⟨hC,e0,e1,e2,e3,e4,e5,e6,e7,⟨p8,_,e8,h8,g8⟩,e10,s9,_⟩:=hA
  have e0:=rg1 e0
  have e1:=rg1 e1
  have e2:=rg1 e2
  have e3:=rg1 e3
  have e4:=rg1 e4
  have e5:=rg1 e5
  have e6:=rg1 e6
  have e7:=rg1 e7
  have e8:=rg1 e8
  have e10:=rg1 e10
  have s9:=rgS_at s9 e8
  simp only [e0,e1,e2,e3,e4,e5,e6,e7,e8,e10]
  have hq2:=HQ.out.add1 hC h8 s9
  have HD0:=Lib.hid (hq2.done)
  obtain ⟨u0,u1,u2,u3,_⟩:=row4 (hq2.u4 (g:=p8) (x:=u) (by simp))
  clear e0 e1 e2 e3 e4 e5 e6 e7 e8 e10 g8 s9 h8 hC HL HA HAk HB0 HQ
  cases er with
  | false =>
   obtain ⟨he,hx⟩:=HE.out.1 (by trivial)
   subst he hx
   clear HE HS hq2
   go_wp2_with fail
   go_ret
   exact ⟨rfl,HD0.out⟩
  | true =>
   obtain ⟨he,hx⟩:=HE.out.2 (by trivial)
   subst he hx
   have HS1:=Lib.hid (HS.out _ _ hq2)
   clear HE HS hq2 HD0
   go_wp2_with fail
   refine Calls.mono HS1.out ?_
   rintro e w5 ⟨rfl,hq5⟩
   have HD:=Lib.hid hq5.done
   clear hq5 HS1
   go_wp2_with fail
   go_ret
   exact ⟨rfl,HD.out⟩
theorem rcAdd_q (w:World) (b:Nat) (L:List Nat) (s:St) (f:Nat) (k:ByteArray) (a:W4) (ha:a.Ok) (hq:RRep w b s L) (hf:s.Fit f) (hm:f < 10000000000) :
  Calls Tryz.prog 145 #[.pointer (some ⟨b,0,none⟩),.string k,uV a] w fun e w'=>e = .returned (.int .i64 (moreE (s.amt k) a))∧ROn w b L (H1.addSt s k a) w':=by
 have hq1:=(FV.start hq).alloc (uO a)
 have HAk:Hid (∀ W,FV b w L s [(w.heap.size,uO a)] W→Calls Tryz.prog 88 #[.pointer (some ⟨b,0,none⟩),.string k] W fun e W'=>e = .returned (uV (s.amt k))∧Below W.heap.size W W'):=fun W hW=>hW.camt hf (by omega) k
 have HL:Hid (∀ W,Calls Tryz.prog 21 #[uV (s.amt k),uV a] W fun e w'=>e = .returned (.tuple #[uV (sumW (s.amt k) a),.bool (sumB (s.amt k) a)])∧Below W.heap.size W w'):=radd_u _ a (amt_ok _ _) ha
 have HAm:Hid (∀ rs W,FV b w L s rs W→Calls Tryz.prog 143 #[uV (sumW (s.amt k) a)] W fun e W'=>e = .returned (.bool (decide (uN (sumW (s.amt k) a) < M128)))∧FV b w L s rs W'):=fun rs W hW=>QV.reads hW fun _ _=>ramount_any _ (toW_ok _) W
 have HS:Hid (∀ rs W,FV b w L s rs W→Calls Tryz.prog 153 #[.pointer (some ⟨b,0,none⟩),.string k,uV (sumW (s.amt k) a)] W fun e W'=>e = .returned (.tuple #[])∧FV b w L (s.setAmt k (sumW (s.amt k) a)) rs W'):=fun rs W hW=>hW.cset (Nat.lt_of_le_of_lt hf.size (by omega)) k _
 have HE:Hid ((sumB (s.amt k) a=false→moreE (s.amt k) a=6∧H1.addSt s k a=s)∧(decide (uN (sumW (s.amt k) a) < M128)=false→moreE (s.amt k) a=6∧H1.addSt s k a=s)∧(sumB (s.amt k) a=true→decide (uN (sumW (s.amt k) a) < M128)=true→moreE (s.amt k) a=0∧H1.addSt s k a=s.setAmt k (sumW (s.amt k) a))):=by
  obtain ⟨h1,h2,h3⟩:=more_no (s.amt k) a
  unfold Hand.addSt Hand.st
  refine ⟨fun h => ?_,fun h => ?_,fun h h' => ?_⟩
  ·rw [h1 h,if_neg (by decide)]; exact ⟨rfl,rfl⟩
  ·rw [h2 h,if_neg (by decide)]; exact ⟨rfl,rfl⟩
  ·obtain ⟨h4,h5⟩:=h3 h h'
   rw [h4,h5,if_pos rfl]; exact ⟨rfl,rfl⟩
 generalize s.setAmt k (sumW (s.amt k) a)=s1 at *
 generalize H1.addSt s k a=sx at *
 generalize moreE (s.amt k) a=ee at *
 generalize decide (uN (sumW (s.amt k) a) < M128)=am at *
 generalize sumW (s.amt k) a=u at *
 generalize sumB (s.amt k) a=er at *
 generalize s.amt k=xk at *
 clear hf hq ha
 go_enter Tryz.func145,Tryz.ntmps145
 go_wp2_with fail
 go_upto_region 1 with fail
 generalize w.alloc (uO a)=W0 at *
 have HQ:=Lib.hid hq1
 have HA:Hid (∀ W,Below W0.heap.size W0 W→Calls Tryz.prog 88 #[.pointer (some ⟨b,0,none⟩),.string k] W fun e W'=>e = .returned (uV xk)∧Below W.heap.size W W'):=fun W hW=>HAk.out W (hq1.below hW)
 have HB0:=Lib.hid (bl_drew (Below.refl W0.heap.size W0))
 clear hq1
 refine wp_region_rely [[],[],[0,1],[],[0,1,2,3],[0,1,2,3,4],[0,1,2,3,4,5],[0,1,2,3,4,5],[],[0,1,2,3,4,5,6,8],[0,1,2,3,4,5,6,7,8,9]]
  [rgC (Below W0.heap.size W0),rgV 0 (.pointer (some ⟨b,0,none⟩)),rgV 1 (.string k),rgV 2 (uV xk),rgV 3 (uV a),rgV 4 (.tuple #[uV u,.bool er]),rgV 5 (.tuple #[uV u,.bool er]),rgV 6 (uV u),rgV 7 (.bool er),rgP 8 (W0.heap.size),rgV 10 (.bool er),rgS 8 9 (u)] _ (by kernel_rfl) (by kernel_rfl) (by kernel_rfl)
  (fun vs=>by simp only [rgAct,rgPut,List.setIfInBounds_toArray,List.set_cons_zero,List.set_cons_succ]; exact rfl)
  ⟨fun _ _ _ hb h=>bl_then h hb,rgV_st,rgV_st,rgV_st,rgV_st,rgV_st,rgV_st,rgV_st,rgV_st,rgP_st,rgV_st,rgS_st,trivial⟩ ?_ ?_ ?_
 ·refine rgAll_yes rfl HB0.out ?_
  iterate 11 refine rgAll_no rfl ?_
  exact trivial
 ·refine ⟨?_,?_,?_,?_,?_,?_,?_,?_,?_,?_,?_,trivial⟩
  ·rintro vs w1 ⟨_,_⟩ K hK
   refine rg_move rfl (.inl rfl) rfl (hK _ _ (.inl (Below.refl _ _)) ?_)
   exact rgNew_one 1 rfl fun _=>rfl
  ·rintro vs w1 ⟨_,_⟩ K hK
   refine rg_move rfl (.inl rfl) rfl (hK _ _ (.inl (Below.refl _ _)) ?_)
   exact rgNew_one 2 rfl fun _=>rfl
  ·rintro vs w1 ⟨hC,e0,e1,_⟩ K hK
   refine rg_fn rfl rfl rfl (by kernel_rfl) (show [vs 0,vs 1]=_ from by rw [rg1 e0,rg1 e1]) (Calls.mono (HA.out _ hC) ?_)
   rintro e w2 ⟨rfl,hb⟩
   refine ⟨_,rfl,hK _ _ (.inl hb) ?_⟩
   exact rgNew_one 3 rfl fun _=>rfl
  ·rintro vs w1 ⟨hC,_⟩ K hK
   refine rg_loadU rfl rfl rfl ((HQ.out.below hC).u4 (x:=a) (by simp)) (hK _ _ (.inl (Below.refl _ _)) ?_)
   exact rgNew_one 4 rfl fun _=>rfl
  ·rintro vs w1 ⟨_,_,_,e2,e3,_⟩ K hK
   refine rg_fn rfl rfl rfl (by kernel_rfl) (show [vs 2,vs 3]=_ from by rw [rg1 e2,rg1 e3]) (Calls.mono (HL.out _) ?_)
   rintro e w2 ⟨rfl,hb⟩
   refine ⟨_,rfl,hK _ _ (.inl hb) ?_⟩
   exact rgNew_one 5 rfl fun _=>rfl
  ·rintro vs w1 ⟨_,_,_,_,_,e4,_⟩ K hK
   refine rg_move rfl (.inl rfl) (rg1 e4) (hK _ _ (.inl (Below.refl _ _)) ?_)
   exact rgNew_one 6 rfl fun _=>rfl
  ·rintro vs w1 ⟨_,_,_,_,_,_,e5,_⟩ K hK
   refine rg_extract rfl rfl (rg1 e5) rfl (hK _ _ (.inl (Below.refl _ _)) ?_)
   exact rgNew_one 7 rfl fun _=>rfl
  ·rintro vs w1 ⟨_,_,_,_,_,_,e5,_⟩ K hK
   refine rg_extract rfl rfl (rg1 e5) rfl (hK _ _ (.inl (Below.refl _ _)) ?_)
   exact rgNew_one 8 rfl fun _=>rfl
  ·rintro vs w1 ⟨hC,_⟩ K hK
   refine rg_allocU rfl rfl (hK _ _ (.inl (bl_alloc (Below.refl _ _) _)) ?_)
   iterate 9 refine rgNew_no rfl ?_
   refine rgNew_yes rfl (fun _=>⟨_,_,rfl,hC.size,heap_alloc_new _ _⟩) ?_
   iterate 2 refine rgNew_no rfl ?_
   exact trivial
  ·rintro vs w1 ⟨hC,_,_,_,_,_,_,e6,⟨_,_,e8,h8,g8⟩,_⟩ K hK
   refine rg_storeU rfl rfl (rg1 e8) (rg1 e6) g8 (hK _ _ (.inr ?_) ?_)
   ·refine rgStay_yes rfl (fun hC _=>bput hC h8) ?_
    iterate 8 refine rgStay_yes rfl (fun h _=>h) ?_
    refine rgStay_yes rfl (fun h _=>rgP_put h) ?_
    iterate 2 refine rgStay_no rfl ?_
    exact trivial
   ·iterate 11 refine rgNew_no rfl ?_
    refine rgNew_yes rfl (fun _=>⟨_,_,by show [vs 8,undef]=_; rw [rg1 e8],setRow_heap _ _ _ _ _ _ g8⟩) ?_
    exact trivial
  ·rintro vs w1 ⟨_,_,_,_,_,_,_,_,e7,_,_,_⟩ K hK
   refine rg_move rfl (.inr rfl) (rg1 e7) (hK _ _ (.inl (Below.refl _ _)) ?_)
   exact rgNew_one 10 rfl fun _=>rfl
 ·intro vs w1 hA
  obtain ⟨hC,e0,e1,e2,e3,e4,e5,e6,e7,⟨p8,_,e8,h8,g8⟩,e10,s9,_⟩:=hA
  have e0:=rg1 e0
  have e1:=rg1 e1
  have e2:=rg1 e2
  have e3:=rg1 e3
  have e4:=rg1 e4
  have e5:=rg1 e5
  have e6:=rg1 e6
  have e7:=rg1 e7
  have e8:=rg1 e8
  have e10:=rg1 e10
  have s9:=rgS_at s9 e8
  simp only [e0,e1,e2,e3,e4,e5,e6,e7,e8,e10]
  have hq2:=HQ.out.add1 hC h8 s9
  have HD0:=Lib.hid (hq2.done)
  have HQ2:=Lib.hid hq2
  obtain ⟨u0,u1,u2,u3,_⟩:=row4 (hq2.u4 (g:=p8) (x:=u) (by simp))
  clear e0 e1 e2 e3 e4 e5 e6 e7 e8 e10 g8 s9 h8 hC HL HA HAk HB0 HQ hq2
  cases er with
  | false =>
   obtain ⟨he,hx⟩:=HE.out.1 (by trivial)
   subst he hx
   clear HE HS HAm HQ2
   go_wp2_with fail
   go_ret
   exact ⟨rfl,HD0.out⟩
  | true =>
   clear HD0
   go_wp2_with fail
   refine Calls.mono (HAm.out _ _ HQ2.out) ?_
   rintro e w4 ⟨rfl,hq4⟩
   have HD0:=Lib.hid hq4.done
   have HQ4:=Lib.hid hq4
   clear u0 u1 u2 u3
   obtain ⟨u0,u1,u2,u3,_⟩:=row4 (hq4.u4 (g:=p8) (x:=u) (by simp))
   clear hq4 HAm HQ2
   cases am with
   | false =>
    obtain ⟨he,hx⟩:=HE.out.2.1 (by trivial)
    subst he hx
    clear HE HS HQ4
    go_wp2_with fail
    go_ret
    exact ⟨rfl,HD0.out⟩
   | true =>
    obtain ⟨he,hx⟩:=HE.out.2.2 (by trivial) (by trivial)
    subst he hx
    have HS1:=Lib.hid (HS.out _ _ HQ4.out)
    clear HE HS HQ4 HD0
    go_wp2_with fail
    refine Calls.mono HS1.out ?_
    rintro e w5 ⟨rfl,hq5⟩
    have HD:=Lib.hid hq5.done
    clear hq5 HS1
    go_wp2_with fail
    go_ret
    exact ⟨rfl,HD.out⟩
theorem rmove_law (s:St) (fk tk:ByteArray) (a:W4):(subB (s.amt fk) a=false→moveE s fk tk a=13∧H1.moveSt s fk tk a=s)∧(subB (s.amt fk) a=true→fk=tk→moveE s fk tk a=0∧H1.moveSt s fk tk a=s) ∧
  (subB (s.amt fk) a=true→fk≠tk→(sumB (s.amt tk) a=false∨decide (uN (sumW (s.amt tk) a) < M128)=false)→moveE s fk tk a=6∧H1.moveSt s fk tk a=s) ∧
  (subB (s.amt fk) a=true→fk≠tk→sumB (s.amt tk) a=true→decide (uN (sumW (s.amt tk) a) < M128)=true→moveE s fk tk a=0∧H1.moveSt s fk tk a=(s.setAmt fk (subW (s.amt fk) a)).setAmt tk (sumW (s.amt tk) a)):=by
 have hl0:subB (s.amt fk) a=true→lessE' (s.amt fk) a=0:=fun h=>by unfold lessE'; rw [if_pos (of_decide_eq_true h)]
 have hl1:subB (s.amt fk) a=false→lessE' (s.amt fk) a=13:=fun h=>by unfold lessE'; rw [if_neg (of_decide_eq_false h)]
 obtain ⟨m1,m2,m3⟩:=more_no (s.amt tk) a
 unfold moveE Hand.moveSt
 refine ⟨fun h => ?_,fun h h2 => ?_,fun h h2 h3 => ?_,fun h h2 h3 h4 => ?_⟩
 ·rw [hl1 h,if_neg (by decide),if_neg (fun h=>absurd h.1 (by decide))]; exact ⟨rfl,rfl⟩
 ·rw [hl0 h,if_pos rfl,if_pos h2,if_neg (fun h=>h.2.1 h2)]; exact ⟨rfl,rfl⟩
 ·have h6:moreE (s.amt tk) a=6:=by
   rcases h3 with h3 | h3
   ·exact m1 h3
   ·exact m2 h3
  rw [hl0 h,if_pos rfl,if_neg h2,h6,if_neg (fun h=>absurd h.2.2 (by decide))]; exact ⟨rfl,rfl⟩
 ·obtain ⟨h5,h6⟩:=m3 h3 h4
  rw [hl0 h,if_pos rfl,if_neg h2,h5,if_pos ⟨rfl,h2,rfl⟩,h6]; exact ⟨rfl,rfl⟩
theorem rcMove_q (w:World) (b:Nat) (L:List Nat) (s:St) (f:Nat) (fk tk:ByteArray) (a:W4) (ha:a.Ok) (hq:RRep w b s L) (hf:s.Fit f) (hm:f < 10000000000) :
  Calls Tryz.prog 151 #[.pointer (some ⟨b,0,none⟩),.string fk,.string tk,uV a] w fun e w'=>e = .returned (.int .i64 (moveE s fk tk a))∧ROn w b L (H1.moveSt s fk tk a) w':=by
 have hq1:=(FV.start hq).alloc (uO a)
 have HAk:Hid (∀ W,FV b w L s [(w.heap.size,uO a)] W→Calls Tryz.prog 88 #[.pointer (some ⟨b,0,none⟩),.string fk] W fun e W'=>e = .returned (uV (s.amt fk))∧Below W.heap.size W W'):=fun W hW=>hW.camt hf (by omega) fk
 have HAtk:Hid (∀ rs W,FV b w L s rs W→Calls Tryz.prog 88 #[.pointer (some ⟨b,0,none⟩),.string tk] W fun e W'=>e = .returned (uV (s.amt tk))∧Below W.heap.size W W'):=fun rs W hW=>hW.camt hf (by omega) tk
 have HL:Hid (∀ W,Calls Tryz.prog 19 #[uV (s.amt fk),uV a] W fun e w'=>e = .returned (.tuple #[uV (subW (s.amt fk) a),.bool (subB (s.amt fk) a)])∧Below W.heap.size W w'):=rsub_u _ a (amt_ok _ _) ha
 have HM:Hid (∀ W,Calls Tryz.prog 21 #[uV (s.amt tk),uV a] W fun e w'=>e = .returned (.tuple #[uV (sumW (s.amt tk) a),.bool (sumB (s.amt tk) a)])∧Below W.heap.size W w'):=radd_u _ a (amt_ok _ _) ha
 have HAm:Hid (∀ rs W,FV b w L s rs W→Calls Tryz.prog 143 #[uV (sumW (s.amt tk) a)] W fun e W'=>e = .returned (.bool (decide (uN (sumW (s.amt tk) a) < M128)))∧FV b w L s rs W'):=fun rs W hW=>QV.reads hW fun _ _=>ramount_any _ (toW_ok _) W
 have HS1:Hid (∀ rs W,FV b w L s rs W→Calls Tryz.prog 153 #[.pointer (some ⟨b,0,none⟩),.string fk,uV (subW (s.amt fk) a)] W fun e W'=>e = .returned (.tuple #[])∧FV b w L (s.setAmt fk (subW (s.amt fk) a)) rs W'):=fun rs W hW=>hW.cset (Nat.lt_of_le_of_lt hf.size (by omega)) fk _
 have hf1:(s.setAmt fk (subW (s.amt fk) a)).Fit (f+2):=hf.setAmt _ _
 have HS2:Hid (∀ rs W,FV b w L (s.setAmt fk (subW (s.amt fk) a)) rs W→Calls Tryz.prog 153 #[.pointer (some ⟨b,0,none⟩),.string tk,uV (sumW (s.amt tk) a)] W fun e W'=>e = .returned (.tuple #[])∧FV b w L ((s.setAmt fk (subW (s.amt fk) a)).setAmt tk (sumW (s.amt tk) a)) rs W'):=fun rs W hW=>hW.cset (Nat.lt_of_le_of_lt hf1.size (by omega)) tk _
 have HE:=Lib.hid (rmove_law s fk tk a)
 generalize (s.setAmt fk (subW (s.amt fk) a)).setAmt tk (sumW (s.amt tk) a)=s2 at *
 generalize s.setAmt fk (subW (s.amt fk) a)=s1 at *
 generalize decide (uN (sumW (s.amt tk) a) < M128)=am at *
 generalize subW (s.amt fk) a=u at *
 generalize subB (s.amt fk) a=er at *
 generalize sumW (s.amt tk) a=v at *
 generalize sumB (s.amt tk) a=em at *
 generalize s.amt fk=xfk at *
 generalize s.amt tk=xtk at *
 generalize moveE s fk tk a=ee at *
 generalize H1.moveSt s fk tk a=sx at *
 clear hf hf1 hq ha
 go_enter Tryz.func151,Tryz.ntmps151
 go_wp2_with fail
 go_upto_region 1 with fail
 generalize w.alloc (uO a)=W0 at *
 have HQ:=Lib.hid hq1
 have HA:Hid (∀ W,Below W0.heap.size W0 W→Calls Tryz.prog 88 #[.pointer (some ⟨b,0,none⟩),.string fk] W fun e W'=>e = .returned (uV xfk)∧Below W.heap.size W W'):=fun W hW=>HAk.out W (hq1.below hW)
 have HB0:=Lib.hid (bl_drew (Below.refl W0.heap.size W0))
 clear hq1
 refine wp_region_rely [[],[],[0,1],[],[0,1,2,3],[0,1,2,3,4],[0,1,2,3,4,5],[0,1,2,3,4,5],[],[0,1,2,3,4,5,6,8],[0,1,2,3,4,5,6,7,8,9]]
  [rgC (Below W0.heap.size W0),rgV 0 (.pointer (some ⟨b,0,none⟩)),rgV 1 (.string fk),rgV 2 (uV xfk),rgV 3 (uV a),rgV 4 (.tuple #[uV u,.bool er]),rgV 5 (.tuple #[uV u,.bool er]),rgV 6 (uV u),rgV 7 (.bool er),rgP 8 (W0.heap.size),rgV 10 (.bool er),rgS 8 9 (u)] _ (by kernel_rfl) (by kernel_rfl) (by kernel_rfl)
  (fun vs=>by simp only [rgAct,rgPut,List.setIfInBounds_toArray,List.set_cons_zero,List.set_cons_succ]; exact rfl)
  ⟨fun _ _ _ hb h=>bl_then h hb,rgV_st,rgV_st,rgV_st,rgV_st,rgV_st,rgV_st,rgV_st,rgV_st,rgP_st,rgV_st,rgS_st,trivial⟩ ?_ ?_ ?_
 ·refine rgAll_yes rfl HB0.out ?_
  iterate 11 refine rgAll_no rfl ?_
  exact trivial
 ·refine ⟨?_,?_,?_,?_,?_,?_,?_,?_,?_,?_,?_,trivial⟩
  ·rintro vs w1 ⟨_,_⟩ K hK
   refine rg_move rfl (.inl rfl) rfl (hK _ _ (.inl (Below.refl _ _)) ?_)
   exact rgNew_one 1 rfl fun _=>rfl
  ·rintro vs w1 ⟨_,_⟩ K hK
   refine rg_move rfl (.inl rfl) rfl (hK _ _ (.inl (Below.refl _ _)) ?_)
   exact rgNew_one 2 rfl fun _=>rfl
  ·rintro vs w1 ⟨hC,e0,e1,_⟩ K hK
   refine rg_fn rfl rfl rfl (by kernel_rfl) (show [vs 0,vs 1]=_ from by rw [rg1 e0,rg1 e1]) (Calls.mono (HA.out _ hC) ?_)
   rintro e w2 ⟨rfl,hb⟩
   refine ⟨_,rfl,hK _ _ (.inl hb) ?_⟩
   exact rgNew_one 3 rfl fun _=>rfl
  ·rintro vs w1 ⟨hC,_⟩ K hK
   refine rg_loadU rfl rfl rfl ((HQ.out.below hC).u4 (x:=a) (by simp)) (hK _ _ (.inl (Below.refl _ _)) ?_)
   exact rgNew_one 4 rfl fun _=>rfl
  ·rintro vs w1 ⟨_,_,_,e2,e3,_⟩ K hK
   refine rg_fn rfl rfl rfl (by kernel_rfl) (show [vs 2,vs 3]=_ from by rw [rg1 e2,rg1 e3]) (Calls.mono (HL.out _) ?_)
   rintro e w2 ⟨rfl,hb⟩
   refine ⟨_,rfl,hK _ _ (.inl hb) ?_⟩
   exact rgNew_one 5 rfl fun _=>rfl
  ·rintro vs w1 ⟨_,_,_,_,_,e4,_⟩ K hK
   refine rg_move rfl (.inl rfl) (rg1 e4) (hK _ _ (.inl (Below.refl _ _)) ?_)
   exact rgNew_one 6 rfl fun _=>rfl
  ·rintro vs w1 ⟨_,_,_,_,_,_,e5,_⟩ K hK
   refine rg_extract rfl rfl (rg1 e5) rfl (hK _ _ (.inl (Below.refl _ _)) ?_)
   exact rgNew_one 7 rfl fun _=>rfl
  ·rintro vs w1 ⟨_,_,_,_,_,_,e5,_⟩ K hK
   refine rg_extract rfl rfl (rg1 e5) rfl (hK _ _ (.inl (Below.refl _ _)) ?_)
   exact rgNew_one 8 rfl fun _=>rfl
  ·rintro vs w1 ⟨hC,_⟩ K hK
   refine rg_allocU rfl rfl (hK _ _ (.inl (bl_alloc (Below.refl _ _) _)) ?_)
   iterate 9 refine rgNew_no rfl ?_
   refine rgNew_yes rfl (fun _=>⟨_,_,rfl,hC.size,heap_alloc_new _ _⟩) ?_
   iterate 2 refine rgNew_no rfl ?_
   exact trivial
  ·rintro vs w1 ⟨hC,_,_,_,_,_,_,e6,⟨_,_,e8,h8,g8⟩,_⟩ K hK
   refine rg_storeU rfl rfl (rg1 e8) (rg1 e6) g8 (hK _ _ (.inr ?_) ?_)
   ·refine rgStay_yes rfl (fun hC _=>bput hC h8) ?_
    iterate 8 refine rgStay_yes rfl (fun h _=>h) ?_
    refine rgStay_yes rfl (fun h _=>rgP_put h) ?_
    iterate 2 refine rgStay_no rfl ?_
    exact trivial
   ·iterate 11 refine rgNew_no rfl ?_
    refine rgNew_yes rfl (fun _=>⟨_,_,by show [vs 8,undef]=_; rw [rg1 e8],setRow_heap _ _ _ _ _ _ g8⟩) ?_
    exact trivial
  ·rintro vs w1 ⟨_,_,_,_,_,_,_,_,e7,_,_,_⟩ K hK
   refine rg_move rfl (.inr rfl) (rg1 e7) (hK _ _ (.inl (Below.refl _ _)) ?_)
   exact rgNew_one 10 rfl fun _=>rfl
 ·intro vs w1 hA
  obtain ⟨hC,e0,e1,e2,e3,e4,e5,e6,e7,⟨p8,_,e8,h8,g8⟩,e10,s9,_⟩:=hA
  have e0:=rg1 e0
  have e1:=rg1 e1
  have e2:=rg1 e2
  have e3:=rg1 e3
  have e4:=rg1 e4
  have e5:=rg1 e5
  have e6:=rg1 e6
  have e7:=rg1 e7
  have e8:=rg1 e8
  have e10:=rg1 e10
  have s9:=rgS_at s9 e8
  simp only [e0,e1,e2,e3,e4,e5,e6,e7,e8,e10]
  have hq2:=HQ.out.add1 hC h8 s9
  have HD0:=Lib.hid (hq2.done)
  clear e0 e1 e2 e3 e4 e5 e6 e7 e8 e10 g8 s9 h8 hC HL HA HAk HB0 HQ
  cases er with
  | false =>
   obtain ⟨he,hx⟩:=HE.out.1 (by trivial)
   subst he hx
   clear HE HS1 HS2 HM HAtk HAm hq2
   go_wp2_with fail
   go_ret
   exact ⟨rfl,HD0.out⟩
  | true =>
   by_cases hft:fk=tk
   ·obtain ⟨he,hx⟩:=HE.out.2.1 (by trivial) hft
    subst he hx hft
    clear HE HS1 HS2 HM HAtk HAm hq2
    go_wp2_with fail
    go_ret
    exact ⟨rfl,HD0.out⟩
   ·have hb:(fk.toList == tk.toList)=false:=lists_ne hft
    have HF:=Lib.hid hft
    clear HD0 hft
    go_wp2_with fail
    go_upto_region 6 with fail
    have HQ1:=Lib.hid hq2
    have HA2:Hid (∀ W,Below w1.heap.size w1 W→Calls Tryz.prog 88 #[.pointer (some ⟨b,0,none⟩),.string tk] W fun e W'=>e = .returned (uV xtk)∧Below W.heap.size W W'):=fun W hW=>HAtk.out _ W (hq2.below hW)
    have HB1:=Lib.hid (bl_drew (Below.refl w1.heap.size w1))
    clear hq2 HAtk
    refine wp_region_rely [[],[],[0,1],[],[0,1,2,3],[0,1,2,3,4],[0,1,2,3,4,5],[0,1,2,3,4,5],[],[0,1,2,3,4,5,6,8],[0,1,2,3,4,5,6,7,8,9]]
     [rgC (Below w1.heap.size w1),rgV 0 (.pointer (some ⟨b,0,none⟩)),rgV 1 (.string tk),rgV 2 (uV xtk),rgV 3 (uV a),rgV 4 (.tuple #[uV v,.bool em]),rgV 5 (.tuple #[uV v,.bool em]),rgV 6 (uV v),rgV 7 (.bool em),rgP 8 (w1.heap.size),rgV 10 (.bool em),rgS 8 9 (v)] _ (by kernel_rfl) (by kernel_rfl) (by kernel_rfl)
     (fun vs=>by simp only [rgAct,rgPut,List.setIfInBounds_toArray,List.set_cons_zero,List.set_cons_succ]; exact rfl)
     ⟨fun _ _ _ hb h=>bl_then h hb,rgV_st,rgV_st,rgV_st,rgV_st,rgV_st,rgV_st,rgV_st,rgV_st,rgP_st,rgV_st,rgS_st,trivial⟩ ?_ ?_ ?_
    ·refine rgAll_yes rfl HB1.out ?_
     iterate 11 refine rgAll_no rfl ?_
     exact trivial
    ·refine ⟨?_,?_,?_,?_,?_,?_,?_,?_,?_,?_,?_,trivial⟩
     ·rintro vs w1 ⟨_,_⟩ K hK
      refine rg_move rfl (.inl rfl) rfl (hK _ _ (.inl (Below.refl _ _)) ?_)
      exact rgNew_one 1 rfl fun _=>rfl
     ·rintro vs w1 ⟨_,_⟩ K hK
      refine rg_move rfl (.inl rfl) rfl (hK _ _ (.inl (Below.refl _ _)) ?_)
      exact rgNew_one 2 rfl fun _=>rfl
     ·rintro vs w1 ⟨hC,e0,e1,_⟩ K hK
      refine rg_fn rfl rfl rfl (by kernel_rfl) (show [vs 0,vs 1]=_ from by rw [rg1 e0,rg1 e1]) (Calls.mono (HA2.out _ hC) ?_)
      rintro e w2 ⟨rfl,hb⟩
      refine ⟨_,rfl,hK _ _ (.inl hb) ?_⟩
      exact rgNew_one 3 rfl fun _=>rfl
     ·rintro vs w1 ⟨hC,_⟩ K hK
      refine rg_loadU rfl rfl rfl ((HQ1.out.below hC).u4 (x:=a) (by simp)) (hK _ _ (.inl (Below.refl _ _)) ?_)
      exact rgNew_one 4 rfl fun _=>rfl
     ·rintro vs w1 ⟨_,_,_,e2,e3,_⟩ K hK
      refine rg_fn rfl rfl rfl (by kernel_rfl) (show [vs 2,vs 3]=_ from by rw [rg1 e2,rg1 e3]) (Calls.mono (HM.out _) ?_)
      rintro e w2 ⟨rfl,hb⟩
      refine ⟨_,rfl,hK _ _ (.inl hb) ?_⟩
      exact rgNew_one 5 rfl fun _=>rfl
     ·rintro vs w1 ⟨_,_,_,_,_,e4,_⟩ K hK
      refine rg_move rfl (.inl rfl) (rg1 e4) (hK _ _ (.inl (Below.refl _ _)) ?_)
      exact rgNew_one 6 rfl fun _=>rfl
     ·rintro vs w1 ⟨_,_,_,_,_,_,e5,_⟩ K hK
      refine rg_extract rfl rfl (rg1 e5) rfl (hK _ _ (.inl (Below.refl _ _)) ?_)
      exact rgNew_one 7 rfl fun _=>rfl
     ·rintro vs w1 ⟨_,_,_,_,_,_,e5,_⟩ K hK
      refine rg_extract rfl rfl (rg1 e5) rfl (hK _ _ (.inl (Below.refl _ _)) ?_)
      exact rgNew_one 8 rfl fun _=>rfl
     ·rintro vs w1 ⟨hC,_⟩ K hK
      refine rg_allocU rfl rfl (hK _ _ (.inl (bl_alloc (Below.refl _ _) _)) ?_)
      iterate 9 refine rgNew_no rfl ?_
      refine rgNew_yes rfl (fun _=>⟨_,_,rfl,hC.size,heap_alloc_new _ _⟩) ?_
      iterate 2 refine rgNew_no rfl ?_
      exact trivial
     ·rintro vs w1 ⟨hC,_,_,_,_,_,_,e6,⟨_,_,e8,h8,g8⟩,_⟩ K hK
      refine rg_storeU rfl rfl (rg1 e8) (rg1 e6) g8 (hK _ _ (.inr ?_) ?_)
      ·refine rgStay_yes rfl (fun hC _=>bput hC h8) ?_
       iterate 8 refine rgStay_yes rfl (fun h _=>h) ?_
       refine rgStay_yes rfl (fun h _=>rgP_put h) ?_
       iterate 2 refine rgStay_no rfl ?_
       exact trivial
      ·iterate 11 refine rgNew_no rfl ?_
       refine rgNew_yes rfl (fun _=>⟨_,_,by show [vs 8,undef]=_; rw [rg1 e8],setRow_heap _ _ _ _ _ _ g8⟩) ?_
       exact trivial
     ·rintro vs w1 ⟨_,_,_,_,_,_,_,_,e7,_,_,_⟩ K hK
      refine rg_move rfl (.inr rfl) (rg1 e7) (hK _ _ (.inl (Below.refl _ _)) ?_)
      exact rgNew_one 10 rfl fun _=>rfl
    ·intro vs w1 hA
     obtain ⟨hC,e0,e1,e2,e3,e4,e5,e6,e7,⟨p8b,_,e8,h8,g8⟩,e10,s9,_⟩:=hA
     have e0:=rg1 e0
     have e1:=rg1 e1
     have e2:=rg1 e2
     have e3:=rg1 e3
     have e4:=rg1 e4
     have e5:=rg1 e5
     have e6:=rg1 e6
     have e7:=rg1 e7
     have e8:=rg1 e8
     have e10:=rg1 e10
     have s9:=rgS_at s9 e8
     simp only [e0,e1,e2,e3,e4,e5,e6,e7,e8,e10]
     have hq3:=HQ1.out.add1 hC h8 s9
     have HD1:=Lib.hid hq3.done
     obtain ⟨v0,v1,v2,v3,_⟩:=row4 (hq3.u4 (g:=p8b) (x:=v) (by simp))
     have HQ3:=Lib.hid hq3
     clear e0 e1 e2 e3 e4 e5 e6 e7 e8 e10 g8 s9 h8 hC HM HA2 HB1 HQ1 hq3
     cases em with
     | false =>
      obtain ⟨he,hx⟩:=HE.out.2.2.1 (by trivial) HF.out (.inl (by trivial))
      subst he hx
      clear HE HS1 HS2 HF HAm HQ3
      go_wp2_with fail
      go_ret
      exact ⟨rfl,HD1.out⟩
     | true =>
      clear HD1
      go_wp2_with fail
      refine Calls.mono (HAm.out _ _ HQ3.out) ?_
      rintro e w4 ⟨rfl,hq4⟩
      have HD1:=Lib.hid hq4.done
      have HQ4:=Lib.hid hq4
      clear v0 v1 v2 v3
      obtain ⟨u0,u1,u2,u3,_⟩:=row4 (hq4.u4 (g:=p8) (x:=u) (by simp))
      clear hq4 HAm HQ3
      cases am with
      | false =>
       obtain ⟨he,hx⟩:=HE.out.2.2.1 (by trivial) HF.out (.inr (by trivial))
       subst he hx
       clear HE HS1 HS2 HF HQ4
       go_wp2_with fail
       go_ret
       exact ⟨rfl,HD1.out⟩
      | true =>
       obtain ⟨he,hx⟩:=HE.out.2.2.2 (by trivial) HF.out (by trivial) (by trivial)
       subst he hx
       have HS1':=Lib.hid (HS1.out _ _ HQ4.out)
       clear HE HS1 HD1 HQ4 HF
       go_wp2_with fail
       refine Calls.mono HS1'.out ?_
       rintro e w5 ⟨rfl,hq5⟩
       clear u0 u1 u2 u3
       obtain ⟨v0,v1,v2,v3,_⟩:=row4 (hq5.u4 (g:=p8b) (x:=v) (by simp))
       have HS2':=Lib.hid (HS2.out _ _ hq5)
       clear hq5 HS1' HS2
       go_wp2_with fail
       refine Calls.mono HS2'.out ?_
       rintro e w6 ⟨rfl,hq6⟩
       have HD:=Lib.hid hq6.done
       clear hq6 HS2'
       go_wp2_with fail
       go_ret
       exact ⟨rfl,HD.out⟩
end Go.Proofs.YtpojljieakdgiaaGreat
