/- What is proved here: act of the holding laws, whole; what its states keep. Conditions: sizes. the states of holdings keep their sizes; the holding law's own example, played. No condition. -/
import Derived.Test.YtpojljieakdgiaaGreatEHoldL
set_option maxRecDepth 100000
set_option maxHeartbeats 16000000
namespace Go.Proofs.YtpojljieakdgiaaGreat
open Go.RowKit
theorem Hand.addSt_fit {h:Hand} {s:St} {f:Nat} (hf:s.Fit f) (k:ByteArray) (x:W4):(h.addSt s k x).Fit (f+2):=by
 unfold Hand.addSt; split
 ·exact Hand.st_fit (hf.mono (by omega)) (hf.setAmt _ _)
 ·exact hf.mono (by omega)
theorem Hand.subSt_fit {h:Hand} {s:St} {f:Nat} (hf:s.Fit f) (k:ByteArray) (x:W4):(h.subSt s k x).Fit (f+2):=by
 unfold Hand.subSt; split
 ·exact Hand.st_fit (hf.mono (by omega)) (hf.setAmt _ _)
 ·exact hf.mono (by omega)
theorem Hand.putSt_fit {h:Hand} {s:St} {f:Nat} (hf:s.Fit f) (a o t:Int) (m x:W4):(h.putSt s a o t m x).Fit (f+6):=by
 unfold Hand.putSt; split
 ·exact Hand.addSt_fit (Hand.wr_fit hf _ _ _ _) _ _
 ·exact hf.mono (by omega)
theorem Hand.takeSt_fit {h:Hand} {s:St} {f:Nat} (hf:s.Fit f) (a o t:Int) (m x:W4):(h.takeSt s a o t m x).Fit (f+6):=by
 unfold Hand.takeSt; split
 ·exact (Hand.wr_fit (Hand.subSt_fit hf _ _) _ _ _ _).mono (by omega)
 ·exact hf.mono (by omega)
theorem Hand.cutSt_fit {h:Hand} {s:St} {f:Nat} (hf:s.Fit f) (o t:Int) (m x:W4):(h.cutSt s o t m x).Fit (f+2):=by
 unfold Hand.cutSt; split
 ·exact Hand.st_fit (hf.mono (by omega)) (hf.setAmt _ _)
 ·exact hf.mono (by omega)
abbrev lvH (q:Option Addr) (L:List Nat):Hand:=⟨q,true,L⟩
abbrev w100:W4:=(100,0,0,0)
abbrev w50:W4:=(50,0,0,0)
def lvs1:St:=⟨[(keyL 10 [7,1],amtB w100),(keyL 11 [7,1],amtB oneW),(keyL 12 [0,1],amtB w100)],[⟨keyL 10 [7,1],emptyB,false⟩,⟨keyL 11 [7,1],emptyB,false⟩,⟨keyL 12 [0,1],emptyB,false⟩]⟩
def lvs2:St:=⟨[(keyL 10 [7,1],amtB w100),(keyL 11 [7,1],amtB oneW),(keyL 12 [0,1],amtB w50)],[⟨keyL 10 [7,1],emptyB,false⟩,⟨keyL 11 [7,1],emptyB,false⟩,⟨keyL 12 [0,1],emptyB,false⟩,⟨keyL 12 [0,1],amtB w100,true⟩]⟩
theorem lv_e1 (q:Option Addr) (L:List Nat):(lvH q L).putE emptySt 7 0 1 oneW w100=0:=by kernel_rfl
theorem lv_s1 (q:Option Addr) (L:List Nat):(lvH q L).putSt emptySt 7 0 1 oneW w100=lvs1:=by kernel_rfl
theorem lv_w1:worthW (lvs1.dep 7 1) (lvs1.fct 7 1) oneW=w100:=by kernel_rfl
theorem lv_c1:cutW lvs1 0 1 (1,0,0,0) (2,0,0,0)=w50:=by kernel_rfl
theorem lv_c2:cutE lvs1 0 1 (1,0,0,0) (2,0,0,0)=0:=by kernel_rfl
theorem lv_s2 (q:Option Addr) (L:List Nat):(lvH q L).cutSt lvs1 0 1 (1,0,0,0) (2,0,0,0)=lvs2:=by kernel_rfl
theorem lv_p2:lvs2.prt 0 1=w50:=by kernel_rfl
theorem lv_l2:strH lvs2 7 = [1]:=by kernel_rfl
theorem lv_f1:lvs1.Fit 6:=by rw [← lv_s1 none []]; exact Hand.putSt_fit St.Fit.empty _ _ _ _ _
theorem lv_f2:lvs2.Fit 8:=by rw [← lv_s2 none []]; exact Hand.cutSt_fit lv_f1 _ _ _ _
theorem w100_ok:W4.Ok w100:=⟨by decide,by decide,by decide,by decide⟩
theorem lv_k2:∀ x∈lvs2.ents,x.1.size < 1000000000000:=by
 intro x hx
 simp only [lvs2,List.mem_cons,List.not_mem_nil,or_false] at hx
 rcases hx with rfl | rfl | rfl <;> decide
theorem new_below (w:World):Calls Tryz.prog 12 #[] w fun e w1=>∃ b L,e = .returned (.pointer (some ⟨b,0,none⟩))∧SRep w1 b emptySt L∧Below w.heap.size w w1∧∀ k∈L,w.heap.size≤k :=
 (new_any w).mono fun _ _ ⟨b,L,he,hS,hF,hL⟩=>⟨b,L,he,hS,hF.below,hL⟩
theorem HV.below_of {h:Hand} {w0 w W:World} {s:St} {rs:List (Nat × Obj)} (hV:HV h w s rs W) (hb:Below w0.heap.size w0 w) (hL:∀ k∈h.L,w0.heap.size≤k):Below w0.heap.size w0 W:=by
 obtain ⟨L',_,st⟩:=HV.done hV
 refine ⟨st.fr.os.trans hb.os,st.fr.tape.trans hb.tape,st.fr.output.trans hb.output,Nat.le_trans hb.size st.fr.size,fun k hk => ?_⟩
 rw [st.fr.block k (Nat.lt_of_lt_of_le hk hb.size) (fun hm=>absurd (hL k hm) (by omega))]
 exact hb.block k hk
theorem lives23 (w:World):Calls Tryz.prog 11 #[] w fun e w'=>e = .returned (.bool true)∧Below w.heap.size w w':=by
 have HN:=Lib.hid (new_below w)
 have HONE:Hid (∀ h w1 s rs W,HV h w1 s rs W→Calls Tryz.prog 13 #[] W fun e w'=>e = .returned (uV oneW)∧HV h w1 s rs w'):=fun h w1 s rs W hW=>QV.reads hW fun _ _=>one_any W
 have HPUT:Hid (∀ q L w1 rs W,HV (lvH q L) w1 emptySt rs W→Calls Tryz.prog 14 #[.pointer q,.int .i64 7,.int .i64 0,.int .i64 1,uV oneW,uV w100] W fun e w'=>e = .returned (.int .i64 0)∧HV (lvH q L) w1 lvs1 rs w'):=fun q L w1 rs W hW=>QV.call hW fun L' h1=>(hPut_q W ⟨q,true,L'⟩ emptySt 0 7 0 1 oneW w100 (by decide) (by decide) (by decide) one_ok w100_ok h1 St.Fit.empty (by decide)).mono fun e w' ⟨he,hO⟩=>⟨he.trans (by rw [lv_e1]),by rw [lv_s1] at hO; exact hO⟩
 have HWO:Hid (∀ q L w1 rs W,HV (lvH q L) w1 lvs1 rs W→Calls Tryz.prog 22 #[.pointer q,.int .i64 7,.int .i64 1,uV oneW] W fun e w'=>e = .returned (uV w100)∧HV (lvH q L) w1 lvs1 rs w'):=fun q L w1 rs W hW=>QV.reads hW fun L' h1=>(hWorth_q W ⟨q,true,L'⟩ lvs1 6 7 1 oneW (by decide) (by decide) one_ok h1 lv_f1 (by decide)).mono fun e w' ⟨he,hO⟩=>⟨he.trans (by rw [lv_w1]),hO⟩
 have HCUT:Hid (∀ q L w1 rs W,HV (lvH q L) w1 lvs1 rs W→Calls Tryz.prog 20 #[.pointer q,.int .i64 0,.int .i64 1,.agg #[.int .u64 1,.int .u64 0,.int .u64 0,.int .u64 0],.agg #[.int .u64 2,.int .u64 0,.int .u64 0,.int .u64 0]] W fun e w'=>e = .returned (.tuple #[uV w50,.int .i64 0])∧HV (lvH q L) w1 lvs2 rs w'):=fun q L w1 rs W hW=>QV.call hW fun L' h1=>(hCut_q W ⟨q,true,L'⟩ lvs1 6 0 1 (1,0,0,0) (2,0,0,0) (by decide) (by decide) ⟨by decide,by decide,by decide,by decide⟩ ⟨by decide,by decide,by decide,by decide⟩ h1 lv_f1 (by decide)).mono fun e w' ⟨he,hO⟩=>⟨he.trans (by rw [lv_c1,lv_c2]),by rw [lv_s2] at hO; exact hO⟩
 have HPA:Hid (∀ q L w1 rs W,HV (lvH q L) w1 lvs2 rs W→Calls Tryz.prog 24 #[.pointer q,.int .i64 0,.int .i64 1] W fun e w'=>e = .returned (uV w50)∧HV (lvH q L) w1 lvs2 rs w'):=fun q L w1 rs W hW=>QV.reads hW fun L' h1=>(hPart_q W ⟨q,true,L'⟩ lvs2 8 0 1 (by decide) (by decide) h1 lv_f2 (by decide)).mono fun e w' ⟨he,hO⟩=>⟨he.trans (by rw [lv_p2]),hO⟩
 have HST:Hid (∀ q L w1 rs W,HV (lvH q L) w1 lvs2 rs W→Calls Tryz.prog 32 #[.pointer q,.int .i64 7] W fun e w'=>∃ a c,e = .returned (.slice a 1 c)∧HV (lvH q L) w1 lvs2 rs w'):=fun q L w1 rs W hW=>by
  obtain ⟨L',h1,_⟩:=hW.on
  refine (hstr_q W ⟨q,true,L'⟩ lvs2 8 7 (by decide) h1 lv_f2 (by decide) lv_k2).mono fun e w' ⟨v,he,ho,hb⟩ => ?_
  rw [lv_l2] at ho
  obtain ⟨a,c,rfl,_⟩:=ho.form
  exact ⟨a,c,he,hW.below hb⟩
 have hE1:∀ w,(Op.equalIn 10000 28 (.agg #[.int .u64 100,.int .u64 0,.int .u64 0,.int .u64 0]) (.agg #[.int .u64 100,.int .u64 0,.int .u64 0,.int .u64 0])).run Tryz.prog w = .ok true w:=fun w=>eqU w100 w100 w
 have hE2:∀ w,(Op.equalIn 10000 28 (.agg #[.int .u64 50,.int .u64 0,.int .u64 0,.int .u64 0]) (.agg #[.int .u64 50,.int .u64 0,.int .u64 0,.int .u64 0])).run Tryz.prog w = .ok true w:=fun w=>eqU w50 w50 w
 have hE3:∀ w,(Op.equalIn 10000 28 (uV w50) (.agg #[.int .u64 50,.int .u64 0,.int .u64 0,.int .u64 0])).run Tryz.prog w = .ok true w:=fun w=>eqU w50 w50 w
 go_enter Tryz.func11,Tryz.ntmps11
 go_wp2_with fail
 refine Calls.mono HN.out ?_
 rintro e w1 ⟨b,L,rfl,hS,hb,hL⟩
 have hq0:HV (lvH (some ⟨b,0,none⟩) L) w1 emptySt [] w1:=HV.start (.inl ⟨rfl,b,rfl,hS⟩)
 have HBO:Hid (∀ s rs W,HV (lvH (some ⟨b,0,none⟩) L) w1 s rs W→Below w.heap.size w W):=fun s rs W hV=>HV.below_of hV hb hL
 have HQ0:=Lib.hid hq0
 clear hq0 hS hb hL HN
 go_wp2_with fail
 refine Calls.mono (HONE.out _ _ _ _ _ HQ0.out) ?_
 rintro e w2 ⟨rfl,hq2⟩
 have HQ2:=Lib.hid hq2
 clear hq2 HQ0
 go_wp2_with fail
 refine Calls.mono (HPUT.out _ _ _ _ _ HQ2.out) ?_
 rintro e w3 ⟨rfl,hq3⟩
 have HQ3:=Lib.hid hq3
 clear hq3 HQ2 HPUT
 go_wp2_with fail
 refine Calls.mono (HONE.out _ _ _ _ _ HQ3.out) ?_
 rintro e w4 ⟨rfl,hq4⟩
 have HQ4:=Lib.hid hq4
 clear hq4 HQ3 HONE
 go_wp2_with fail
 refine Calls.mono (HWO.out _ _ _ _ _ HQ4.out) ?_
 rintro e w5 ⟨rfl,hq5⟩
 have hq6:=hq5.alloc (uO w100)
 clear hq5 HQ4 HWO
 go_upto_region 4 with fail
 generalize w5.alloc (uO w100)=w6 at *
 generalize w5.heap.size=g1 at *
 have HQ6:=Lib.hid hq6
 clear hq6
 go_wp2_with fail
 refine Calls.mono (HCUT.out _ _ _ _ _ HQ6.out) ?_
 rintro e w7 ⟨rfl,hq7⟩
 have hq8:=hq7.alloc (uO w50)
 clear hq7 HQ6 HCUT
 go_upto_region 5 with fail
 generalize w7.alloc (uO w50)=w8 at *
 generalize w7.heap.size=g2 at *
 obtain ⟨a0,a1,a2,a3,_⟩:=row4 (hq8.u4 (g:=g1) (x:=w100) (by simp))
 obtain ⟨b0,b1,b2,b3,_⟩:=row4 (hq8.u4 (g:=g2) (x:=w50) (by simp))
 have HQ8:=Lib.hid hq8
 clear hq8
 go_wp2_with fail
 refine Calls.mono (HPA.out _ _ _ _ _ HQ8.out) ?_
 rintro e w9 ⟨rfl,hq9⟩
 have HQ9:=Lib.hid hq9
 clear hq9 HQ8 HPA a0 a1 a2 a3 b0 b1 b2 b3
 go_wp2_with fail
 refine Calls.mono (HST.out _ _ _ _ _ HQ9.out) ?_
 rintro e w10 ⟨sa,sc,rfl,hq10⟩
 have HB:=Lib.hid (HBO.out _ _ _ hq10)
 clear hq10 HQ9 HST HBO
 go_wp2_with fail
 go_ret
 exact ⟨rfl,HB.out⟩
structure HAct.Ok (A:HAct):Prop where
 st:I63 A.st
 op:I63 A.op
 sg:I63 A.sg
 am:A.am.Ok
 ax:A.ax.Ok
end Go.Proofs.YtpojljieakdgiaaGreat
