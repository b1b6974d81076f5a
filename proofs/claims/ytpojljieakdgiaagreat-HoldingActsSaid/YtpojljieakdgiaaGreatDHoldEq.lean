/- What is proved here: act of the holding laws, whole; what its states keep. Conditions: sizes. the states of holdings keep their sizes; the holding law's own example, played. No condition. program and reference, on stores with the same entries, do the same in the holding laws: errors, amounts, and the entries that they leave. Condition: keys in order. -/
import Derived.Test.YtpojljieakdgiaaGreatDHoldL
set_option maxRecDepth 100000
set_option maxHeartbeats 16000000
namespace Go.Proofs.YtpojljieakdgiaaGreat
open Go.RowKit
theorem act_other (w:World) (h:Hand) (b:Nat) (K:List Nat) (s m:St) (A:HAct) (h0:A.kd≠0) (h1:A.kd≠1) (h2:A.kd≠2) (h3:A.kd≠3) (hP:PairRep h.ptr h.on b m w K s) :
  Calls Tryz.prog 28 #[.pointer h.ptr,.pointer (some ⟨b,0,none⟩),.agg A.L] w fun e w'=>e = .returned (.bool true)∧POn h b w K s m w':=by
 have hB:=(((QV.start (pairRep_ok _ _ _ _) hP).alloc (actO A)).alloc zO).alloc zO
 rw [World.size_alloc,World.size_alloc] at hB
 obtain ⟨kd,a,o,t,M,X⟩:=A
 simp only at h0 h1 h2 h3
 have HD:=Lib.hid (PV.done hB)
 have k0:(kd == 0)=false:=beq_eq_false_iff_ne.2 h0
 have k1:(kd == 1)=false:=beq_eq_false_iff_ne.2 h1
 have k2:(kd == 2)=false:=beq_eq_false_iff_ne.2 h2
 have k3:(kd == 3)=false:=beq_eq_false_iff_ne.2 h3
 have hE:∀ w,(Op.equalIn 10000 28 (.agg #[.int .u64 0,.int .u64 0,.int .u64 0,.int .u64 0]) (.agg #[.int .u64 0,.int .u64 0,.int .u64 0,.int .u64 0])).run Tryz.prog w = .ok true w:=fun w=>eqU (0,0,0,0) (0,0,0,0) w
 clear hB hP h0 h1 h2 h3
 unfold HAct.L
 go_enter Tryz.func28,Tryz.ntmps28
 go_wp2_with fail
 go_ret
 exact ⟨rfl,HD.out⟩
def Hand.actSt (h:Hand) (s:St) (A:HAct):St:=if A.kd=0 then h.putSt s A.st A.op A.sg A.am A.ax else if A.kd=1 then h.takeSt s A.st A.op A.sg A.am A.ax else if A.kd=2 then h.shiftSt s A.st A.op A.sg A.am else if A.kd=3 then h.cutSt s A.op A.sg A.am A.ax else s
def ractSt (m:St) (A:HAct):St:=if A.kd=0 then rputSt m A.st A.op A.sg A.am A.ax else if A.kd=1 then H1.takeSt m A.st A.op A.sg A.am A.ax else if A.kd=2 then H1.shiftSt m A.st A.op A.sg A.am else if A.kd=3 then H1.cutSt m A.op A.sg A.am A.ax else m
def Hand.actB (h:Hand) (s m:St) (A:HAct):Bool:=if A.kd=0 then decide (h.putE s A.st A.op A.sg A.am A.ax=rputE m A.st A.op A.sg A.am A.ax) else if A.kd=1 then decide (takeW s A.st A.op A.sg A.am A.ax=takeW m A.st A.op A.sg A.am A.ax) && decide (takeE s A.st A.op A.sg A.am A.ax=takeE m A.st A.op A.sg A.am A.ax) else if A.kd=2 then decide (shiftW s A.st A.op A.sg A.am=shiftW m A.st A.op A.sg A.am) && decide (shiftE s A.st A.op A.sg A.am=shiftE m A.st A.op A.sg A.am) else if A.kd=3 then decide (cutW s A.op A.sg A.am A.ax=cutW m A.op A.sg A.am A.ax) && decide (cutE s A.op A.sg A.am A.ax=cutE m A.op A.sg A.am A.ax) else true
theorem act23_any (w:World) (h:Hand) (b:Nat) (K:List Nat) (s m:St) (f0:Nat) (A:HAct) (ha:I63 A.st) (ho:I63 A.op) (ht:I63 A.sg) (hmo:A.am.Ok) (hxo:A.ax.Ok) (hP:PairRep h.ptr h.on b m w K s) (hfs:s.Fit f0) (hfm:m.Fit f0) (hm:f0 < 1000000000) :
  Calls Tryz.prog 28 #[.pointer h.ptr,.pointer (some ⟨b,0,none⟩),.agg A.L] w fun e w'=>e = .returned (.bool (h.actB s m A))∧POn h b w K (h.actSt s A) (ractSt m A) w':=by
 unfold Hand.actB Hand.actSt ractSt
 by_cases h0:A.kd=0
 ·rw [if_pos h0,if_pos h0,if_pos h0]
  exact act_put w h b K s m f0 A h0 ha ho ht hmo hxo hP hfs hfm hm
 ·rw [if_neg h0,if_neg h0,if_neg h0]
  by_cases h1:A.kd=1
  ·rw [if_pos h1,if_pos h1,if_pos h1]
   exact act_take w h b K s m f0 A h1 ha ho ht hmo hxo hP hfs hfm hm
  ·rw [if_neg h1,if_neg h1,if_neg h1]
   by_cases h2:A.kd=2
   ·rw [if_pos h2,if_pos h2,if_pos h2]
    exact act_shift w h b K s m f0 A h2 ha ho ht hmo hxo hP hfs hfm hm
   ·rw [if_neg h2,if_neg h2,if_neg h2]
    by_cases h3:A.kd=3
    ·rw [if_pos h3,if_pos h3,if_pos h3]
     exact act_cut w h b K s m f0 A h3 ha ho ht hmo hxo hP hfs hfm hm
    ·rw [if_neg h3,if_neg h3,if_neg h3]
     exact act_other w h b K s m A h0 h1 h2 h3 hP
theorem Hand.addSt_fit {h:Hand} {s:St} {f:Nat} (hf:s.Fit f) (k:ByteArray) (x:W4):(h.addSt s k x).Fit (f+2):=by
 unfold Hand.addSt; split
 ·exact Hand.st_fit (hf.mono (by omega)) (hf.setAmt _ _)
 ·exact hf.mono (by omega)
theorem Hand.subSt_fit {h:Hand} {s:St} {f:Nat} (hf:s.Fit f) (k:ByteArray) (x:W4):(h.subSt s k x).Fit (f+2):=by
 unfold Hand.subSt; split
 ·exact Hand.st_fit (hf.mono (by omega)) (hf.setAmt _ _)
 ·exact hf.mono (by omega)
theorem Hand.moveSt_fit {h:Hand} {s:St} {f:Nat} (hf:s.Fit f) (k1 k2:ByteArray) (x:W4):(h.moveSt s k1 k2 x).Fit (f+4):=by
 unfold Hand.moveSt; split
 ·have h1:(h.st s (s.setAmt k1 (subW (s.amt k1) x))).Fit (f+2):=Hand.st_fit (hf.mono (by omega)) (hf.setAmt _ _)
  exact Hand.st_fit (h1.mono (by omega)) (h1.setAmt _ _)
 ·exact hf.mono (by omega)
theorem Hand.putSt_fit {h:Hand} {s:St} {f:Nat} (hf:s.Fit f) (a o t:Int) (m x:W4):(h.putSt s a o t m x).Fit (f+6):=by
 unfold Hand.putSt; split
 ·exact Hand.addSt_fit (Hand.wr_fit hf _ _ _ _) _ _
 ·exact hf.mono (by omega)
theorem rputSt_fit {s:St} {f:Nat} (hf:s.Fit f) (a o t:Int) (m x:W4):(rputSt s a o t m x).Fit (f+6):=by
 unfold rputSt; split
 ·exact (Hand.wr_fit (Hand.addSt_fit hf _ _) _ _ _ _).mono (by omega)
 ·exact hf.mono (by omega)
theorem Hand.takeSt_fit {h:Hand} {s:St} {f:Nat} (hf:s.Fit f) (a o t:Int) (m x:W4):(h.takeSt s a o t m x).Fit (f+6):=by
 unfold Hand.takeSt; split
 ·exact (Hand.wr_fit (Hand.subSt_fit hf _ _) _ _ _ _).mono (by omega)
 ·exact hf.mono (by omega)
theorem Hand.shiftSt_fit {h:Hand} {s:St} {f:Nat} (hf:s.Fit f) (a o t:Int) (m:W4):(h.shiftSt s a o t m).Fit (f+8):=by
 unfold Hand.shiftSt; split
 ·exact (Hand.wr_fit (Hand.moveSt_fit hf _ _ _) _ _ _ _).mono (by omega)
 ·exact hf.mono (by omega)
theorem Hand.cutSt_fit {h:Hand} {s:St} {f:Nat} (hf:s.Fit f) (o t:Int) (m x:W4):(h.cutSt s o t m x).Fit (f+2):=by
 unfold Hand.cutSt; split
 ·exact Hand.st_fit (hf.mono (by omega)) (hf.setAmt _ _)
 ·exact hf.mono (by omega)
theorem Hand.actSt_fit {h:Hand} {s:St} {f:Nat} (hf:s.Fit f) (A:HAct):(h.actSt s A).Fit (f+8):=by
 unfold Hand.actSt
 split
 ·exact (Hand.putSt_fit hf _ _ _ _ _).mono (by omega)
 ·split
  ·exact (Hand.takeSt_fit hf _ _ _ _ _).mono (by omega)
  ·split
   ·exact Hand.shiftSt_fit hf _ _ _ _
   ·split
    ·exact (Hand.cutSt_fit hf _ _ _ _).mono (by omega)
    ·exact hf.mono (by omega)
theorem ractSt_fit {s:St} {f:Nat} (hf:s.Fit f) (A:HAct):(ractSt s A).Fit (f+8):=by
 unfold ractSt
 split
 ·exact (rputSt_fit hf _ _ _ _ _).mono (by omega)
 ·split
  ·exact (Hand.takeSt_fit hf _ _ _ _ _).mono (by omega)
  ·split
   ·exact Hand.shiftSt_fit hf _ _ _ _
   ·split
    ·exact (Hand.cutSt_fit hf _ _ _ _).mono (by omega)
    ·exact hf.mono (by omega)
abbrev lvH (q:Option Addr) (L:List Nat):Hand:=⟨q,true,L⟩
abbrev w100:W4:=(100,0,0,0)
abbrev w50:W4:=(50,0,0,0)
def lvs1:St:=⟨[(keyL 10 [7,1],amtB w100),(keyL 11 [7,1],amtB oneW),(keyL 12 [0,1],amtB w100)],[⟨keyL 10 [7,1],emptyB,false⟩,⟨keyL 11 [7,1],emptyB,false⟩,⟨keyL 12 [0,1],emptyB,false⟩]⟩
def lvs2:St:=⟨[(keyL 10 [7,1],amtB w100),(keyL 11 [7,1],amtB oneW),(keyL 12 [0,1],amtB w50)],[⟨keyL 10 [7,1],emptyB,false⟩,⟨keyL 11 [7,1],emptyB,false⟩,⟨keyL 12 [0,1],emptyB,false⟩,⟨keyL 12 [0,1],amtB w100,true⟩]⟩
theorem lv_e1 (q:Option Addr) (L:List Nat):(lvH q L).putE emptySt 7 0 1 oneW w100=0:=by kernel_rfl
theorem lv_s1 (q:Option Addr) (L:List Nat):(lvH q L).putSt emptySt 7 0 1 oneW w100=lvs1:=by kernel_rfl
theorem lv_w1:worthW (lvs1.dep 7 1) (lvs1.fct 7 1) oneW=w100:=by kernel_rfl
theorem lv_c1:cutW lvs1 0 1 (1,0,0,0) (2,0,0,0)=w50:=by kernel_rfl
theorem lv_c2:cutE lvs1 0 1 (1,0,0,0) (2,0,0,0)=0:=by kernel_rfl
theorem lv_s2 (q:Option Addr) (L:List Nat):(lvH q L).cutSt lvs1 0 1 (1,0,0,0) (2,0,0,0)=lvs2:=by kernel_rfl
theorem lv_p2:lvs2.prt 0 1=w50:=by kernel_rfl
theorem lv_l2:strH lvs2 7 = [1]:=by kernel_rfl
theorem lv_f1:lvs1.Fit 6:=by rw [← lv_s1 none []]; exact Hand.putSt_fit St.Fit.empty _ _ _ _ _
theorem lv_f2:lvs2.Fit 8:=by rw [← lv_s2 none []]; exact Hand.cutSt_fit lv_f1 _ _ _ _
theorem w100_ok:W4.Ok w100:=⟨by decide,by decide,by decide,by decide⟩
theorem lv_k2:∀ x∈lvs2.ents,x.1.size < 1000000000000:=by
 intro x hx
 simp only [lvs2,List.mem_cons,List.not_mem_nil,or_false] at hx
 rcases hx with rfl | rfl | rfl <;> decide
theorem new_below (w:World):Calls Tryz.prog 12 #[] w fun e w1=>∃ b L,e = .returned (.pointer (some ⟨b,0,none⟩))∧SRep w1 b emptySt L∧Below w.heap.size w w1∧∀ k∈L,w.heap.size≤k :=
 (new_any w).mono fun _ _ ⟨b,L,he,hS,hF,hL⟩=>⟨b,L,he,hS,hF.below,hL⟩
theorem HV.below_of {h:Hand} {w0 w W:World} {s:St} {rs:List (Nat × Obj)} (hV:HV h w s rs W) (hb:Below w0.heap.size w0 w) (hL:∀ k∈h.L,w0.heap.size≤k):Below w0.heap.size w0 W:=by
 obtain ⟨L',_,st⟩:=HV.done hV
 refine ⟨st.fr.os.trans hb.os,st.fr.tape.trans hb.tape,st.fr.output.trans hb.output,Nat.le_trans hb.size st.fr.size,fun k hk => ?_⟩
 rw [st.fr.block k (Nat.lt_of_lt_of_le hk hb.size) (fun hm=>absurd (hL k hm) (by omega))]
 exact hb.block k hk
theorem lives23 (w:World):Calls Tryz.prog 11 #[] w fun e w'=>e = .returned (.bool true)∧Below w.heap.size w w':=by
 have HN:=Lib.hid (new_below w)
 have HONE:Hid (∀ h w1 s rs W,HV h w1 s rs W→Calls Tryz.prog 13 #[] W fun e w'=>e = .returned (uV oneW)∧HV h w1 s rs w'):=fun h w1 s rs W hW=>QV.reads hW fun _ _=>one_any W
 have HPUT:Hid (∀ q L w1 rs W,HV (lvH q L) w1 emptySt rs W→Calls Tryz.prog 14 #[.pointer q,.int .i64 7,.int .i64 0,.int .i64 1,uV oneW,uV w100] W fun e w'=>e = .returned (.int .i64 0)∧HV (lvH q L) w1 lvs1 rs w'):=fun q L w1 rs W hW=>QV.call hW fun L' h1=>(hPut_q W ⟨q,true,L'⟩ emptySt 0 7 0 1 oneW w100 (by decide) (by decide) (by decide) one_ok w100_ok h1 St.Fit.empty (by decide)).mono fun e w' ⟨he,hO⟩=>⟨he.trans (by rw [lv_e1]),by rw [lv_s1] at hO; exact hO⟩
 have HWO:Hid (∀ q L w1 rs W,HV (lvH q L) w1 lvs1 rs W→Calls Tryz.prog 22 #[.pointer q,.int .i64 7,.int .i64 1,uV oneW] W fun e w'=>e = .returned (uV w100)∧HV (lvH q L) w1 lvs1 rs w'):=fun q L w1 rs W hW=>QV.reads hW fun L' h1=>(hWorth_q W ⟨q,true,L'⟩ lvs1 6 7 1 oneW (by decide) (by decide) one_ok h1 lv_f1 (by decide)).mono fun e w' ⟨he,hO⟩=>⟨he.trans (by rw [lv_w1]),hO⟩
 have HCUT:Hid (∀ q L w1 rs W,HV (lvH q L) w1 lvs1 rs W→Calls Tryz.prog 20 #[.pointer q,.int .i64 0,.int .i64 1,.agg #[.int .u64 1,.int .u64 0,.int .u64 0,.int .u64 0],.agg #[.int .u64 2,.int .u64 0,.int .u64 0,.int .u64 0]] W fun e w'=>e = .returned (.tuple #[uV w50,.int .i64 0])∧HV (lvH q L) w1 lvs2 rs w'):=fun q L w1 rs W hW=>QV.call hW fun L' h1=>(hCut_q W ⟨q,true,L'⟩ lvs1 6 0 1 (1,0,0,0) (2,0,0,0) (by decide) (by decide) ⟨by decide,by decide,by decide,by decide⟩ ⟨by decide,by decide,by decide,by decide⟩ h1 lv_f1 (by decide)).mono fun e w' ⟨he,hO⟩=>⟨he.trans (by rw [lv_c1,lv_c2]),by rw [lv_s2] at hO; exact hO⟩
 have HPA:Hid (∀ q L w1 rs W,HV (lvH q L) w1 lvs2 rs W→Calls Tryz.prog 24 #[.pointer q,.int .i64 0,.int .i64 1] W fun e w'=>e = .returned (uV w50)∧HV (lvH q L) w1 lvs2 rs w'):=fun q L w1 rs W hW=>QV.reads hW fun L' h1=>(hPart_q W ⟨q,true,L'⟩ lvs2 8 0 1 (by decide) (by decide) h1 lv_f2 (by decide)).mono fun e w' ⟨he,hO⟩=>⟨he.trans (by rw [lv_p2]),hO⟩
 have HST:Hid (∀ q L w1 rs W,HV (lvH q L) w1 lvs2 rs W→Calls Tryz.prog 32 #[.pointer q,.int .i64 7] W fun e w'=>∃ a c,e = .returned (.slice a 1 c)∧HV (lvH q L) w1 lvs2 rs w'):=fun q L w1 rs W hW=>by
  obtain ⟨L',h1,_⟩:=hW.on
  refine (hstr_q W ⟨q,true,L'⟩ lvs2 8 7 (by decide) h1 lv_f2 (by decide) lv_k2).mono fun e w' ⟨v,he,ho,hb⟩ => ?_
  rw [lv_l2] at ho
  obtain ⟨a,c,rfl,_⟩:=ho.form
  exact ⟨a,c,he,hW.below hb⟩
 have hE1:∀ w,(Op.equalIn 10000 28 (.agg #[.int .u64 100,.int .u64 0,.int .u64 0,.int .u64 0]) (.agg #[.int .u64 100,.int .u64 0,.int .u64 0,.int .u64 0])).run Tryz.prog w = .ok true w:=fun w=>eqU w100 w100 w
 have hE2:∀ w,(Op.equalIn 10000 28 (.agg #[.int .u64 50,.int .u64 0,.int .u64 0,.int .u64 0]) (.agg #[.int .u64 50,.int .u64 0,.int .u64 0,.int .u64 0])).run Tryz.prog w = .ok true w:=fun w=>eqU w50 w50 w
 have hE3:∀ w,(Op.equalIn 10000 28 (uV w50) (.agg #[.int .u64 50,.int .u64 0,.int .u64 0,.int .u64 0])).run Tryz.prog w = .ok true w:=fun w=>eqU w50 w50 w
 go_enter Tryz.func11,Tryz.ntmps11
 go_wp2_with fail
 refine Calls.mono HN.out ?_
 rintro e w1 ⟨b,L,rfl,hS,hb,hL⟩
 have hq0:HV (lvH (some ⟨b,0,none⟩) L) w1 emptySt [] w1:=HV.start (.inl ⟨rfl,b,rfl,hS⟩)
 have HBO:Hid (∀ s rs W,HV (lvH (some ⟨b,0,none⟩) L) w1 s rs W→Below w.heap.size w W):=fun s rs W hV=>HV.below_of hV hb hL
 have HQ0:=Lib.hid hq0
 clear hq0 hS hb hL HN
 go_wp2_with fail
 refine Calls.mono (HONE.out _ _ _ _ _ HQ0.out) ?_
 rintro e w2 ⟨rfl,hq2⟩
 have HQ2:=Lib.hid hq2
 clear hq2 HQ0
 go_wp2_with fail
 refine Calls.mono (HPUT.out _ _ _ _ _ HQ2.out) ?_
 rintro e w3 ⟨rfl,hq3⟩
 have HQ3:=Lib.hid hq3
 clear hq3 HQ2 HPUT
 go_wp2_with fail
 refine Calls.mono (HONE.out _ _ _ _ _ HQ3.out) ?_
 rintro e w4 ⟨rfl,hq4⟩
 have HQ4:=Lib.hid hq4
 clear hq4 HQ3 HONE
 go_wp2_with fail
 refine Calls.mono (HWO.out _ _ _ _ _ HQ4.out) ?_
 rintro e w5 ⟨rfl,hq5⟩
 have hq6:=hq5.alloc (uO w100)
 clear hq5 HQ4 HWO
 go_upto_region 4 with fail
 generalize w5.alloc (uO w100)=w6 at *
 generalize w5.heap.size=g1 at *
 have HQ6:=Lib.hid hq6
 clear hq6
 go_wp2_with fail
 refine Calls.mono (HCUT.out _ _ _ _ _ HQ6.out) ?_
 rintro e w7 ⟨rfl,hq7⟩
 have hq8:=hq7.alloc (uO w50)
 clear hq7 HQ6 HCUT
 go_upto_region 5 with fail
 generalize w7.alloc (uO w50)=w8 at *
 generalize w7.heap.size=g2 at *
 obtain ⟨a0,a1,a2,a3,_⟩:=row4 (hq8.u4 (g:=g1) (x:=w100) (by simp))
 obtain ⟨b0,b1,b2,b3,_⟩:=row4 (hq8.u4 (g:=g2) (x:=w50) (by simp))
 have HQ8:=Lib.hid hq8
 clear hq8
 go_wp2_with fail
 refine Calls.mono (HPA.out _ _ _ _ _ HQ8.out) ?_
 rintro e w9 ⟨rfl,hq9⟩
 have HQ9:=Lib.hid hq9
 clear hq9 HQ8 HPA a0 a1 a2 a3 b0 b1 b2 b3
 go_wp2_with fail
 refine Calls.mono (HST.out _ _ _ _ _ HQ9.out) ?_
 rintro e w10 ⟨sa,sc,rfl,hq10⟩
 have HB:=Lib.hid (HBO.out _ _ _ hq10)
 clear hq10 HQ9 HST HBO
 go_wp2_with fail
 go_ret
 exact ⟨rfl,HB.out⟩
structure HAct.Ok (A:HAct):Prop where
 st:I63 A.st
 op:I63 A.op
 sg:I63 A.sg
 am:A.am.Ok
 ax:A.ax.Ok
theorem getE_put {s:St} (hs:Sorted s.ents) (k v j:ByteArray):getE (s.put k v).ents j=if k=j then (if v=emptyB then none else if k=emptyB then getE s.ents j else some v) else getE s.ents j:=by
 unfold St.put
 by_cases hv:v=emptyB
 ·rw [if_pos hv,if_pos hv]
  unfold St.del
  split
  ·exact getE_delE _ hs _ _
  ·rename_i h
   by_cases hj:k=j
   ·subst hj
    rw [if_pos rfl]
    cases hg:getE s.ents k with
    | none=>rfl
    | some u=>rw [hg] at h; exact absurd rfl h
   ·rw [if_neg hj]
 ·rw [if_neg hv,if_neg hv]
  by_cases hk:k=emptyB
  ·rw [if_pos hk,if_pos hk]; split <;> rfl
  ·rw [if_neg hk,if_neg hk]
   unfold St.set
   split
   ·rename_i h
    by_cases hj:k=j
    ·subst hj; rw [if_pos rfl]; exact h
    ·rw [if_neg hj]
   ·exact getE_putE _ hs _ _ _
theorem put_comm {s:St} (hs:Sorted s.ents) {k1 k2:ByteArray} (hk:k1≠k2) (u v:ByteArray):((s.put k1 u).put k2 v).ents=((s.put k2 v).put k1 u).ents:=by
 refine sorted_ext (put_srt (put_srt hs _ _) _ _) (put_srt (put_srt hs _ _) _ _) fun j => ?_
 rw [getE_put (put_srt hs _ _),getE_put (put_srt hs _ _),getE_put hs,getE_put hs]
 by_cases h1:k1=j
 ·subst h1
  rw [if_neg (Ne.symm hk),if_neg (Ne.symm hk)]
 ·rw [if_neg h1,if_neg h1]
theorem put_congr {s m:St} (h:s.ents=m.ents) (k v:ByteArray):(s.put k v).ents=(m.put k v).ents:=by
 unfold St.put St.del St.set
 rw [h]
 split
 ·split
  ·rfl
  ·exact h
 ·split
  ·exact h
  ·split
   ·exact h
   ·rfl
theorem amt_congr {s m:St} (h:s.ents=m.ents) (k:ByteArray):s.amt k=m.amt k:=by
 unfold St.amt St.val; rw [h]
theorem dep_congr {s m:St} (h:s.ents=m.ents) (a t:Int):s.dep a t=m.dep a t:=amt_congr h _
theorem prt_congr {s m:St} (h:s.ents=m.ents) (a t:Int):s.prt a t=m.prt a t:=amt_congr h _
theorem fct_congr {s m:St} (h:s.ents=m.ents) (a t:Int):s.fct a t=m.fct a t:=by
 unfold St.fct; rw [amt_congr h]
theorem str_congr {s m:St} (h:s.ents=m.ents) (a:Int):strH s a=strH m a:=by
 unfold strH; rw [h]
theorem amt_other {s:St} (hs:Sorted s.ents) {k j:ByteArray} (hk:k≠j) (x:W4):(s.setAmt k x).amt j=s.amt j:=by
 unfold St.amt St.val St.setAmt
 rw [getE_put hs,if_neg hk]
theorem setAmt_srt {s:St} (hs:Sorted s.ents) (k:ByteArray) (x:W4):Sorted (s.setAmt k x).ents:=put_srt hs _ _
theorem setAmt_congr {s m:St} (h:s.ents=m.ents) (k:ByteArray) (x:W4):(s.setAmt k x).ents=(m.setAmt k x).ents:=put_congr h _ _
theorem Hand.st_on {h:Hand} (hon:h.on=true) (s s':St):h.st s s'=s':=by unfold Hand.st; rw [if_pos hon]
theorem wr_on {h:Hand} (hon:h.on=true) (s:St) (a t:Int) (d f:W4):h.wr s a t d f=(s.setAmt (keyL 10 [a,t]) d).setAmt (keyL 11 [a,t]) (if d=(0,0,0,0) then (0,0,0,0) else f):=by
 unfold Hand.wr Hand.wrD
 rw [Hand.st_on hon,Hand.st_on hon]
theorem wr_congr {h:Hand} (hon:h.on=true) {s m:St} (he:s.ents=m.ents) (a t:Int) (d f:W4):(h.wr s a t d f).ents=(H1.wr m a t d f).ents:=by
 rw [wr_on hon,wr_on rfl]
 exact setAmt_congr (setAmt_congr he _ _) _ _
theorem sub_congr {h:Hand} (hon:h.on=true) {s m:St} (he:s.ents=m.ents) (k:ByteArray) (y:W4):(h.subSt s k y).ents=(H1.subSt m k y).ents:=by
 unfold Hand.subSt
 rw [amt_congr he k]
 split
 ·rw [Hand.st_on hon,Hand.st_on rfl]; exact setAmt_congr he _ _
 ·exact he
theorem move_congr {h:Hand} (hon:h.on=true) {s m:St} (he:s.ents=m.ents) (k1 k2:ByteArray) (y:W4):moveE s k1 k2 y=moveE m k1 k2 y∧(h.moveSt s k1 k2 y).ents=(H1.moveSt m k1 k2 y).ents:=by
 refine ⟨by unfold moveE; rw [amt_congr he k1,amt_congr he k2],?_⟩
 unfold Hand.moveSt
 rw [amt_congr he k1,amt_congr he k2]
 split
 ·rw [Hand.st_on hon,Hand.st_on hon,Hand.st_on rfl,Hand.st_on rfl]
  have h1:=setAmt_congr he k1 (subW (m.amt k1) y)
  exact setAmt_congr h1 _ _
 ·exact he
theorem take_congr {h:Hand} (hon:h.on=true) {s n:St} (he:s.ents=n.ents) (a o t:Int) (m x:W4):takeE s a o t m x=takeE n a o t m x∧takeW s a o t m x=takeW n a o t m x∧(h.takeSt s a o t m x).ents=(H1.takeSt n a o t m x).ents:=by
 have h1:takeE s a o t m x=takeE n a o t m x:=by
  unfold takeE; rw [dep_congr he,fct_congr he,prt_congr he]
 refine ⟨h1,?_,?_⟩
 ·unfold takeW; rw [h1,fct_congr he]
 ·unfold Hand.takeSt
  rw [h1]
  split
  ·rw [dep_congr he,fct_congr he]
   exact wr_congr hon (sub_congr hon he _ _) _ _ _ _
  ·exact he
theorem shift_congr {h:Hand} (hon:h.on=true) {s n:St} (he:s.ents=n.ents) (a o t:Int) (m:W4):shiftE s a o t m=shiftE n a o t m∧shiftW s a o t m=shiftW n a o t m∧(h.shiftSt s a o t m).ents=(H1.shiftSt n a o t m).ents:=by
 have hm:=fun k1 k2 y=>(move_congr hon he k1 k2 y).1
 have h1:shiftE s a o t m=shiftE n a o t m:=by
  unfold shiftE; simp only [dep_congr he,fct_congr he,hm]
 have h0:shiftOk s a o t m=shiftOk n a o t m:=by
  unfold shiftOk; rw [h1,dep_congr he]
 refine ⟨h1,?_,?_⟩
 ·unfold shiftW; rw [h0,dep_congr he,fct_congr he]
 ·unfold Hand.shiftSt
  simp only [h0,dep_congr he,fct_congr he]
  split
  ·exact wr_congr hon (move_congr hon he _ _ _).2 _ _ _ _
  ·exact he
theorem cut_congr {h:Hand} (hon:h.on=true) {s n:St} (he:s.ents=n.ents) (o t:Int) (m x:W4):cutE s o t m x=cutE n o t m x∧cutW s o t m x=cutW n o t m x∧(h.cutSt s o t m x).ents=(H1.cutSt n o t m x).ents:=by
 have h0:cutB s o t m x=cutB n o t m x:=by unfold cutB; rw [prt_congr he]
 refine ⟨by unfold cutE; rw [h0],by unfold cutW; rw [h0,prt_congr he],?_⟩
 unfold Hand.cutSt
 rw [h0,prt_congr he]
 split
 ·rw [Hand.st_on hon,Hand.st_on rfl]; exact setAmt_congr he _ _
 ·exact he
theorem keyL_first {t:Nat} {l:List Int} (h:∀ n∈l,¬ n < 0):(keyL t l).data[0]? = some (UInt8.ofNat t):=by
 rw [keyL_pos h]
 show (keyBytes t l).toArray[0]? = _
 unfold keyBytes
 simp
theorem key_ne12 {a t o:Int} {n:Nat} (hn:n=10∨n=11) (ha:¬ a < 1) (ht:¬ t < 1) (ho:¬ o < 0):keyL n [a,t]≠keyL 12 [o,t]:=fun h=>by
 have h1:=keyL_first (t:=n) (l:=[a,t]) (by intro x hx; simp only [List.mem_cons,List.not_mem_nil,or_false] at hx; rcases hx with rfl | rfl <;> omega)
 have h2:=keyL_first (t:=12) (l:=[o,t]) (by intro x hx; simp only [List.mem_cons,List.not_mem_nil,or_false] at hx; rcases hx with rfl | rfl <;> omega)
 rw [h,h2] at h1
 rcases hn with rfl | rfl <;> exact absurd h1 (by decide)
theorem put_congr23 {h:Hand} (hon:h.on=true) {s n:St} (hs:Sorted s.ents) (he:s.ents=n.ents) (a o t:Int) (m x:W4):h.putE s a o t m x=rputE n a o t m x∧(h.putSt s a o t m x).ents=(rputSt n a o t m x).ents:=by
 obtain ⟨r1,r2,r3,r4,r5⟩:=rput_law n a o t m x
 by_cases hc:putC a o t x
 ·rw [(put_c (h:=h) (s:=s) (m:=m) hc).1,(put_c (h:=h) (s:=s) (m:=m) hc).2,(r1 hc).1,(r1 hc).2]
  exact ⟨rfl,he⟩
 by_cases hm:m=(0,0,0,0)
 ·rw [(put_m (h:=h) (s:=s) hc hm).1,(put_m (h:=h) (s:=s) hc hm).2,(r2 hc hm).1,(r2 hc hm).2]
  exact ⟨rfl,he⟩
 cases hg:growB (s.dep a t) (s.fct a t) m x with
 | false =>
  rw [(put_g (h:=h) (s:=s) hc hm hg).1,(put_g (h:=h) (s:=s) hc hm hg).2]
  rw [dep_congr he,fct_congr he] at hg
  rw [(r3 hc hm hg).1,(r3 hc hm hg).2]
  exact ⟨rfl,he⟩
 | true =>
  have hk:¬ a < 1∧¬ t < 1∧¬ o < 0:=by unfold putC at hc; simp only [not_or] at hc; exact ⟨hc.2.2.1,hc.2.2.2.1,hc.2.2.2.2⟩
  have k10:=key_ne12 (n:=10) (.inl rfl) hk.1 hk.2.1 hk.2.2
  have k11:=key_ne12 (n:=11) (.inr rfl) hk.1 hk.2.1 hk.2.2
  have hp:(h.putS1 s a t m x).amt (keyL 12 [o,t])=n.prt o t:=by
   unfold Hand.putS1
   rw [wr_on hon,amt_other (setAmt_srt hs _ _) k11,amt_other hs k10]
   exact amt_congr he _
  have hE:h.putE s a o t m x=moreE (n.prt o t) x:=by
   unfold Hand.putE; rw [if_neg hc,if_neg hm,if_pos hg,hp]
  have hg':=hg
  rw [dep_congr he,fct_congr he] at hg'
  rcases more_cases (n.prt o t) x with h0 | h6
  ·rw [(r5 hc hm hg' h0).1,(r5 hc hm hg' h0).2]
   refine ⟨hE.trans h0,?_⟩
   unfold Hand.putSt
   rw [if_pos (hE.trans h0)]
   unfold Hand.addSt
   rw [hp,if_pos h0,if_pos (show moreE (n.amt (keyL 12 [o,t])) x=0 from h0),Hand.st_on hon,Hand.st_on rfl]
   unfold Hand.putS1
   rw [wr_on hon,wr_on rfl,dep_congr he,fct_congr he]
   refine (put_comm (setAmt_srt hs _ _) k11 _ _).trans (put_congr ?_ _ _)
   exact (put_comm hs k10 _ _).trans (put_congr (put_congr he _ _) _ _)
  ·rw [(r4 hc hm hg' h6).1,(r4 hc hm hg' h6).2.1]
   refine ⟨hE.trans h6,?_⟩
   rw [putSt_no (hE.trans h6) (by decide)]
   exact he
theorem act_same {h:Hand} (hon:h.on=true) {s m:St} (hs:Sorted s.ents) (he:s.ents=m.ents) (A:HAct):h.actB s m A=true∧(h.actSt s A).ents=(ractSt m A).ents:=by
 unfold Hand.actB Hand.actSt ractSt
 by_cases h0:A.kd=0
 ·rw [if_pos h0,if_pos h0,if_pos h0]
  obtain ⟨h1,h2⟩:=put_congr23 hon hs he A.st A.op A.sg A.am A.ax
  exact ⟨decide_eq_true h1,h2⟩
 rw [if_neg h0,if_neg h0,if_neg h0]
 by_cases h1:A.kd=1
 ·rw [if_pos h1,if_pos h1,if_pos h1]
  obtain ⟨p1,p2,p3⟩:=take_congr hon he A.st A.op A.sg A.am A.ax
  rw [p1,p2]
  exact ⟨by simp,p3⟩
 rw [if_neg h1,if_neg h1,if_neg h1]
 by_cases h2:A.kd=2
 ·rw [if_pos h2,if_pos h2,if_pos h2]
  obtain ⟨p1,p2,p3⟩:=shift_congr hon he A.st A.op A.sg A.am
  rw [p1,p2]
  exact ⟨by simp,p3⟩
 rw [if_neg h2,if_neg h2,if_neg h2]
 by_cases h3:A.kd=3
 ·rw [if_pos h3,if_pos h3,if_pos h3]
  obtain ⟨p1,p2,p3⟩:=cut_congr hon he A.op A.sg A.am A.ax
  rw [p1,p2]
  exact ⟨by simp,p3⟩
 rw [if_neg h3,if_neg h3,if_neg h3]
 exact ⟨rfl,he⟩
end Go.Proofs.YtpojljieakdgiaaGreat
