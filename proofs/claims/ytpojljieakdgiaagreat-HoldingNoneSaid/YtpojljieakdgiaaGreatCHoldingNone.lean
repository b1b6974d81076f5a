/- What is proved here: act of the holding laws, whole; what its states keep. Conditions: sizes. the states of holdings keep their sizes; the holding law's own example, played. No condition. the holding laws' act, opened: four ints, two amounts. HoldingNone's walk. Its condition: ints below 2^63, words below 2^64. HoldingNone's walk, whole. Its condition: ints below 2^63, words below 2^64. the given statement HoldingNone -/
import Derived.Test.YtpojljieakdgiaaGreatCHoldL
import Derived.Test.YtpojljieakdgiaaGreatCOpenInts
import Derived.OpenShut
import Derived.Test.YtpojljieakdgiaaGreatCRow
set_option maxRecDepth 100000
set_option maxHeartbeats 16000000
namespace Go.Proofs.YtpojljieakdgiaaGreat
open Go.RowKit
theorem act_other (w:World) (h:Hand) (b:Nat) (K:List Nat) (s m:St) (A:HAct) (h0:A.kd≠0) (h1:A.kd≠1) (h2:A.kd≠2) (h3:A.kd≠3) (hP:PairRep h.ptr h.on b m w K s) :
  Calls Tryz.prog 28 #[.pointer h.ptr,.pointer (some ⟨b,0,none⟩),.agg A.L] w fun e w'=>e = .returned (.bool true)∧POn h b w K s m w':=by
 have hB:=(((QV.start (pairRep_ok _ _ _ _) hP).alloc (actO A)).alloc zO).alloc zO
 rw [World.size_alloc,World.size_alloc] at hB
 obtain ⟨kd,a,o,t,M,X⟩:=A
 simp only at h0 h1 h2 h3
 have HD:=Lib.hid (PV.done hB)
 have k0:(kd == 0)=false:=beq_eq_false_iff_ne.2 h0
 have k1:(kd == 1)=false:=beq_eq_false_iff_ne.2 h1
 have k2:(kd == 2)=false:=beq_eq_false_iff_ne.2 h2
 have k3:(kd == 3)=false:=beq_eq_false_iff_ne.2 h3
 have hE:∀ w,(Op.equalIn 10000 28 (.agg #[.int .u64 0,.int .u64 0,.int .u64 0,.int .u64 0]) (.agg #[.int .u64 0,.int .u64 0,.int .u64 0,.int .u64 0])).run Tryz.prog w = .ok true w:=fun w=>eqU (0,0,0,0) (0,0,0,0) w
 clear hB hP h0 h1 h2 h3
 unfold HAct.L
 go_enter Tryz.func28,Tryz.ntmps28
 go_wp2_with fail
 go_ret
 exact ⟨rfl,HD.out⟩
def Hand.actSt (h:Hand) (s:St) (A:HAct):St:=if A.kd=0 then h.putSt s A.st A.op A.sg A.am A.ax else if A.kd=1 then h.takeSt s A.st A.op A.sg A.am A.ax else if A.kd=2 then h.shiftSt s A.st A.op A.sg A.am else if A.kd=3 then h.cutSt s A.op A.sg A.am A.ax else s
def ractSt (m:St) (A:HAct):St:=if A.kd=0 then rputSt m A.st A.op A.sg A.am A.ax else if A.kd=1 then H1.takeSt m A.st A.op A.sg A.am A.ax else if A.kd=2 then H1.shiftSt m A.st A.op A.sg A.am else if A.kd=3 then H1.cutSt m A.op A.sg A.am A.ax else m
def Hand.actB (h:Hand) (s m:St) (A:HAct):Bool:=if A.kd=0 then decide (h.putE s A.st A.op A.sg A.am A.ax=rputE m A.st A.op A.sg A.am A.ax) else if A.kd=1 then decide (takeW s A.st A.op A.sg A.am A.ax=takeW m A.st A.op A.sg A.am A.ax) && decide (takeE s A.st A.op A.sg A.am A.ax=takeE m A.st A.op A.sg A.am A.ax) else if A.kd=2 then decide (shiftW s A.st A.op A.sg A.am=shiftW m A.st A.op A.sg A.am) && decide (shiftE s A.st A.op A.sg A.am=shiftE m A.st A.op A.sg A.am) else if A.kd=3 then decide (cutW s A.op A.sg A.am A.ax=cutW m A.op A.sg A.am A.ax) && decide (cutE s A.op A.sg A.am A.ax=cutE m A.op A.sg A.am A.ax) else true
theorem act23_any (w:World) (h:Hand) (b:Nat) (K:List Nat) (s m:St) (f0:Nat) (A:HAct) (ha:I63 A.st) (ho:I63 A.op) (ht:I63 A.sg) (hmo:A.am.Ok) (hxo:A.ax.Ok) (hP:PairRep h.ptr h.on b m w K s) (hfs:s.Fit f0) (hfm:m.Fit f0) (hm:f0 < 1000000000) :
  Calls Tryz.prog 28 #[.pointer h.ptr,.pointer (some ⟨b,0,none⟩),.agg A.L] w fun e w'=>e = .returned (.bool (h.actB s m A))∧POn h b w K (h.actSt s A) (ractSt m A) w':=by
 unfold Hand.actB Hand.actSt ractSt
 by_cases h0:A.kd=0
 ·rw [if_pos h0,if_pos h0,if_pos h0]
  exact act_put w h b K s m f0 A h0 ha ho ht hmo hxo hP hfs hfm hm
 ·rw [if_neg h0,if_neg h0,if_neg h0]
  by_cases h1:A.kd=1
  ·rw [if_pos h1,if_pos h1,if_pos h1]
   exact act_take w h b K s m f0 A h1 ha ho ht hmo hxo hP hfs hfm hm
  ·rw [if_neg h1,if_neg h1,if_neg h1]
   by_cases h2:A.kd=2
   ·rw [if_pos h2,if_pos h2,if_pos h2]
    exact act_shift w h b K s m f0 A h2 ha ho ht hmo hxo hP hfs hfm hm
   ·rw [if_neg h2,if_neg h2,if_neg h2]
    by_cases h3:A.kd=3
    ·rw [if_pos h3,if_pos h3,if_pos h3]
     exact act_cut w h b K s m f0 A h3 ha ho ht hmo hxo hP hfs hfm hm
    ·rw [if_neg h3,if_neg h3,if_neg h3]
     exact act_other w h b K s m A h0 h1 h2 h3 hP
end Go.Proofs.YtpojljieakdgiaaGreat
namespace Go.Proofs.YtpojljieakdgiaaGreat
open Go.RowKit
theorem Hand.addSt_fit {h:Hand} {s:St} {f:Nat} (hf:s.Fit f) (k:ByteArray) (x:W4):(h.addSt s k x).Fit (f+2):=by
 unfold Hand.addSt; split
 ·exact Hand.st_fit (hf.mono (by omega)) (hf.setAmt _ _)
 ·exact hf.mono (by omega)
theorem Hand.putSt_fit {h:Hand} {s:St} {f:Nat} (hf:s.Fit f) (a o t:Int) (m x:W4):(h.putSt s a o t m x).Fit (f+6):=by
 unfold Hand.putSt; split
 ·exact Hand.addSt_fit (Hand.wr_fit hf _ _ _ _) _ _
 ·exact hf.mono (by omega)
theorem Hand.cutSt_fit {h:Hand} {s:St} {f:Nat} (hf:s.Fit f) (o t:Int) (m x:W4):(h.cutSt s o t m x).Fit (f+2):=by
 unfold Hand.cutSt; split
 ·exact Hand.st_fit (hf.mono (by omega)) (hf.setAmt _ _)
 ·exact hf.mono (by omega)
abbrev lvH (q:Option Addr) (L:List Nat):Hand:=⟨q,true,L⟩
abbrev w100:W4:=(100,0,0,0)
abbrev w50:W4:=(50,0,0,0)
def lvs1:St:=⟨[(keyL 10 [7,1],amtB w100),(keyL 11 [7,1],amtB oneW),(keyL 12 [0,1],amtB w100)],[⟨keyL 10 [7,1],emptyB,false⟩,⟨keyL 11 [7,1],emptyB,false⟩,⟨keyL 12 [0,1],emptyB,false⟩]⟩
def lvs2:St:=⟨[(keyL 10 [7,1],amtB w100),(keyL 11 [7,1],amtB oneW),(keyL 12 [0,1],amtB w50)],[⟨keyL 10 [7,1],emptyB,false⟩,⟨keyL 11 [7,1],emptyB,false⟩,⟨keyL 12 [0,1],emptyB,false⟩,⟨keyL 12 [0,1],amtB w100,true⟩]⟩
theorem lv_e1 (q:Option Addr) (L:List Nat):(lvH q L).putE emptySt 7 0 1 oneW w100=0:=by kernel_rfl
theorem lv_s1 (q:Option Addr) (L:List Nat):(lvH q L).putSt emptySt 7 0 1 oneW w100=lvs1:=by kernel_rfl
theorem lv_w1:worthW (lvs1.dep 7 1) (lvs1.fct 7 1) oneW=w100:=by kernel_rfl
theorem lv_c1:cutW lvs1 0 1 (1,0,0,0) (2,0,0,0)=w50:=by kernel_rfl
theorem lv_c2:cutE lvs1 0 1 (1,0,0,0) (2,0,0,0)=0:=by kernel_rfl
theorem lv_s2 (q:Option Addr) (L:List Nat):(lvH q L).cutSt lvs1 0 1 (1,0,0,0) (2,0,0,0)=lvs2:=by kernel_rfl
theorem lv_p2:lvs2.prt 0 1=w50:=by kernel_rfl
theorem lv_l2:strH lvs2 7 = [1]:=by kernel_rfl
theorem lv_f1:lvs1.Fit 6:=by rw [← lv_s1 none []]; exact Hand.putSt_fit St.Fit.empty _ _ _ _ _
theorem lv_f2:lvs2.Fit 8:=by rw [← lv_s2 none []]; exact Hand.cutSt_fit lv_f1 _ _ _ _
theorem w100_ok:W4.Ok w100:=⟨by decide,by decide,by decide,by decide⟩
theorem lv_k2:∀ x∈lvs2.ents,x.1.size < 1000000000000:=by
 intro x hx
 simp only [lvs2,List.mem_cons,List.not_mem_nil,or_false] at hx
 rcases hx with rfl | rfl | rfl <;> decide
theorem new_below (w:World):Calls Tryz.prog 12 #[] w fun e w1=>∃ b L,e = .returned (.pointer (some ⟨b,0,none⟩))∧SRep w1 b emptySt L∧Below w.heap.size w w1∧∀ k∈L,w.heap.size≤k :=
 (new_any w).mono fun _ _ ⟨b,L,he,hS,hF,hL⟩=>⟨b,L,he,hS,hF.below,hL⟩
theorem HV.below_of {h:Hand} {w0 w W:World} {s:St} {rs:List (Nat × Obj)} (hV:HV h w s rs W) (hb:Below w0.heap.size w0 w) (hL:∀ k∈h.L,w0.heap.size≤k):Below w0.heap.size w0 W:=by
 obtain ⟨L',_,st⟩:=HV.done hV
 refine ⟨st.fr.os.trans hb.os,st.fr.tape.trans hb.tape,st.fr.output.trans hb.output,Nat.le_trans hb.size st.fr.size,fun k hk => ?_⟩
 rw [st.fr.block k (Nat.lt_of_lt_of_le hk hb.size) (fun hm=>absurd (hL k hm) (by omega))]
 exact hb.block k hk
theorem lives23 (w:World):Calls Tryz.prog 11 #[] w fun e w'=>e = .returned (.bool true)∧Below w.heap.size w w':=by
 have HN:=Lib.hid (new_below w)
 have HONE:Hid (∀ h w1 s rs W,HV h w1 s rs W→Calls Tryz.prog 13 #[] W fun e w'=>e = .returned (uV oneW)∧HV h w1 s rs w'):=fun h w1 s rs W hW=>QV.reads hW fun _ _=>one_any W
 have HPUT:Hid (∀ q L w1 rs W,HV (lvH q L) w1 emptySt rs W→Calls Tryz.prog 14 #[.pointer q,.int .i64 7,.int .i64 0,.int .i64 1,uV oneW,uV w100] W fun e w'=>e = .returned (.int .i64 0)∧HV (lvH q L) w1 lvs1 rs w'):=fun q L w1 rs W hW=>QV.call hW fun L' h1=>(hPut_q W ⟨q,true,L'⟩ emptySt 0 7 0 1 oneW w100 (by decide) (by decide) (by decide) one_ok w100_ok h1 St.Fit.empty (by decide)).mono fun e w' ⟨he,hO⟩=>⟨he.trans (by rw [lv_e1]),by rw [lv_s1] at hO; exact hO⟩
 have HWO:Hid (∀ q L w1 rs W,HV (lvH q L) w1 lvs1 rs W→Calls Tryz.prog 22 #[.pointer q,.int .i64 7,.int .i64 1,uV oneW] W fun e w'=>e = .returned (uV w100)∧HV (lvH q L) w1 lvs1 rs w'):=fun q L w1 rs W hW=>QV.reads hW fun L' h1=>(hWorth_q W ⟨q,true,L'⟩ lvs1 6 7 1 oneW (by decide) (by decide) one_ok h1 lv_f1 (by decide)).mono fun e w' ⟨he,hO⟩=>⟨he.trans (by rw [lv_w1]),hO⟩
 have HCUT:Hid (∀ q L w1 rs W,HV (lvH q L) w1 lvs1 rs W→Calls Tryz.prog 20 #[.pointer q,.int .i64 0,.int .i64 1,.agg #[.int .u64 1,.int .u64 0,.int .u64 0,.int .u64 0],.agg #[.int .u64 2,.int .u64 0,.int .u64 0,.int .u64 0]] W fun e w'=>e = .returned (.tuple #[uV w50,.int .i64 0])∧HV (lvH q L) w1 lvs2 rs w'):=fun q L w1 rs W hW=>QV.call hW fun L' h1=>(hCut_q W ⟨q,true,L'⟩ lvs1 6 0 1 (1,0,0,0) (2,0,0,0) (by decide) (by decide) ⟨by decide,by decide,by decide,by decide⟩ ⟨by decide,by decide,by decide,by decide⟩ h1 lv_f1 (by decide)).mono fun e w' ⟨he,hO⟩=>⟨he.trans (by rw [lv_c1,lv_c2]),by rw [lv_s2] at hO; exact hO⟩
 have HPA:Hid (∀ q L w1 rs W,HV (lvH q L) w1 lvs2 rs W→Calls Tryz.prog 24 #[.pointer q,.int .i64 0,.int .i64 1] W fun e w'=>e = .returned (uV w50)∧HV (lvH q L) w1 lvs2 rs w'):=fun q L w1 rs W hW=>QV.reads hW fun L' h1=>(hPart_q W ⟨q,true,L'⟩ lvs2 8 0 1 (by decide) (by decide) h1 lv_f2 (by decide)).mono fun e w' ⟨he,hO⟩=>⟨he.trans (by rw [lv_p2]),hO⟩
 have HST:Hid (∀ q L w1 rs W,HV (lvH q L) w1 lvs2 rs W→Calls Tryz.prog 32 #[.pointer q,.int .i64 7] W fun e w'=>∃ a c,e = .returned (.slice a 1 c)∧HV (lvH q L) w1 lvs2 rs w'):=fun q L w1 rs W hW=>by
  obtain ⟨L',h1,_⟩:=hW.on
  refine (hstr_q W ⟨q,true,L'⟩ lvs2 8 7 (by decide) h1 lv_f2 (by decide) lv_k2).mono fun e w' ⟨v,he,ho,hb⟩ => ?_
  rw [lv_l2] at ho
  obtain ⟨a,c,rfl,_⟩:=ho.form
  exact ⟨a,c,he,hW.below hb⟩
 have hE1:∀ w,(Op.equalIn 10000 28 (.agg #[.int .u64 100,.int .u64 0,.int .u64 0,.int .u64 0]) (.agg #[.int .u64 100,.int .u64 0,.int .u64 0,.int .u64 0])).run Tryz.prog w = .ok true w:=fun w=>eqU w100 w100 w
 have hE2:∀ w,(Op.equalIn 10000 28 (.agg #[.int .u64 50,.int .u64 0,.int .u64 0,.int .u64 0]) (.agg #[.int .u64 50,.int .u64 0,.int .u64 0,.int .u64 0])).run Tryz.prog w = .ok true w:=fun w=>eqU w50 w50 w
 have hE3:∀ w,(Op.equalIn 10000 28 (uV w50) (.agg #[.int .u64 50,.int .u64 0,.int .u64 0,.int .u64 0])).run Tryz.prog w = .ok true w:=fun w=>eqU w50 w50 w
 go_enter Tryz.func11,Tryz.ntmps11
 go_wp2_with fail
 refine Calls.mono HN.out ?_
 rintro e w1 ⟨b,L,rfl,hS,hb,hL⟩
 have hq0:HV (lvH (some ⟨b,0,none⟩) L) w1 emptySt [] w1:=HV.start (.inl ⟨rfl,b,rfl,hS⟩)
 have HBO:Hid (∀ s rs W,HV (lvH (some ⟨b,0,none⟩) L) w1 s rs W→Below w.heap.size w W):=fun s rs W hV=>HV.below_of hV hb hL
 have HQ0:=Lib.hid hq0
 clear hq0 hS hb hL HN
 go_wp2_with fail
 refine Calls.mono (HONE.out _ _ _ _ _ HQ0.out) ?_
 rintro e w2 ⟨rfl,hq2⟩
 have HQ2:=Lib.hid hq2
 clear hq2 HQ0
 go_wp2_with fail
 refine Calls.mono (HPUT.out _ _ _ _ _ HQ2.out) ?_
 rintro e w3 ⟨rfl,hq3⟩
 have HQ3:=Lib.hid hq3
 clear hq3 HQ2 HPUT
 go_wp2_with fail
 refine Calls.mono (HONE.out _ _ _ _ _ HQ3.out) ?_
 rintro e w4 ⟨rfl,hq4⟩
 have HQ4:=Lib.hid hq4
 clear hq4 HQ3 HONE
 go_wp2_with fail
 refine Calls.mono (HWO.out _ _ _ _ _ HQ4.out) ?_
 rintro e w5 ⟨rfl,hq5⟩
 have hq6:=hq5.alloc (uO w100)
 clear hq5 HQ4 HWO
 go_upto_region 4 with fail
 generalize w5.alloc (uO w100)=w6 at *
 generalize w5.heap.size=g1 at *
 have HQ6:=Lib.hid hq6
 clear hq6
 go_wp2_with fail
 refine Calls.mono (HCUT.out _ _ _ _ _ HQ6.out) ?_
 rintro e w7 ⟨rfl,hq7⟩
 have hq8:=hq7.alloc (uO w50)
 clear hq7 HQ6 HCUT
 go_upto_region 5 with fail
 generalize w7.alloc (uO w50)=w8 at *
 generalize w7.heap.size=g2 at *
 obtain ⟨a0,a1,a2,a3,_⟩:=row4 (hq8.u4 (g:=g1) (x:=w100) (by simp))
 obtain ⟨b0,b1,b2,b3,_⟩:=row4 (hq8.u4 (g:=g2) (x:=w50) (by simp))
 have HQ8:=Lib.hid hq8
 clear hq8
 go_wp2_with fail
 refine Calls.mono (HPA.out _ _ _ _ _ HQ8.out) ?_
 rintro e w9 ⟨rfl,hq9⟩
 have HQ9:=Lib.hid hq9
 clear hq9 HQ8 HPA a0 a1 a2 a3 b0 b1 b2 b3
 go_wp2_with fail
 refine Calls.mono (HST.out _ _ _ _ _ HQ9.out) ?_
 rintro e w10 ⟨sa,sc,rfl,hq10⟩
 have HB:=Lib.hid (HBO.out _ _ _ hq10)
 clear hq10 HQ9 HST HBO
 go_wp2_with fail
 go_ret
 exact ⟨rfl,HB.out⟩
structure HAct.Ok (A:HAct):Prop where
 st:I63 A.st
 op:I63 A.op
 sg:I63 A.sg
 am:A.am.Ok
 ax:A.ax.Ok
end Go.Proofs.YtpojljieakdgiaaGreat
namespace Go.Proofs.YtpojljieakdgiaaGreat
open Go.RowKit Go.ChangeShapes Go.WideShapes Go.ChangeAt
section
variable {H:Type} {enc:TypeId × Value→H} {w:World} {base:Nat} {spare:Nat→Bool} {held:Bool}
theorem wf_u64o {n:Int} (h:(Lit.int .u64 n).wf=true):∃ m:Nat,n=m∧m < 18446744073709551616:=by
 have e1:IntKind.u64.min=0:=rfl
 have e2:IntKind.u64.max=18446744073709551615:=rfl
 simp only [Lit.wf,Bool.and_eq_true,decide_eq_true_eq,e1,e2] at h
 exact ⟨n.toNat,by omega,by omega⟩
theorem open_wordsO {fuel:Nat} {cs:List Value} {x:DataW H × List MemPlace} (h:DataW.trod enc Tryz.prog w base spare held fuel 28 cs=some x):∃ y:W4,cs=(uL y).toList∧y.Ok:=by
 have hc1:Tryz.prog.cellsOf 26=1:=by kernel_rfl
 have hc4:Tryz.prog.cellsOf 28=4:=by kernel_rfl
 obtain ⟨xs,m,_,_,hlen,hxl,hf⟩:=DataW.trod_array Tryz.underlying28 h
 rw [hc4] at hlen
 match cs,hlen,xs,hxl with
 | [c0,c1,c2,c3],_,[y0,y1,y2,y3],_ =>
  have h0:=hf 0 (by omega)
  have h1:=hf 1 (by omega)
  have h2:=hf 2 (by omega)
  have h3:=hf 3 (by omega)
  simp [hc1] at h0 h1 h2 h3
  obtain ⟨n0,e0,_,s0⟩:=DataW.trod_int Tryz.underlying26 h0
  obtain ⟨n1,e1,_,s1⟩:=DataW.trod_int Tryz.underlying26 h1
  obtain ⟨n2,e2,_,s2⟩:=DataW.trod_int Tryz.underlying26 h2
  obtain ⟨n3,e3,_,s3⟩:=DataW.trod_int Tryz.underlying26 h3
  obtain ⟨m0,rfl,b0⟩:=wf_u64o s0
  obtain ⟨m1,rfl,b1⟩:=wf_u64o s1
  obtain ⟨m2,rfl,b2⟩:=wf_u64o s2
  obtain ⟨m3,rfl,b3⟩:=wf_u64o s3
  simp only [List.cons.injEq,and_true] at e0 e1 e2 e3
  subst e0 e1 e2 e3
  exact ⟨(m0,m1,m2,m3),rfl,b0,b1,b2,b3⟩
theorem open_a23c {fuel:Nat} {cs:List Value} {x:DataW H × List MemPlace} (h:DataW.trod enc Tryz.prog w base spare held fuel 53 cs=some x):∃ A:HAct,cs=A.L.toList∧A.Ok:=by
 have hc1:Tryz.prog.cellsOf 3=1:=by kernel_rfl
 have hc4:Tryz.prog.cellsOf 28=4:=by kernel_rfl
 have hc12:Tryz.prog.cellsOf 53=12:=by kernel_rfl
 obtain ⟨xs,m,_,_,hlen,hxl,hf⟩:=DataW.trod_struct Tryz.underlying53 h
 rw [hc12] at hlen
 match cs,hlen,xs,hxl with
 | [c0,c1,c2,c3,c4,c5,c6,c7,c8,c9,c10,c11],_,[y0,y1,y2,y3,y4,y5],_ =>
  have h0:=hf 0 _ rfl
  have h1:=hf 1 _ rfl
  have h2:=hf 2 _ rfl
  have h3:=hf 3 _ rfl
  have h4:=hf 4 _ rfl
  have h5:=hf 5 _ rfl
  simp [hc1,hc4] at h0 h1 h2 h3 h4 h5
  obtain ⟨n0,e0,_,_⟩:=DataW.trod_int Tryz.underlying3 h0
  obtain ⟨n1,e1,_,s1⟩:=DataW.trod_int Tryz.underlying3 h1
  obtain ⟨n2,e2,_,s2⟩:=DataW.trod_int Tryz.underlying3 h2
  obtain ⟨n3,e3,_,s3⟩:=DataW.trod_int Tryz.underlying3 h3
  obtain ⟨am,e4,k4⟩:=open_wordsO h4
  obtain ⟨ax,e5,k5⟩:=open_wordsO h5
  simp only [List.cons.injEq,and_true] at e0 e1 e2 e3 e4 e5
  obtain ⟨rfl,rfl,rfl,rfl⟩:=e4
  obtain ⟨rfl,rfl,rfl,rfl⟩:=e5
  subst e0 e1 e2 e3
  exact ⟨⟨n0,n1,n2,n3,am,ax⟩,rfl,⟨(wf_lt s1).2,(wf_lt s2).2,(wf_lt s3).2,k4,k5⟩⟩
theorem open_a23 {r:Reach} {b0:Nat} {v:Value} {d:DataW H} {p:List MemPlace} (hv:Value.okWide Tryz.prog w r b0 53 v) (h:DataW.Trod enc Tryz.prog w base spare held 53 v d p) :
  ∃ A:HAct,v = .agg A.L∧A.Ok:=by
 obtain ⟨cs,rfl,hsz⟩:=okWide_struct Tryz.underlying53 hv
 obtain ⟨fuel,hf0⟩:=h
 obtain ⟨A,he,hA⟩:=open_a23c hf0
 obtain ⟨l⟩:=cs
 have hcs:(Value.agg ⟨l⟩).cells.toList=l:=rfl
 rw [hcs] at he
 subst he
 exact ⟨A,rfl,hA⟩
end
structure Acts23In (w:World) (a:Option Addr) (l:List HAct):Prop where
 at0:∀ k A,l[k]? = some A→∃ ad,a=some ad∧∀ j v,A.L[j]? = some v→w.cell? ((ad.add (k*12)).add j)=some v
 ok:∀ A∈l,A.Ok
section
variable {H:Type} {enc:TypeId × Value→H} {w:World} {base:Nat} {spare:Nat→Bool} {held:Bool}
end
end Go.Proofs.YtpojljieakdgiaaGreat
namespace Go.Proofs.YtpojljieakdgiaaGreat
open Go.RowKit
structure HNoneAt (w:World) (A:HAct) (q0:Option Addr) (wr:World):Prop where
 hb:Below w.heap.size w wr
 no:NoStore wr q0
 box:wr.heap[w.heap.size]? = some (actO A)
theorem HNoneAt.below {w:World} {A:HAct} {q0:Option Addr} {wr w':World} (h:HNoneAt w A q0 wr) (hb:Below wr.heap.size wr w'):HNoneAt w A q0 w' :=
 ⟨bl_then h.hb hb,h.no.below hb,(hb.block _ (lt_of_at h.box)).trans h.box⟩
theorem rnew_rep (w:World):RRep (w.alloc (.cells #[.slice none 0 0,.slice none 0 0] 58)) w.heap.size ⟨[],[]⟩ [w.heap.size] :=
 ⟨.slice none 0 0,.slice none 0 0,⟨heap_alloc_new w _,Own.nil _ _ _,Own.nil _ _ _,List.Pairwise.nil,by simp [Value.ownBlock]⟩,by simp [rids,Value.ownBlock]⟩
theorem none_dep (a t:Int):St.dep ⟨[],[]⟩ a t=(0,0,0,0):=by
 show toAmt emptyB=_
 unfold toAmt
 rw [if_neg (by decide)]
theorem none_prt (a t:Int):St.prt ⟨[],[]⟩ a t=(0,0,0,0):=none_dep a t
theorem none_fct (a t:Int):St.fct ⟨[],[]⟩ a t=oneW:=by
 unfold St.fct
 rw [if_pos (show St.amt ⟨[],[]⟩ (keyL 11 [a,t])=(0,0,0,0) from none_dep a t)]
theorem none_worth (a t:Int) (m:W4):worthW (St.dep ⟨[],[]⟩ a t) (St.fct ⟨[],[]⟩ a t) m=(0,0,0,0):=by
 rw [none_dep,none_fct]
 have hn:worthN (0,0,0,0) oneW m=0:=by
  unfold worthN
  rw [show uN (0,0,0,0)=0 from rfl,Nat.zero_mul,Nat.zero_mul,Nat.zero_div]
 unfold worthW
 rw [hn]
 split <;> rfl
theorem none_str (a:Int):strH ⟨[],[]⟩ a = []:=by
 unfold strH; split <;> rfl
def HNoneRound (w:World) (A:HAct) (q0 q:Option Addr) (wr:World):Prop :=
 Calls Tryz.prog 28 #[.pointer q,.pointer (some ⟨wr.heap.size,0,none⟩),.agg A.L] (wr.alloc (.cells #[.slice none 0 0,.slice none 0 0] 58)) fun e w1=>(∃ b,e = .returned (.bool b))∧HNoneAt w A q0 w1 ∧
 Calls Tryz.prog 16 #[.pointer q,.int .i64 A.st,.int .i64 A.sg] w1 fun e w2=>e = .returned (.agg #[.int .u64 0,.int .u64 0,.int .u64 0,.int .u64 0])∧HNoneAt w A q0 w2 ∧
 Calls Tryz.prog 31 #[.pointer q,.int .i64 A.st,.int .i64 A.sg] w2 fun e w3=>e = .returned (uV oneW)∧HNoneAt w A q0 w3 ∧
 Calls Tryz.prog 13 #[] w3 fun e w4=>e = .returned (uV oneW)∧HNoneAt w A q0 w4 ∧
 Calls Tryz.prog 24 #[.pointer q,.int .i64 A.op,.int .i64 A.sg] w4 fun e w5=>e = .returned (.agg #[.int .u64 0,.int .u64 0,.int .u64 0,.int .u64 0])∧HNoneAt w A q0 w5 ∧
 Calls Tryz.prog 22 #[.pointer q,.int .i64 A.st,.int .i64 A.sg,uV A.am] w5 fun e w6=>e = .returned (.agg #[.int .u64 0,.int .u64 0,.int .u64 0,.int .u64 0])∧HNoneAt w A q0 w6 ∧
 Calls Tryz.prog 32 #[.pointer q,.int .i64 A.st] w6 fun e w7=>(∃ a c,e = .returned (.slice a 0 c))∧HNoneAt w A q0 w7
theorem hnone_round {w wr:World} {A:HAct} {q0 q:Option Addr} (hA:A.Ok) (h:HNoneAt w A q0 wr) (hz:q0=some ⟨w.heap.size+1,0,none⟩) (hq:q=none∨q=q0):HNoneRound w A q0 q wr:=by
 obtain ⟨h1,h2,h3,h4,h5⟩:=hA
 have hno:NoStore wr q:=by
  rcases hq with rfl | rfl
  ·exact .inl rfl
  ·exact h.no
 have hlz:w.heap.size+1 < wr.heap.size:=by
  rcases h.no with h6 | ⟨b,h6,h7,_⟩
  ·rw [hz] at h6; cases h6
  ·rw [hz] at h6; cases h6; exact h7
 have hbA:=bl_alloc (Below.refl _ wr) (.cells #[.slice none 0 0,.slice none 0 0] 58)
 have hk1:∀ k∈q.toList.map (·.block),k=w.heap.size+1:=fun k hk=>by
  rcases hq with rfl | rfl
  ·cases hk
  ·rw [hz] at hk
   simpa using hk
 have hP:PairRep q false wr.heap.size ⟨[],[]⟩ (wr.alloc (.cells #[.slice none 0 0,.slice none 0 0] 58)) (q.toList.map (·.block) ++ [wr.heap.size]) ⟨[],[]⟩:=by
  refine ⟨q.toList.map (·.block),[wr.heap.size],rfl,fun k hk hm => ?_,.inr ⟨rfl,hno.below hbA,rfl,rfl⟩,rnew_rep wr⟩
  have:=hk1 k hk
  rw [List.mem_singleton] at hm
  omega
 refine (act23_any _ ⟨q,false,q.toList.map (·.block)⟩ wr.heap.size _ ⟨[],[]⟩ ⟨[],[]⟩ 0 A h1 h2 h3 h4 h5 hP St.Fit.empty St.Fit.empty (by decide)).mono fun e w1 ⟨he,K',hP1,st⟩ => ?_
 have hK:∀ k∈q.toList.map (·.block) ++ [wr.heap.size],w.heap.size+1≤k:=fun k hk=>by
  rcases List.mem_append.1 hk with h6 | h6
  ·rw [hk1 k h6]; omega
  ·rw [List.mem_singleton] at h6; omega
 have hsz:(wr.alloc (.cells #[.slice none 0 0,.slice none 0 0] 58)).heap.size=wr.heap.size+1:=by simp
 have h0:=h.below hbA
 have hno1:NoStore w1 q:=by
  obtain ⟨L,M,_,_,hq1,_⟩:=hP1
  rcases hq1 with ⟨h6,_⟩ | ⟨_,h6,_⟩
  ·cases h6
  ·exact h6
 have hk:∀ k,k < w.heap.size+1→w1.heap[k]? = (wr.alloc (.cells #[.slice none 0 0,.slice none 0 0] 58)).heap[k]?:=fun k hk=>st.fr.block k (by omega) fun hm=>by have:=hK k hm; omega
 have hN1:HNoneAt w A q0 w1:=by
  refine ⟨⟨st.fr.os.trans h0.hb.os,st.fr.tape.trans h0.hb.tape,st.fr.output.trans h0.hb.output,Nat.le_trans h0.hb.size st.fr.size,fun k hk'=>(hk k (by omega)).trans (h0.hb.block k hk')⟩,?_,(hk _ (by omega)).trans h0.box⟩
  rcases hq with rfl | rfl
  ·rcases h0.no with h6 | ⟨b,h6,h7,h8⟩
   ·exact .inl h6
   ·refine .inr ⟨b,h6,Nat.lt_of_lt_of_le h7 st.fr.size,?_⟩
    rw [hz] at h6; cases h6
    rw [World.cell?_of_block (a:=⟨w.heap.size+1,0,none⟩) (st.fr.block (w.heap.size+1) (by omega) fun hm=>by
     have:w.heap.size+1=wr.heap.size:=by simpa using hm
     omega)]
    exact h8
  ·exact hno1
 have hQ:∀ W,NoStore W q→QSt W ⟨q,false,q.toList.map (·.block)⟩ ⟨[],[]⟩:=fun W hW => .inr ⟨rfl,hW,rfl,rfl⟩
 refine ⟨⟨_,he⟩,hN1,?_⟩
 refine (hDeposit_q w1 ⟨q,false,_⟩ ⟨[],[]⟩ 0 A.st A.sg h1 h3 (hQ _ hno1) St.Fit.empty (by decide)).mono fun e w2 ⟨he,b2⟩=>⟨by rw [he,none_dep]; rfl,hN1.below b2,?_⟩
 have hno2:=hno1.below b2
 have hN2:=hN1.below b2
 refine (hFactor_q w2 ⟨q,false,_⟩ ⟨[],[]⟩ 0 A.st A.sg h1 h3 (hQ _ hno2) St.Fit.empty (by decide)).mono fun e w3 ⟨he,b3⟩=>⟨by rw [he,none_fct],hN2.below b3,?_⟩
 have hno3:=hno2.below b3
 have hN3:=hN2.below b3
 refine (one_any w3).mono fun e w4 ⟨he,b4⟩=>⟨he,hN3.below b4,?_⟩
 have hno4:=hno3.below b4
 have hN4:=hN3.below b4
 refine (hPart_q w4 ⟨q,false,_⟩ ⟨[],[]⟩ 0 A.op A.sg h2 h3 (hQ _ hno4) St.Fit.empty (by decide)).mono fun e w5 ⟨he,b5⟩=>⟨by rw [he,none_prt]; rfl,hN4.below b5,?_⟩
 have hno5:=hno4.below b5
 have hN5:=hN4.below b5
 refine (hWorth_q w5 ⟨q,false,_⟩ ⟨[],[]⟩ 0 A.st A.sg A.am h1 h3 h4 (hQ _ hno5) St.Fit.empty (by decide)).mono fun e w6 ⟨he,b6⟩=>⟨by rw [he,none_worth]; rfl,hN5.below b6,?_⟩
 have hno6:=hno5.below b6
 have hN6:=hN5.below b6
 refine (hstr_q w6 ⟨q,false,_⟩ ⟨[],[]⟩ 0 A.st h1 (hQ _ hno6) St.Fit.empty (by decide) (by simp)).mono fun e w7 ⟨v,he,ho,b7⟩=>⟨?_,hN6.below b7⟩
 rw [none_str] at ho
 obtain ⟨a,c,rfl,_⟩:=ho.form
 exact ⟨a,c,he⟩
end Go.Proofs.YtpojljieakdgiaaGreat
namespace Go.Proofs.YtpojljieakdgiaaGreat
open Go.RowKit
theorem index_none23 (a:Nat) (w:World):(Instr.index 68 (.agg #[.pointer none,.pointer (some ⟨a,0,none⟩)]) (.int .i64 0)).run Tryz.prog w = .ok (.pointer none) w:=by kernel_rfl
theorem index_some23 (a:Nat) (w:World):(Instr.index 68 (.agg #[.pointer none,.pointer (some ⟨a,0,none⟩)]) (.int .i64 1)).run Tryz.prog w = .ok (.pointer (some ⟨a,0,none⟩)) w:=by kernel_rfl
theorem none23_walk (A:HAct) (hA:A.Ok) (w:World):Calls Tryz.prog 6 #[.agg A.L] w fun e w'=>e = .returned (.bool true)∧Below w.heap.size w w':=by
 have HW0:Hid (HNoneAt w A (some ⟨w.heap.size+1,0,none⟩) ((w.alloc (actO A)).alloc (.cells #[.bool false,.map none,.slice none 0 0,.slice none 0 0] 67))):=by
  refine ⟨bl_alloc (bl_alloc (Below.refl _ w) _) _,.inr ⟨_,rfl,by simp,?_⟩,?_⟩
  ·have:=heap_alloc_new (w.alloc (actO A)) (.cells #[.bool false,.map none,.slice none 0 0,.slice none 0 0] 67)
   rw [World.size_alloc] at this
   rw [cell_of_row _ _ _ _ _ _ this]; rfl
  ·rw [heap_alloc_old _ _ (by simp)]; exact heap_alloc_new w _
 have HR:Hid (∀ wr q,HNoneAt w A (some ⟨w.heap.size+1,0,none⟩) wr→(q=none∨q=some ⟨w.heap.size+1,0,none⟩)→HNoneRound w A (some ⟨w.heap.size+1,0,none⟩) q wr):=fun wr q h hq=>hnone_round hA h rfl hq
 have HQ:Hid (∀ (k:Nat),k < 2→∃ q,(q=none∨q=some ⟨w.heap.size+1,0,none⟩)∧∀ w',(Instr.index 68 (.agg #[.pointer none,.pointer (some ⟨w.heap.size+1,0,none⟩)]) (.int .i64 k)).run Tryz.prog w' = .ok (.pointer q) w'):=fun k hk=>by
  match k,hk with
  | 0,_=>exact ⟨none,.inl rfl,index_none23 _⟩
  | 1,_=>exact ⟨_,.inr rfl,index_some23 _⟩
 have HL:Hid (∀ wr,HNoneAt w A (some ⟨w.heap.size+1,0,none⟩) wr→Calls Tryz.prog 11 #[] wr fun e w'=>e = .returned (.bool true)∧Below w.heap.size w w'):=fun wr h=>(lives23 wr).mono fun e w' ⟨he,hb⟩=>⟨he,bl_then h.hb hb⟩
 have hE:∀ w,(Op.equalIn 10000 28 (.agg #[.int .u64 0,.int .u64 0,.int .u64 0,.int .u64 0]) (.agg #[.int .u64 0,.int .u64 0,.int .u64 0,.int .u64 0])).run Tryz.prog w = .ok true w:=fun w=>eqU (0,0,0,0) (0,0,0,0) w
 have hEo:∀ w,(Op.equalIn 10000 28 (uV oneW) (uV oneW)).run Tryz.prog w = .ok true w:=fun w=>by
  have:=eqU oneW oneW w
  rwa [decide_eq_true rfl] at this
 obtain ⟨kd,a,o,t,M,X⟩:=A
 have HO:Hid (∀ wr,HNoneAt w ⟨kd,a,o,t,M,X⟩ (some ⟨w.heap.size+1,0,none⟩) wr→_):=fun wr h=>row12 h.box
 dsimp only at HO
 dsimp only [HNoneRound,HAct.L] at HR HW0
 have hEo2:∀ w,(Op.equalIn 10000 28 (.agg (uL oneW)) (.agg (uL oneW))).run Tryz.prog w = .ok true w:=hEo
 generalize oneW=ow at *
 dsimp only [HAct.L]
 go_enter Tryz.func6,Tryz.ntmps6
 go_wp2_with fail
 have HA0:=HW0
 clear HW0 hA
 go_loopw [7] (fun iv wr=>∃ k:Nat,iv = .int .i64 k∧k≤2∧HNoneAt w ⟨kd,a,o,t,M,X⟩ (some ⟨w.heap.size+1,0,none⟩) wr) (fun iv _=>2 - (intOf iv).toNat)
 case atStart=>exact ⟨0,rfl,by omega,HA0.out⟩
 case round =>
  obtain ⟨k,rfl,hk,hA⟩:=hrel
  have HA:=Lib.hid hA
  clear hA HA0
  by_cases hlt:k < 2
  ·obtain ⟨q,hq,hidx⟩:=HQ.out k hlt
   have HC0:=Lib.hid (HR.out wr q HA.out hq)
   obtain ⟨⟨k0,k1,k2,k3⟩,⟨m0,m1,m2,m3⟩,⟨x0,x1,x2,x3⟩⟩:=HO.out _ (HA.out.below (bl_alloc (Below.refl _ wr) (.cells #[.slice none 0 0,.slice none 0 0] 58)))
   have hne:=Nat.ne_of_lt (lt_of_at HA.out.box)
   have hne2:=Ne.symm hne
   clear hq HQ HR HL
   go_wp2_with fail
   refine Calls.mono HC0.out ?_
   rintro e w1 ⟨⟨rb,rfl⟩,hA1,hC⟩
   have HC1:=Lib.hid hC
   clear k0 k1 k2 k3 m0 m1 m2 m3 x0 x1 x2 x3 hC HC0 HA hidx hne hne2
   obtain ⟨⟨k0,k1,k2,k3⟩,⟨m0,m1,m2,m3⟩,⟨x0,x1,x2,x3⟩⟩:=HO.out _ hA1
   clear hA1
   go_wp2_with fail
   refine Calls.mono HC1.out ?_
   rintro e w2 ⟨rfl,hA2,hC⟩
   have HC2:=Lib.hid hC
   clear k0 k1 k2 k3 m0 m1 m2 m3 x0 x1 x2 x3 hC HC1
   obtain ⟨⟨k0,k1,k2,k3⟩,⟨m0,m1,m2,m3⟩,⟨x0,x1,x2,x3⟩⟩:=HO.out _ hA2
   clear hA2
   go_wp2_with fail
   refine Calls.mono HC2.out ?_
   rintro e w3 ⟨rfl,hA3,hC⟩
   have HC3:=Lib.hid hC
   clear k0 k1 k2 k3 m0 m1 m2 m3 x0 x1 x2 x3 hC HC2 hA3
   go_wp2_with fail
   refine Calls.mono HC3.out ?_
   rintro e w4 ⟨rfl,hA4,hC⟩
   have HC4:=Lib.hid hC
   clear hC HC3
   obtain ⟨⟨k0,k1,k2,k3⟩,⟨m0,m1,m2,m3⟩,⟨x0,x1,x2,x3⟩⟩:=HO.out _ hA4
   clear hA4
   go_wp2_with fail
   refine Calls.mono HC4.out ?_
   rintro e w5 ⟨rfl,hA5,hC⟩
   have HC5:=Lib.hid hC
   clear k0 k1 k2 k3 m0 m1 m2 m3 x0 x1 x2 x3 hC HC4
   obtain ⟨⟨k0,k1,k2,k3⟩,⟨m0,m1,m2,m3⟩,⟨x0,x1,x2,x3⟩⟩:=HO.out _ hA5
   clear hA5
   go_wp2_with fail
   refine Calls.mono HC5.out ?_
   rintro e w6 ⟨rfl,hA6,hC⟩
   have HC6:=Lib.hid hC
   clear k0 k1 k2 k3 m0 m1 m2 m3 x0 x1 x2 x3 hC HC5
   obtain ⟨⟨k0,k1,k2,k3⟩,⟨m0,m1,m2,m3⟩,⟨x0,x1,x2,x3⟩⟩:=HO.out _ hA6
   clear hA6
   go_wp2_with fail
   refine Calls.mono HC6.out ?_
   rintro e w7 ⟨⟨sa,sc,rfl⟩,hA7⟩
   have HA7:=Lib.hid hA7
   clear k0 k1 k2 k3 m0 m1 m2 m3 x0 x1 x2 x3 HC6 hA7
   go_wp2_with fail
   go_roundw
   case rel=>exact ⟨k+1,by go_num,by omega,HA7.out⟩
   case measure=>simp [intOf]; omega
  ·obtain rfl:k=2:=by omega
   have HL1:=Lib.hid (HL.out _ HA.out)
   clear HL HR HQ HO HA
   go_wp2_with fail
   refine Calls.mono HL1.out ?_
   rintro e w8 ⟨rfl,hb⟩
   have HB:=Lib.hid hb
   clear hb HL1
   go_wp2_with fail
   go_ret
   exact ⟨rfl,HB.out⟩
end Go.Proofs.YtpojljieakdgiaaGreat
namespace Go.Proofs.YtpojljieakdgiaaGreat.holdingNone
open Go.ChangeShapes Go.WideShapes Go.ChangeAt Go.RowKit
set_option linter.unusedVariables false
theorem params:Tryz.f6.params = #[53]:=rfl
theorem lifted (os:Os) (started:os.Started) (H:Type) (enc:TypeId × Value→H) :
  ReturnsInHanded {} Tryz.checked os 6 .any (Rows.holdingNoneSpec.pre6 enc Tryz.prog Tryz.f6 Rows.holdingNoneRow.domain false) (Rows.holdingNoneSpec.post enc Tryz.prog Tryz.f6 false true false false):=by
 refine returnsInHanded_of_change (C:=Tryz.checked) own started (by kernel_rfl) Tryz.func6
  (ChangeSpec.witness6 (enc:=enc) (C:=Tryz.checked) false ⟨#[],#[.agg #[.int .i64 0,.int .i64 0,.int .i64 0,.int .i64 0,.int .u64 0,.int .u64 0,.int .u64 0,.int .u64 0,.int .u64 0,.int .u64 0,.int .u64 0,.int .u64 0]],[]⟩ 8 (by kernel_rfl) (by kernel_rfl) (by kernel_rfl) (by kernel_rfl)) ?_
 intro W base args ds gs before hval0 hW hcnd _
 have hval:∀ (j:Nat) t v,Tryz.f6.params[j]? = some t→args[j]? = some v→Value.okWide Tryz.prog W .any base t v:=hval0
 have hW':=hW
 obtain ⟨p,q,hA0,hV,rfl,hfz,hnd⟩:=hW
 have hA:DataW.TrodAll enc Tryz.prog W 0 (fun _=>true) true Tryz.f6.params.toList args.toList ds p:=hA0
 rw [params] at hA hval
 obtain ⟨v0,vs0,d0,ds0,p0,q0,hargs,rfl,rfl,h0,r0⟩:=trodAll_cons hA
 obtain ⟨rfl,rfl,rfl⟩:=trodAll_nil r0
 obtain rfl:args = #[v0]:=by cases args; simp_all
 obtain ⟨rfl,rfl⟩:=trodVars_none hV
 obtain ⟨A,rfl,hA1⟩:=open_a23 (hval 0 53 v0 rfl rfl) h0
 clear hA0 hval0
 refine (none23_walk A hA1 W).mono fun e W' ⟨he,hg⟩ => ?_
 subst he
 exact ⟨_,rfl,post_true laid (tb:=4) (by kernel_rfl) rfl (fine_all (by kernel_rfl)) rfl hW' rfl hg⟩
theorem over:Rows.holdingNoneRow.holds Tryz.pinned (OpenSpec.ofChange Rows.holdingNoneSpec) :=
 OpenClaim.holds_of_wide 6 Tryz.f6 rfl rfl rfl rfl rfl rfl rfl ⟨rfl,rfl,rfl,rfl,rfl⟩ rfl rfl rfl rfl rfl (by kernel_rfl) Tryz.func6 (by kernel_rfl)
  (of_decide_eq_true (by kernel_rfl)) (by unfold Func.isWrapper; first | (rw [if_pos (by decide +kernel)]; kernel_rfl) | (rw [if_neg (by decide +kernel)]; exact ⟨rfl,rfl⟩))
  (fun os started H enc _=>lifted os started H enc)
theorem proved:Rows.HoldingNoneSaid :=
 over
#print axioms proved
end Go.Proofs.YtpojljieakdgiaaGreat.holdingNone
