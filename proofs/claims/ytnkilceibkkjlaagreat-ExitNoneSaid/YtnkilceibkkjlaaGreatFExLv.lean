/- What is proved here: the states of the exit laws' own example. No condition. the exit laws' own example, played. No condition. -/
import Derived.Test.YtnkilceibkkjlaaGreatFExAd
import Derived.Test.YtnkilceibkkjlaaGreatFExC
import Derived.Test.YtnkilceibkkjlaaGreatFRelyX
set_option maxRecDepth 100000
set_option maxHeartbeats 16000000
namespace Go.Proofs.YtnkilceibkkjlaaGreat
open Go.RowKit
abbrev xvH (q:Option Addr) (L:List Nat):Hand:=⟨q,true,L⟩
abbrev u100:W4:=(100,0,0,0)
abbrev u50:W4:=(50,0,0,0)
abbrev uHalf:W4:=(500000000000000000,0,0,0)
abbrev lvx:Ex:=⟨8,7,1,0,u100,oneW⟩
abbrev lvsl:W4:=(7766279631452241920,5,0,0)
def xl1:St:=(xvH none []).xadSt emptySt lvx
def xl2:St:=(xvH none []).cutX xl1 lvsl 7 1 0 5 uHalf oneW
theorem xl_e1:xadE emptySt lvx=0:=by kernel_rfl
theorem xl_n1 (q:Option Addr) (L:List Nat):(xvH q L).xadN emptySt lvx=1:=by kernel_rfl
theorem xl_s1 (q:Option Addr) (L:List Nat):(xvH q L).xadSt emptySt lvx=xl1:=by kernel_rfl
theorem xl_i1 (q:Option Addr) (L:List Nat):((xvH q L).ad2 emptySt lvx).int (keyL 14 [])=0:=by kernel_rfl
theorem xl_i2 (q:Option Addr) (L:List Nat):((xvH q L).ad6 emptySt lvx).int (keyL 20 [lvx.st])=0:=by kernel_rfl
theorem xl_g:xl1.ex 1=lvx:=by kernel_rfl
theorem xl_gi:xl1.exIs 1=true:=by kernel_rfl
theorem xl_h:xl1.hlast 16 [7,1]=lvsl:=by kernel_rfl
theorem xl_c1:xcutA xl1 lvsl 7 1 0 5 uHalf oneW=u50:=by kernel_rfl
theorem xl_c2:xcutE 7 0 5 uHalf oneW=0:=by kernel_rfl
theorem xl_s2 (q:Option Addr) (L:List Nat):(xvH q L).cutX xl1 lvsl 7 1 0 5 uHalf oneW=xl2:=by kernel_rfl
theorem xl_p:paysW lvx uHalf=u50:=by kernel_rfl
theorem xl_l:xl2.left 1=u50:=by kernel_rfl
theorem xl_f1:xl1.Fit 16:=Hand.xadSt_fit St.Fit.empty _
theorem xl_f2:xl2.Fit 18:=by
 unfold xl2 Hand.cutX Hand.subSt
 split
 ·exact xl_f1.mono (by omega)
 ·split
  ·exact Hand.st_fit (xl_f1.mono (by omega)) (xl_f1.setAmt _ _)
  ·exact xl_f1.mono (by omega)
theorem u100_ok:W4.Ok u100:=⟨by decide,by decide,by decide,by decide⟩
theorem uHalf_ok:W4.Ok uHalf:=⟨by decide,by decide,by decide,by decide⟩
theorem lvsl_ok:W4.Ok lvsl:=⟨by decide,by decide,by decide,by decide⟩
theorem newB (w:World):Calls Tryz.prog 15 #[] w fun e w1=>∃ b L,e = .returned (.pointer (some ⟨b,0,none⟩))∧SRep w1 b emptySt L∧Below w.heap.size w w1∧∀ k∈L,w.heap.size≤k :=
 (new_any w).mono fun _ _ ⟨b,L,he,hS,hF,hL⟩=>⟨b,L,he,hS,hF.below,hL⟩
theorem HV.belowOf {h:Hand} {w0 w W:World} {s:St} {rs:List (Nat × Obj)} (hV:HV h w s rs W) (hb:Below w0.heap.size w0 w) (hL:∀ k∈h.L,w0.heap.size≤k):Below w0.heap.size w0 W:=by
 obtain ⟨L',_,st⟩:=HV.done hV
 refine ⟨st.fr.os.trans hb.os,st.fr.tape.trans hb.tape,st.fr.output.trans hb.output,Nat.le_trans hb.size st.fr.size,fun k hk => ?_⟩
 rw [st.fr.block k (Nat.lt_of_lt_of_le hk hb.size) (fun hm=>absurd (hL k hm) (by omega))]
 exact hb.block k hk
theorem lives24 (w:World):Calls Tryz.prog 12 #[] w fun e w'=>e = .returned (.bool true)∧Below w.heap.size w w':=by
 have HN:=Lib.hid (newB w)
 have HONE:Hid (∀ W,Calls Tryz.prog 24 #[] W fun e w'=>e = .returned (.agg #[.int .u64 1000000000000000000,.int .u64 0,.int .u64 0,.int .u64 0])∧Below W.heap.size W w'):=one_any
 have HADD:Hid (∀ q L w1 rs W,HV (xvH q L) w1 emptySt rs W→Calls Tryz.prog 37 #[.pointer q,.agg #[.int .i64 8,.int .i64 7,.int .i64 1,.int .i64 0,.int .u64 100,.int .u64 0,.int .u64 0,.int .u64 0,.int .u64 1000000000000000000,.int .u64 0,.int .u64 0,.int .u64 0]] W fun e w'=>e = .returned (.tuple #[.int .i64 1,.int .i64 0])∧HV (xvH q L) w1 xl1 rs w'):=fun q L w1 rs W hW=>QV.call hW fun L' h1=>(xadd_q W ⟨q,true,L'⟩ emptySt 0 lvx rfl ⟨by decide,by decide,by decide,by decide,u100_ok,one_ok⟩ h1 St.Fit.empty (by decide) (by decide) (by rw [xl_i1]; decide) (by rw [xl_i2]; decide)).mono fun e w' ⟨he,hO⟩=>⟨he.trans (by rw [xl_n1,xl_e1]),by rw [xl_s1] at hO; exact hO⟩
 have HGET:Hid (∀ q L w1 rs W,HV (xvH q L) w1 xl1 rs W→Calls Tryz.prog 44 #[.pointer q,.int .i64 1] W fun e w'=>e = .returned (.tuple #[.agg #[.int .i64 8,.int .i64 7,.int .i64 1,.int .i64 0,.int .u64 100,.int .u64 0,.int .u64 0,.int .u64 0,.int .u64 1000000000000000000,.int .u64 0,.int .u64 0,.int .u64 0],.bool true])∧HV (xvH q L) w1 xl1 rs w'):=fun q L w1 rs W hW=>QV.reads hW fun L' h1=>(xGet_q W ⟨q,true,L'⟩ xl1 16 1 (by decide) h1 xl_f1 (by decide)).mono fun e w' ⟨he,hO⟩=>⟨he.trans (by rw [xl_g,xl_gi]; rfl),hO⟩
 have HCUT:Hid (∀ q L w1 rs W,HV (xvH q L) w1 xl1 rs W→Calls Tryz.prog 40 #[.pointer q,.int .i64 7,.int .i64 1,.int .i64 0,.int .i64 5,.agg #[.int .u64 500000000000000000,.int .u64 0,.int .u64 0,.int .u64 0],.agg #[.int .u64 1000000000000000000,.int .u64 0,.int .u64 0,.int .u64 0]] W fun e w'=>e = .returned (.tuple #[.agg #[.int .u64 50,.int .u64 0,.int .u64 0,.int .u64 0],.int .i64 0])∧HV (xvH q L) w1 xl2 rs w'):=fun q L w1 rs W hW=>QV.call hW fun L' h1=>(xcut_q W ⟨q,true,L'⟩ xl1 16 7 1 0 5 uHalf oneW lvsl (by decide) uHalf_ok one_ok lvsl_ok (fun W2 L2 h2=>by
  have:=xslash0_q W2 ⟨q,true,L2⟩ xl1 16 7 1 0 5 (by decide) (by decide) (by decide) (by decide) h2 xl_f1 (by decide)
  rw [xl_h] at this
  exact this) h1 xl_f1 (by decide)).mono fun e w' ⟨he,hO⟩=>⟨he.trans (by rw [xl_c1,xl_c2]; rfl),by rw [xl_s2] at hO; exact hO⟩
 have HPA:Hid (∀ q L w1 s rs W,HV (xvH q L) w1 s rs W→Calls Tryz.prog 13 #[.agg #[.int .i64 8,.int .i64 7,.int .i64 1,.int .i64 0,.int .u64 100,.int .u64 0,.int .u64 0,.int .u64 0,.int .u64 1000000000000000000,.int .u64 0,.int .u64 0,.int .u64 0],.agg #[.int .u64 500000000000000000,.int .u64 0,.int .u64 0,.int .u64 0]] W fun e w'=>e = .returned (.agg #[.int .u64 50,.int .u64 0,.int .u64 0,.int .u64 0])∧HV (xvH q L) w1 s rs w'):=fun q L w1 s rs W hW=>QV.reads hW fun L' h1=>(pays_any lvx uHalf u100_ok one_ok uHalf_ok W).mono fun e w' ⟨he,hO⟩=>⟨he.trans (by rw [xl_p]; rfl),hO⟩
 have HLE:Hid (∀ q L w1 rs W,HV (xvH q L) w1 xl2 rs W→Calls Tryz.prog 45 #[.pointer q,.int .i64 1] W fun e w'=>e = .returned (.agg #[.int .u64 50,.int .u64 0,.int .u64 0,.int .u64 0])∧HV (xvH q L) w1 xl2 rs w'):=fun q L w1 rs W hW=>QV.reads hW fun L' h1=>(xLeft_q W ⟨q,true,L'⟩ xl2 18 1 (by decide) h1 xl_f2 (by decide)).mono fun e w' ⟨he,hO⟩=>⟨he.trans (by rw [xl_l]; rfl),hO⟩
 have hE2:∀ w,(Op.equalIn 10000 24 (.agg #[.int .u64 50,.int .u64 0,.int .u64 0,.int .u64 0]) (.agg #[.int .u64 50,.int .u64 0,.int .u64 0,.int .u64 0])).run Tryz.prog w = .ok true w:=fun w=>eqU u50 u50 w
 go_enter Tryz.func12,Tryz.ntmps12
 go_wp2_with fail
 refine Calls.mono HN.out ?_
 rintro e w1 ⟨b,L,rfl,hS,hb,hL⟩
 have hq0:HV (xvH (some ⟨b,0,none⟩) L) w1 emptySt [] w1:=HV.start (.inl ⟨rfl,b,rfl,hS⟩)
 have HBO:Hid (∀ s rs W,HV (xvH (some ⟨b,0,none⟩) L) w1 s rs W→Below w.heap.size w W):=fun s rs W hV=>HV.belowOf hV hb hL
 have hq2:=hq0.alloc (.cells #[.int .u64 500000000000000000,.int .u64 0,.int .u64 0,.int .u64 0] 24)
 clear hq0 hS hb hL HN
 go_upto_region 3 with fail
 generalize w1.alloc (.cells #[.int .u64 500000000000000000,.int .u64 0,.int .u64 0,.int .u64 0] 24)=w2 at *
 generalize hg1:w1.heap.size=g1 at *
 clear hg1
 have HQ2:=Lib.hid hq2
 clear hq2
 go_wp2_with fail
 refine Calls.mono (HONE.out _) ?_
 rintro e w3 ⟨rfl,hb3⟩
 have HQ3:=Lib.hid (HADD.out _ _ _ _ _ (HQ2.out.below hb3))
 clear hb3 HQ2 HADD
 go_wp2_with fail
 refine Calls.mono HQ3.out ?_
 rintro e w4 ⟨rfl,hq4⟩
 have HQ4:=Lib.hid (HGET.out _ _ _ _ _ hq4)
 clear hq4 HQ3 HGET
 go_wp2_with fail
 refine Calls.mono HQ4.out ?_
 rintro e w5 ⟨rfl,hq5⟩
 have HQ6:=Lib.hid (hq5.alloc (.cells #[.int .i64 8,.int .i64 7,.int .i64 1,.int .i64 0,.int .u64 100,.int .u64 0,.int .u64 0,.int .u64 0,.int .u64 1000000000000000000,.int .u64 0,.int .u64 0,.int .u64 0] 26))
 clear hq5 HQ4
 go_upto_region 5 with fail
 generalize w5.alloc (.cells #[.int .i64 8,.int .i64 7,.int .i64 1,.int .i64 0,.int .u64 100,.int .u64 0,.int .u64 0,.int .u64 0,.int .u64 1000000000000000000,.int .u64 0,.int .u64 0,.int .u64 0] 26)=w6 at *
 generalize w5.heap.size=g5 at *
 have H0:HV (xvH (some ⟨b,0,none⟩) L) w1 xl1 ([] ++ [(g5,(.cells #[.int .i64 8,.int .i64 7,.int .i64 1,.int .i64 0,.int .u64 100,.int .u64 0,.int .u64 0,.int .u64 0,.int .u64 1000000000000000000,.int .u64 0,.int .u64 0,.int .u64 0] 26)),(g1,(.cells #[.int .u64 500000000000000000,.int .u64 0,.int .u64 0,.int .u64 0] 24))]) w6.drew:=HQ6.out.drew
 refine wp_region_turn [[],[],[],[0,1,2],[0,1,2,3],[0,1,2,3,4],[0,1,2,3,4],[],[0,1,2,3,4,5,7],[0,1,2,3,4,5,6,7,8]]
  [.pointer (some ⟨b,0,none⟩),.agg #[.int .u64 500000000000000000,.int .u64 0,.int .u64 0,.int .u64 0],.agg #[.int .u64 1000000000000000000,.int .u64 0,.int .u64 0,.int .u64 0],.tuple #[uV u50,.int .i64 0],.tuple #[uV u50,.int .i64 0],uV u50,.int .i64 0,undef,undef,.int .i64 0] 3 7 8 (fun tb rs W=>(∀ g o,(g,o)∈rs→g5≠g∧g1≠g)∧HV (xvH (some ⟨b,0,none⟩) L) w1 (cond tb xl2 xl1) (rs ++ [(g5,Obj.cells #[.int .i64 8,.int .i64 7,.int .i64 1,.int .i64 0,.int .u64 100,.int .u64 0,.int .u64 0,.int .u64 0,.int .u64 1000000000000000000,.int .u64 0,.int .u64 0,.int .u64 0] 26),(g1,Obj.cells #[.int .u64 500000000000000000,.int .u64 0,.int .u64 0,.int .u64 0] 24)]) W) (zO) (uO u50)
  _ (by kernel_rfl) (by kernel_rfl) (by kernel_rfl)
  (fun vs=>by simp only [rgAct,rgPut,List.setIfInBounds_toArray,List.set_cons_zero,List.set_cons_succ]; exact rfl)
  ⟨fun _ _ h=>(by cases h),H0⟩ ?_ ?_
 ·refine ⟨?_,?_,?_,?_,?_,?_,?_,?_,?_,?_,trivial⟩
  ·refine rx_plain rfl ?_
   intro vs tb rs wx hA hP
   exact rg_move rfl (.inl rfl) rfl ⟨rfl,hP⟩
  ·refine rx_plain rfl ?_
   intro vs tb rs wx hA hP
   exact rg_load _ rfl rfl rfl (hP.2.row (g:=g1) (o:=(.cells #[.int .u64 500000000000000000,.int .u64 0,.int .u64 0,.int .u64 0] 24)) (by simp)) Tryz.underlying24 rfl (by kernel_rfl) ⟨rfl,hP⟩
  ·refine rx_plain rfl ?_
   intro vs tb rs wx hA hP
   refine rg_fn rfl rfl rfl (by kernel_rfl) rfl (Calls.mono ((HONE.out wx).mono fun e w2 h=>And.intro h.1 (And.intro hP.1 (hP.2.below h.2))) ?_)
   rintro e w2 ⟨rfl,hP2⟩
   exact ⟨_,rfl,rfl,hP2⟩
  ·refine rx_turn rfl ?_
   intro vs rs wx hA hP
   obtain ⟨e0,e1,e2,_⟩:=hA
   have e0:vs 0 = .pointer (some ⟨b,0,none⟩):=e0
   have e1:vs 1 = .agg #[.int .u64 500000000000000000,.int .u64 0,.int .u64 0,.int .u64 0]:=e1
   have e2:vs 2 = .agg #[.int .u64 1000000000000000000,.int .u64 0,.int .u64 0,.int .u64 0]:=e2
   refine rg_fn rfl rfl rfl (by kernel_rfl) (show [vs 0,.int .i64 7,.int .i64 1,.int .i64 0,.int .i64 5,vs 1,vs 2]=_ from by rw [e0,e1,e2]) (Calls.mono ((HCUT.out _ _ _ _ _ hP.2).mono fun e w2 h=>And.intro h.1 (And.intro hP.1 h.2)) ?_)
   rintro e w2 ⟨rfl,hP2⟩
   exact ⟨_,rfl,rfl,hP2⟩
  ·refine rx_plain rfl ?_
   intro vs tb rs wx hA hP
   obtain ⟨_,_,_,e3,_⟩:=hA
   have e3:vs 3 = .tuple #[uV u50,.int .i64 0]:=e3
   exact rg_move rfl (.inl rfl) e3 ⟨rfl,hP⟩
  ·refine rx_plain rfl ?_
   intro vs tb rs wx hA hP
   obtain ⟨_,_,_,_,e4,_⟩:=hA
   have e4:vs 4 = .tuple #[uV u50,.int .i64 0]:=e4
   exact rg_extract rfl rfl e4 rfl ⟨rfl,hP⟩
  ·refine rx_plain rfl ?_
   intro vs tb rs wx hA hP
   obtain ⟨_,_,_,_,e4,_⟩:=hA
   have e4:vs 4 = .tuple #[uV u50,.int .i64 0]:=e4
   exact rg_extract rfl rfl e4 rfl ⟨rfl,hP⟩
  ·refine rx_alloc rfl ?_
   intro vs tb wx hP
   exact rg_allocU rfl rfl ⟨_,rfl,fun g o h=>(by rw [List.mem_singleton] at h; cases h; exact ⟨Nat.ne_of_lt (lt_of_at (hP.2.row (g:=g5) (o:=(.cells #[.int .i64 8,.int .i64 7,.int .i64 1,.int .i64 0,.int .u64 100,.int .u64 0,.int .u64 0,.int .u64 0,.int .u64 1000000000000000000,.int .u64 0,.int .u64 0,.int .u64 0] 26)) (by simp))),Nat.ne_of_lt (lt_of_at (hP.2.row (g:=g1) (o:=(.cells #[.int .u64 500000000000000000,.int .u64 0,.int .u64 0,.int .u64 0] 24)) (by simp)))⟩),hP.2.alloc zO⟩
  ·refine rx_fill rfl ?_
   intro vs tb g wx hA hg hP
   obtain ⟨_,_,_,_,_,e5,_⟩:=hA
   have e5:vs 5=uV u50:=e5
   exact rg_storeU (r:=(0,0,0,0)) rfl rfl hg e5 (hP.2.row (g:=g) (o:=zO) (by simp)) ⟨rfl,fun g2 o h=>(by rw [List.mem_singleton] at h; cases h; exact hP.1 g zO (by simp)),hP.2.setRow (g:=g) (cs:=uL (0,0,0,0)) (cs':=uL u50) (t:=24) (by simp) [(g5,Obj.cells #[.int .i64 8,.int .i64 7,.int .i64 1,.int .i64 0,.int .u64 100,.int .u64 0,.int .u64 0,.int .u64 0,.int .u64 1000000000000000000,.int .u64 0,.int .u64 0,.int .u64 0] 26),(g1,Obj.cells #[.int .u64 500000000000000000,.int .u64 0,.int .u64 0,.int .u64 0] 24)] (fun x hx=>⟨List.mem_cons_of_mem _ hx,fun e=>(by have h1:=hP.1 g zO (by simp); simp only [List.mem_cons,List.not_mem_nil,or_false] at hx; rcases hx with rfl | rfl; exact absurd e h1.1; exact absurd e h1.2)⟩)⟩
  ·refine rx_plain rfl ?_
   intro vs tb rs wx hA hP
   obtain ⟨_,_,_,_,_,_,e6,_⟩:=hA
   have e6:vs 6 = .int .i64 0:=e6
   exact rg_move rfl (.inr rfl) e6 ⟨rfl,hP⟩
 ·intro vs gn wn hA hg hR
  obtain ⟨e0,e1,e2,e3,e4,e5,e6,_,_,e9,_⟩:=hA
  have e0:vs 0 = .pointer (some ⟨b,0,none⟩):=e0
  have e1:vs 1 = .agg #[.int .u64 500000000000000000,.int .u64 0,.int .u64 0,.int .u64 0]:=e1
  have e2:vs 2 = .agg #[.int .u64 1000000000000000000,.int .u64 0,.int .u64 0,.int .u64 0]:=e2
  have e3:vs 3 = .tuple #[uV u50,.int .i64 0]:=e3
  have e4:vs 4 = .tuple #[uV u50,.int .i64 0]:=e4
  have e5:vs 5=uV u50:=e5
  have e6:vs 6 = .int .i64 0:=e6
  have e9:vs 9 = .int .i64 0:=e9
  simp only [e0,e1,e2,e3,e4,e5,e6,hg,e9]
  clear e0 e1 e2 e3 e4 e5 e6 hg e9
  have hq7:HV (xvH (some ⟨b,0,none⟩) L) w1 xl2 [(gn,uO u50),(g5,(.cells #[.int .i64 8,.int .i64 7,.int .i64 1,.int .i64 0,.int .u64 100,.int .u64 0,.int .u64 0,.int .u64 0,.int .u64 1000000000000000000,.int .u64 0,.int .u64 0,.int .u64 0] 26)),(g1,(.cells #[.int .u64 500000000000000000,.int .u64 0,.int .u64 0,.int .u64 0] 24))] wn:=hR.2
  have HQ7:=Lib.hid hq7
  clear hR hq7 H0 HONE HCUT HQ6
  have hc:∀ (o:Nat) v,(#[.int .i64 8,.int .i64 7,.int .i64 1,.int .i64 0,.int .u64 100,.int .u64 0,.int .u64 0,.int .u64 0,.int .u64 1000000000000000000,.int .u64 0,.int .u64 0,.int .u64 0]:Array Value)[o]? = some v→wn.cell? ⟨g5,o,none⟩=some v:=fun o v hv=>by rw [cell_of_row _ _ _ _ _ _ (HQ7.out.row (g:=g5) (o:=(.cells #[.int .i64 8,.int .i64 7,.int .i64 1,.int .i64 0,.int .u64 100,.int .u64 0,.int .u64 0,.int .u64 0,.int .u64 1000000000000000000,.int .u64 0,.int .u64 0,.int .u64 0] 26)) (by simp))]; exact hv
  have k0:=hc 0 _ rfl
  have k1:=hc 1 _ rfl
  have k2:=hc 2 _ rfl
  have k3:=hc 3 _ rfl
  have k4:=hc 4 _ rfl
  have k5:=hc 5 _ rfl
  have k6:=hc 6 _ rfl
  have k7:=hc 7 _ rfl
  have k8:=hc 8 _ rfl
  have k9:=hc 9 _ rfl
  have k10:=hc 10 _ rfl
  have k11:=hc 11 _ rfl
  clear hc
  obtain ⟨m0,m1,m2,m3,_⟩:=row4 (x:=uHalf) (HQ7.out.row (g:=g1) (o:=(.cells #[.int .u64 500000000000000000,.int .u64 0,.int .u64 0,.int .u64 0] 24)) (by simp))
  have HP7:=Lib.hid (HPA.out _ _ _ _ _ _ HQ7.out)
  clear HQ7 HPA
  go_wp2_with fail
  refine Calls.mono HP7.out ?_
  rintro e w8 ⟨rfl,hq8⟩
  obtain ⟨n0,n1,n2,n3,_⟩:=row4 (x:=u50) (hq8.row (g:=gn) (o:=uO u50) (by simp))
  have HL8:=Lib.hid (HLE.out _ _ _ _ _ hq8)
  clear k0 k1 k2 k3 k4 k5 k6 k7 k8 k9 k10 k11 m0 m1 m2 m3 hq8 HP7 HLE
  go_wp2_with fail
  refine Calls.mono HL8.out ?_
  rintro e w9 ⟨rfl,hq9⟩
  have HB:=Lib.hid (HBO.out _ _ _ hq9)
  clear hq9 HL8 HBO
  go_wp2_with fail
  go_ret
  exact ⟨rfl,HB.out⟩
end Go.Proofs.YtnkilceibkkjlaaGreat
