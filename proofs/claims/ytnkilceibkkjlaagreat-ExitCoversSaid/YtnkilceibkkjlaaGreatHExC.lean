/- What is proved here: the reference's withdrawals, read: Scaled, Scale, key, Left, Get, Pays. Conditions: sizes, ints below 2^63, words below 2^64. the reference's withdrawals, read: Get, Pays. Conditions: sizes, ints below 2^63, words below 2^64. exits of the program: Slashable where the block is not behind the delay. Conditions: sizes. exits of the program: Cut. Conditions: sizes. -/
import Derived.Test.YtnkilceibkkjlaaGreatHRFacA
import Derived.Test.YtnkilceibkkjlaaGreatHExA
import Derived.Test.YtnkilceibkkjlaaGreatHExAd
import Derived.Test.YtnkilceibkkjlaaGreatHExHat
import Derived.Test.YtnkilceibkkjlaaGreatHRExAdP
set_option maxRecDepth 100000
set_option maxHeartbeats 16000000
namespace Go.Proofs.YtnkilceibkkjlaaGreat
open Go.RowKit
end Go.Proofs.YtnkilceibkkjlaaGreat
namespace Go.Proofs.YtnkilceibkkjlaaGreat
open Go.RowKit
theorem xslash0_q (w:World) (h:Hand) (s:St) (f:Nat) (o t b d:Int) (ho:I63 o) (ht:I63 t) (hd0:0≤d) (hbd:b≤d) (hq:QSt w h s) (hf:s.Fit f) (hm:f < 100000000000) :
  Calls Tryz.prog 46 #[.pointer h.ptr,.int .i64 o,.int .i64 t,.int .i64 b,.int .i64 d] w fun e w'=>e = .returned (uV (s.hlast 16 [o,t]))∧Below w.heap.size w w':=by
 have hB:=(BV.start w).alloc zO
 have hl:IdOk [o,t]:=⟨by simp,fun y hy=>by
  rcases List.mem_cons.1 hy with h | h
  ·subst h; exact ho
  ·rw [List.mem_singleton] at h; subst h; exact ht⟩
 have HLA:Hid (∀ rs W g,(g,i2O o t)∈rs→BV w rs W→Calls Tryz.prog 117 #[.pointer h.ptr,.int .i64 16,.slice (some ⟨g,0,none⟩) 2 2] W fun e w'=>e = .returned (.tuple #[uV (s.hlast 16 [o,t]),.bool (decide (s.hlen 16 [o,t]≠0))])∧BV w rs w'):=fun rs W g hg hV =>
  hV.reads (histLast_q W h s f 16 (by omega) (by omega) _ _ (ints_at2 (hV.row hg)) hl (hq.below (BV.bl hV)) hf hm)
 have HB:=Lib.hid hB
 clear hB hl hq hf hm ho ht
 have hbd2:(b≤d)=True:=eq_true hbd
 have hd2:(d < 0)=False:=eq_false (by omega)
 clear hbd hd0
 generalize decide (s.hlen 16 [o,t]≠0)=lb at *
 generalize s.hlast 16 [o,t]=hd at *
 go_enter Tryz.func46,Tryz.ntmps46
 go_upto_region 2 with fail
 have hB2:=HB.out.alloc (i2O o t)
 rw [World.size_alloc] at hB2
 generalize hw2:(w.alloc zO).alloc (i2O o t)=w2 at *
 clear hw2 HB
 have HL2:=Lib.hid (HLA.out _ _ (w.heap.size+1) (by simp) hB2)
 clear HLA hB2
 go_wp2_with fail
 refine Calls.mono HL2.out ?_
 rintro e w3 ⟨rfl,hB3⟩
 have HB4:=Lib.hid (hB3.alloc (uO hd))
 clear HL2 hB3
 go_upto_region 3 with fail
 generalize hw4:w3.alloc (uO hd)=w4 at *
 generalize w3.heap.size=g4 at *
 clear hw4
 have hz:w4.heap[w.heap.size]? = some (.cells (uL (0,0,0,0)) 24 (0,0)):=HB4.out.row (g:=w.heap.size) (o:=zO) (by simp)
 obtain ⟨z0,z1,z2,z3,z4,z5,z6,z7⟩:=row4 (x:=(0,0,0,0)) hz
 obtain ⟨m0,m1,m2,m3,m4,m5,m6,m7⟩:=row4 (HB4.out.row (g:=g4) (o:=uO hd) (by simp))
 have HZ:=Lib.hid (put4 hz hd)
 have HBB:=Lib.hid (put4_below (BV.bl HB4.out) (Nat.le_refl _) (.int .u64 hd.1) (.int .u64 hd.2.1) (.int .u64 hd.2.2.1) (.int .u64 hd.2.2.2))
 clear hz HB4
 go_wp2_with fail
 refine bodyPost_ret (results_cell_row rfl _ _ w.heap.size 24 (uL hd) (0,0) _ rfl HZ.out Tryz.underlying24 rfl (by kernel_rfl)) rfl ?_
 exact ⟨rfl,HBB.out⟩
def gapW (fr tq:W4):W4:=if uSubC fr tq=0 then uSubS fr tq else (0,0,0,0)
theorem gapW_ok (fr tq:W4):(gapW fr tq).Ok:=by
 unfold gapW; split
 ·exact uSub_ok _ _
 ·exact u0_ok
theorem xmin_ok {a b:W4} (ha:a.Ok) (hb:b.Ok):(minW a b).Ok:=by
 unfold minW; split
 ·exact ha
 ·exact hb
def xcutC (fr tq:W4) (o b d:Int):Bool:=!(uSubC fr tq == 0) || (decide (o < 1) || (!(decide (uCmp fr oneW≤0)) || (decide (b < 0) || decide (d < 0))))
def xcutW (s:St) (sl:W4) (t:Int) (fr tq:W4):W4:=minW (dnW sl (gapW fr tq) sqW) (s.left t)
def xcutA (s:St) (sl:W4) (o t b d:Int) (tq fr:W4):W4:=if xcutC fr tq o b d then (0,0,0,0) else xcutW s sl t fr tq
def xcutE (o b d:Int) (tq fr:W4):Int:=if xcutC fr tq o b d then 2 else 0
def Hand.cutX (h:Hand) (s:St) (sl:W4) (o t b d:Int) (tq fr:W4):St:=if xcutC fr tq o b d then s else h.subSt s (keyL 19 [t]) (xcutW s sl t fr tq)
theorem xcut_q (w:World) (h:Hand) (s:St) (f:Nat) (o t b d:Int) (tq fr sl:W4) (ht:I63 t) (hto:tq.Ok) (hfr:fr.Ok) (hsl:sl.Ok) (hSL:∀ W L',QSt W ⟨h.ptr,h.on,L'⟩ s→Calls Tryz.prog 46 #[.pointer h.ptr,.int .i64 o,.int .i64 t,.int .i64 b,.int .i64 d] W fun e w'=>e = .returned (uV sl)∧Below W.heap.size W w') (hq:QSt w h s) (hf:s.Fit f) (hm:f < 10000000000) :
  Calls Tryz.prog 40 #[.pointer h.ptr,.int .i64 o,.int .i64 t,.int .i64 b,.int .i64 d,uV tq,uV fr] w fun e w'=>e = .returned (.tuple #[uV (xcutA s sl o t b d tq fr),.int .i64 (xcutE o b d tq fr)])∧QOn w h (h.cutX s sl o t b d tq fr) w':=by
 have hB:=(((HV.start hq).alloc (uO tq)).alloc (uO fr)).alloc zO
 simp only [World.size_alloc] at hB
 have hcw:(xcutW s sl t fr tq).Ok:=xmin_ok (dnW_ok _ _ _) (amt_ok s _)
 have HSB:Hid (∀ rs W,HV h w s rs W→Calls Tryz.prog 71 #[uV fr,uV tq] W fun e w'=>e = .returned (.tuple #[uV (gapW fr tq),.bool (uSubC fr tq == 0)])∧HV h w s rs w'):=fun rs W hV=>hV.reads fun L' h1=>usub_any _ _ hfr hto W
 have HGD:Hid (∀ rs W,HV h w s rs W→Calls Tryz.prog 69 #[uV fr] W fun e w'=>e = .returned (.bool (decide (uCmp fr oneW≤0)))∧HV h w s rs w'):=fun rs W hV=>hV.reads fun L' h1=>wgood_any _ hfr W
 have HSL:Hid (∀ rs W,HV h w s rs W→Calls Tryz.prog 46 #[.pointer h.ptr,.int .i64 o,.int .i64 t,.int .i64 b,.int .i64 d] W fun e w'=>e = .returned (uV sl)∧Below W.heap.size W w'):=fun rs W hV=>by
  obtain ⟨L',h1,_⟩:=hV.on
  exact hSL W L' h1
 have HSQ:Hid (∀ W,Calls Tryz.prog 112 #[] W fun e w'=>e = .returned (uV sqW)∧Below W.heap.size W w'):=square_any
 have HMN:Hid (∀ W,Calls Tryz.prog 113 #[uV (dnW sl (gapW fr tq) sqW),uV (s.left t)] W fun e w'=>e = .returned (uV (xcutW s sl t fr tq))∧Below W.heap.size W w'):=umin_any _ _ (dnW_ok _ _ _) (amt_ok s _)
 have HLF:Hid (∀ rs W,HV h w s rs W→Calls Tryz.prog 45 #[.pointer h.ptr,.int .i64 t] W fun e w'=>e = .returned (uV (s.left t))∧Below W.heap.size W w'):=fun rs W hV=>by
  obtain ⟨L',h1,_⟩:=hV.on
  exact xLeft_q W ⟨h.ptr,h.on,L'⟩ s f t ht h1 hf (by omega)
 have HDN:Hid (∀ W,Calls Tryz.prog 111 #[uV sl,uV (gapW fr tq),uV sqW] W fun e w'=>e = .returned (.tuple #[uV (dnW sl (gapW fr tq) sqW),.bool (dnB sl (gapW fr tq) sqW)])∧Below W.heap.size W w'):=mdn_any _ _ _ hsl (gapW_ok _ _) sq_ok
 have HCS:Hid (∀ rs W,HV h w s rs W→Calls Tryz.prog 88 #[.pointer h.ptr,.string (keyL 19 [t]),uV (xcutW s sl t fr tq)] W fun e w'=>e = .returned (.int .i64 (lessE' (s.amt (keyL 19 [t])) (xcutW s sl t fr tq)))∧HV h w (h.subSt s (keyL 19 [t]) (xcutW s sl t fr tq)) rs w'):=fun rs W hV=>QV.call hV fun L' h1=>cSub_q W ⟨h.ptr,h.on,L'⟩ s f _ _ hcw h1 hf hm
 have HKY:Hid (∀ W v,IntsAt W v [t]→Calls Tryz.prog 90 #[.int .i64 19,v] W fun e w'=>e = .returned (.string (keyL 19 [t]))∧Below W.heap.size W w'):=fun W v hv=>keyI1_any 19 (by decide) (by decide) t ht W v hv
 have hA0:xcutA s sl o t b d tq fr=if xcutC fr tq o b d then (0,0,0,0) else xcutW s sl t fr tq:=rfl
 have hE0:xcutE o b d tq fr=if xcutC fr tq o b d then 2 else 0:=rfl
 have hX0:h.cutX s sl o t b d tq fr=if xcutC fr tq o b d then s else h.subSt s (keyL 19 [t]) (xcutW s sl t fr tq):=rfl
 have hC0:xcutC fr tq o b d=(!(uSubC fr tq == 0) || (decide (o < 1) || (!(decide (uCmp fr oneW≤0)) || (decide (b < 0) || decide (d < 0))))):=rfl
 have HLAW:=Lib.hid (And.intro hC0 (And.intro hA0 (And.intro hE0 hX0)))
 have HB:=Lib.hid hB
 clear hA0 hE0 hX0 hC0 hB hcw hsl hSL hq hf hm ht hto hfr
 generalize xcutA s sl o t b d tq fr=rA at *
 generalize xcutE o b d tq fr=rE at *
 generalize h.cutX s sl o t b d tq fr=rX at *
 generalize xcutC fr tq o b d=bad at *
 generalize lessE' (s.amt (keyL 19 [t])) (xcutW s sl t fr tq)=sE at *
 generalize h.subSt s (keyL 19 [t]) (xcutW s sl t fr tq)=sC at *
 generalize xcutW s sl t fr tq=cw at *
 generalize dnB sl (gapW fr tq) sqW=dB at *
 generalize dnW sl (gapW fr tq) sqW=dW at *
 generalize gapW fr tq=gp at *
 generalize s.left t=lf at *
 generalize keyL 19 [t]=kk at *
 generalize (uSubC fr tq == 0)=b1 at *
 generalize decide (uCmp fr oneW≤0)=b2 at *
 generalize sqW=sq at *
 go_enter Tryz.func40,Tryz.ntmps40
 go_upto_region 1 with fail
 generalize hw1:((w.alloc (uO tq)).alloc (uO fr)).alloc zO=w1 at *
 clear hw1
 obtain ⟨m0,m1,m2,m3,m4,m5,m6,m7⟩:=row4 (HB.out.row (g:=w.heap.size) (o:=uO tq) (by simp))
 obtain ⟨n0,n1,n2,n3,n4,n5,n6,n7⟩:=row4 (HB.out.row (g:=w.heap.size+1) (o:=uO fr) (by simp))
 have HS1:=Lib.hid (HSB.out _ _ HB.out)
 clear HB HSB
 go_wp2_with fail
 refine Calls.mono HS1.out ?_
 rintro e w2 ⟨rfl,hB2⟩
 have HB3:=Lib.hid (hB2.alloc (uO gp))
 clear HS1 hB2 m0 m1 m2 m3 m4 m5 m6 m7 n0 n1 n2 n3 n4 n5 n6 n7
 go_upto_region 2 with fail
 generalize hw3:w2.alloc (uO gp)=w3 at *
 generalize w2.heap.size=g3 at *
 clear hw3
 have hz:w3.heap[w.heap.size+1+1]? = some (.cells (uL (0,0,0,0)) 24 (0,0)):=HB3.out.row (g:=w.heap.size+1+1) (o:=zO) (by simp)
 cases b1 with
 | false =>
  have hL:=HLAW.out
  simp only [Bool.not_false,Bool.true_or] at hL
  obtain ⟨rfl,h1,h2,h3⟩:=hL
  rw [if_pos rfl] at h1 h2 h3
  subst h1 h2 h3
  obtain ⟨z0,z1,z2,z3,z4,z5,z6,z7⟩:=row4 hz
  have HZ:=Lib.hid (HB3.out.put4 (g:=w.heap.size+1+1) (y:=(0,0,0,0)) (0,0,0,0) (by simp) [] (fun _ hx=>by cases hx))
  clear HLAW hz HB3 HGD HSL HSQ HMN HLF HDN HCS
  go_wp2_with fail
  refine bodyPost_ret (results_cell_row2 rfl _ _ (w.heap.size+1+1) 24 (uL (0,0,0,0)) (0,0) _ rfl (HZ.out.row (by simp)) Tryz.underlying24 rfl (by kernel_rfl)) rfl ?_
  exact ⟨rfl,HV.done HZ.out⟩
 | true =>
  obtain ⟨n0,n1,n2,n3,n4,n5,n6,n7⟩:=row4 (HB3.out.row (g:=w.heap.size+1) (o:=uO fr) (by simp))
  have HG3:=Lib.hid (HGD.out _ _ HB3.out)
  by_cases ho:o < 1
  ·have hod:(o < 1)=True:=eq_true ho
   have hL:=HLAW.out
   simp only [Bool.not_true,Bool.false_or,Bool.true_or,decide_eq_true ho] at hL
   obtain ⟨rfl,h1,h2,h3⟩:=hL
   rw [if_pos rfl] at h1 h2 h3
   subst h1 h2 h3
   obtain ⟨z0,z1,z2,z3,z4,z5,z6,z7⟩:=row4 hz
   have HZ:=Lib.hid (HB3.out.put4 (g:=w.heap.size+1+1) (y:=(0,0,0,0)) (0,0,0,0) (by simp) [] (fun _ hx=>by cases hx))
   clear HLAW hz HB3 HGD HG3 HSL HSQ HMN HLF HDN HCS
   go_wp2_with fail
   refine bodyPost_ret (results_cell_row2 rfl _ _ (w.heap.size+1+1) 24 (uL (0,0,0,0)) (0,0) _ rfl (HZ.out.row (by simp)) Tryz.underlying24 rfl (by kernel_rfl)) rfl ?_
   exact ⟨rfl,HV.done HZ.out⟩
  ·have hod:(o < 1)=False:=eq_false ho
   cases b2 with
   | false =>
    have hL:=HLAW.out
    simp only [Bool.not_false,Bool.not_true,Bool.false_or,Bool.true_or,decide_eq_false ho] at hL
    obtain ⟨rfl,h1,h2,h3⟩:=hL
    rw [if_pos rfl] at h1 h2 h3
    subst h1 h2 h3
    clear HLAW hz HB3 HSL HSQ HMN HLF HDN HCS HGD
    go_wp2_with fail
    refine Calls.mono HG3.out ?_
    rintro e w4 ⟨rfl,hB4⟩
    have hz:w4.heap[w.heap.size+1+1]? = some (.cells (uL (0,0,0,0)) 24 (0,0)):=hB4.row (g:=w.heap.size+1+1) (o:=zO) (by simp)
    obtain ⟨z0,z1,z2,z3,z4,z5,z6,z7⟩:=row4 hz
    have HZ:=Lib.hid (hB4.put4 (g:=w.heap.size+1+1) (y:=(0,0,0,0)) (0,0,0,0) (by simp) [] (fun _ hx=>by cases hx))
    clear hz hB4 HG3
    go_wp2_with fail
    refine bodyPost_ret (results_cell_row2 rfl _ _ (w.heap.size+1+1) 24 (uL (0,0,0,0)) (0,0) _ rfl (HZ.out.row (by simp)) Tryz.underlying24 rfl (by kernel_rfl)) rfl ?_
    exact ⟨rfl,HV.done HZ.out⟩
   | true =>
    by_cases hb:b < 0
    ·have hbd:(b < 0)=True:=eq_true hb
     have hL:=HLAW.out
     simp only [Bool.not_true,Bool.false_or,Bool.true_or,decide_eq_false ho,decide_eq_true hb] at hL
     obtain ⟨rfl,h1,h2,h3⟩:=hL
     rw [if_pos rfl] at h1 h2 h3
     subst h1 h2 h3
     clear HLAW hz HB3 HSL HSQ HMN HLF HDN HCS HGD
     go_wp2_with fail
     refine Calls.mono HG3.out ?_
     rintro e w4 ⟨rfl,hB4⟩
     have hz:w4.heap[w.heap.size+1+1]? = some (.cells (uL (0,0,0,0)) 24 (0,0)):=hB4.row (g:=w.heap.size+1+1) (o:=zO) (by simp)
     obtain ⟨z0,z1,z2,z3,z4,z5,z6,z7⟩:=row4 hz
     have HZ:=Lib.hid (hB4.put4 (g:=w.heap.size+1+1) (y:=(0,0,0,0)) (0,0,0,0) (by simp) [] (fun _ hx=>by cases hx))
     clear hz hB4 HG3
     go_wp2_with fail
     refine bodyPost_ret (results_cell_row2 rfl _ _ (w.heap.size+1+1) 24 (uL (0,0,0,0)) (0,0) _ rfl (HZ.out.row (by simp)) Tryz.underlying24 rfl (by kernel_rfl)) rfl ?_
     exact ⟨rfl,HV.done HZ.out⟩
    ·have hbd:(b < 0)=False:=eq_false hb
     by_cases hd:d < 0
     ·have hdd:(d < 0)=True:=eq_true hd
      have hL:=HLAW.out
      simp only [Bool.not_true,Bool.false_or,decide_eq_false ho,decide_eq_false hb,decide_eq_true hd] at hL
      obtain ⟨rfl,h1,h2,h3⟩:=hL
      rw [if_pos rfl] at h1 h2 h3
      subst h1 h2 h3
      clear HLAW hz HB3 HSL HSQ HMN HLF HDN HCS HGD
      go_wp2_with fail
      refine Calls.mono HG3.out ?_
      rintro e w4 ⟨rfl,hB4⟩
      have hz:w4.heap[w.heap.size+1+1]? = some (.cells (uL (0,0,0,0)) 24 (0,0)):=hB4.row (g:=w.heap.size+1+1) (o:=zO) (by simp)
      obtain ⟨z0,z1,z2,z3,z4,z5,z6,z7⟩:=row4 hz
      have HZ:=Lib.hid (hB4.put4 (g:=w.heap.size+1+1) (y:=(0,0,0,0)) (0,0,0,0) (by simp) [] (fun _ hx=>by cases hx))
      clear hz hB4 HG3
      go_wp2_with fail
      refine bodyPost_ret (results_cell_row2 rfl _ _ (w.heap.size+1+1) 24 (uL (0,0,0,0)) (0,0) _ rfl (HZ.out.row (by simp)) Tryz.underlying24 rfl (by kernel_rfl)) rfl ?_
      exact ⟨rfl,HV.done HZ.out⟩
     ·have hdd:(d < 0)=False:=eq_false hd
      have hL:=HLAW.out
      simp only [Bool.not_true,Bool.false_or,decide_eq_false ho,decide_eq_false hb,decide_eq_false hd] at hL
      obtain ⟨rfl,h1,h2,h3⟩:=hL
      rw [if_neg (by decide)] at h1 h2 h3
      have h1':=h1.symm
      have h3':=h3.symm
      subst h1' h2 h3'
      clear HLAW hz HGD HB3 ho hb hd
      go_wp2_with fail
      refine Calls.mono HG3.out ?_
      rintro e w4 ⟨rfl,hB4⟩
      have HB4:=Lib.hid hB4
      clear hB4 HG3 n0 n1 n2 n3 n4 n5 n6 n7
      go_upto_region 4 with fail
      have HB0:=Lib.hid (bl_drew (Below.refl w4.heap.size w4))
      refine wp_region_rely [[],[],[],[],[],[0,1,2,3,4],[],[0,1,2,3,4,5],[0,1,2,3,4,5,6,7],[0,1,2,3,4,5,6,7,8],[0,1,2,3,4,5,6,7,8,9],[0,1,2,3,4,5,6,7,8,9],[],[0,1,2,3,4,5,6,7,8,9,10,12],[0,1,2,3,4,5,6,7,8,9,10,11,12,13]]
       [rgC (Below w4.heap.size w4),rgV 0 (.pointer h.ptr),rgV 1 (.int .i64 o),rgV 2 (.int .i64 t),rgV 3 (.int .i64 b),rgV 4 (.int .i64 d),rgV 5 (uV sl),rgV 6 (uV gp),rgV 7 (uV sq),rgV 8 (.tuple #[uV dW,.bool dB]),rgV 9 (.tuple #[uV dW,.bool dB]),rgV 10 (uV dW),rgV 11 (.bool dB),rgP 12 (w4.heap.size),rgV 14 (.bool dB),rgS 12 13 (dW)] _ (by kernel_rfl) (by kernel_rfl) (by kernel_rfl)
       (fun vs=>by simp only [rgAct,rgPut,List.setIfInBounds_toArray,List.set_cons_zero,List.set_cons_succ]; exact rfl)
       ⟨fun _ _ _ hb h=>bl_then h hb,rgV_st,rgV_st,rgV_st,rgV_st,rgV_st,rgV_st,rgV_st,rgV_st,rgV_st,rgV_st,rgV_st,rgV_st,rgP_st,rgV_st,rgS_st,trivial⟩ ?_ ?_ ?_
      ·refine rgAll_yes rfl HB0.out ?_
       iterate 15 refine rgAll_no rfl ?_
       exact trivial
      ·refine ⟨?_,?_,?_,?_,?_,?_,?_,?_,?_,?_,?_,?_,?_,?_,?_,trivial⟩
       ·intro vs w5 hA K hK
        obtain ⟨_,_⟩:=hA
        refine rg_move rfl (.inl rfl) rfl (hK _ _ (.inl (Below.refl _ _)) ?_)
        exact rgNew_one 1 rfl fun _=>rfl
       ·intro vs w5 hA K hK
        obtain ⟨_,_⟩:=hA
        refine rg_move rfl (.inl rfl) rfl (hK _ _ (.inl (Below.refl _ _)) ?_)
        exact rgNew_one 2 rfl fun _=>rfl
       ·intro vs w5 hA K hK
        obtain ⟨_,_⟩:=hA
        refine rg_move rfl (.inl rfl) rfl (hK _ _ (.inl (Below.refl _ _)) ?_)
        exact rgNew_one 3 rfl fun _=>rfl
       ·intro vs w5 hA K hK
        obtain ⟨_,_⟩:=hA
        refine rg_move rfl (.inl rfl) rfl (hK _ _ (.inl (Below.refl _ _)) ?_)
        exact rgNew_one 4 rfl fun _=>rfl
       ·intro vs w5 hA K hK
        obtain ⟨_,_⟩:=hA
        refine rg_move rfl (.inl rfl) rfl (hK _ _ (.inl (Below.refl _ _)) ?_)
        exact rgNew_one 5 rfl fun _=>rfl
       ·intro vs w5 hA K hK
        obtain ⟨hC,e0,e1,e2,e3,e4,_⟩:=hA
        refine rg_fn rfl rfl rfl (by kernel_rfl) (show [vs 0,vs 1,vs 2,vs 3,vs 4]=_ from by rw [rg1 e0,rg1 e1,rg1 e2,rg1 e3,rg1 e4]) (Calls.mono (HSL.out _ _ (HB4.out.below hC)) ?_)
        rintro e w2 ⟨rfl,hb⟩
        refine ⟨_,rfl,hK _ _ (.inl hb) ?_⟩
        exact rgNew_one 6 rfl fun _=>rfl
       ·intro vs w5 hA K hK
        obtain ⟨hC,_⟩:=hA
        refine rg_loadU rfl rfl rfl ((HB4.out.below hC).u4 (g:=g3) (x:=gp) (by simp)) (hK _ _ (.inl (Below.refl _ _)) ?_)
        exact rgNew_one 7 rfl fun _=>rfl
       ·intro vs w5 hA K hK
        obtain ⟨_,_,_,_,_,_,_,_⟩:=hA
        refine rg_fn rfl rfl rfl (by kernel_rfl) rfl (Calls.mono (HSQ.out _) ?_)
        rintro e w2 ⟨rfl,hb⟩
        refine ⟨_,rfl,hK _ _ (.inl hb) ?_⟩
        exact rgNew_one 8 rfl fun _=>rfl
       ·intro vs w5 hA K hK
        obtain ⟨_,_,_,_,_,_,e5,e6,e7,_⟩:=hA
        refine rg_fn rfl rfl rfl (by kernel_rfl) (show [vs 5,vs 6,vs 7]=_ from by rw [rg1 e5,rg1 e6,rg1 e7]) (Calls.mono (HDN.out _) ?_)
        rintro e w2 ⟨rfl,hb⟩
        refine ⟨_,rfl,hK _ _ (.inl hb) ?_⟩
        exact rgNew_one 9 rfl fun _=>rfl
       ·intro vs w5 hA K hK
        obtain ⟨_,_,_,_,_,_,_,_,_,e8,_⟩:=hA
        refine rg_move rfl (.inl rfl) (rg1 e8) (hK _ _ (.inl (Below.refl _ _)) ?_)
        exact rgNew_one 10 rfl fun _=>rfl
       ·intro vs w5 hA K hK
        obtain ⟨_,_,_,_,_,_,_,_,_,_,e9,_⟩:=hA
        refine rg_extract rfl rfl (rg1 e9) rfl (hK _ _ (.inl (Below.refl _ _)) ?_)
        exact rgNew_one 11 rfl fun _=>rfl
       ·intro vs w5 hA K hK
        obtain ⟨_,_,_,_,_,_,_,_,_,_,e9,_⟩:=hA
        refine rg_extract rfl rfl (rg1 e9) rfl (hK _ _ (.inl (Below.refl _ _)) ?_)
        exact rgNew_one 12 rfl fun _=>rfl
       ·intro vs w5 hA K hK
        obtain ⟨hC,_⟩:=hA
        refine rg_allocU rfl rfl (hK _ _ (.inl (bl_alloc (Below.refl _ _) _)) ?_)
        iterate 13 refine rgNew_no rfl ?_
        refine rgNew_yes rfl (fun _=>⟨_,_,rfl,hC.size,heap_alloc_new _ _⟩) ?_
        iterate 2 refine rgNew_no rfl ?_
        exact trivial
       ·intro vs w5 hA K hK
        obtain ⟨hC,_,_,_,_,_,_,_,_,_,_,e10,⟨_,_,e12,h12,g12⟩,_⟩:=hA
        refine rg_storeU rfl rfl (rg1 e12) (rg1 e10) g12 (hK _ _ (.inr ?_) ?_)
        ·refine rgStay_yes rfl (fun hC _=>bput hC h12) ?_
         iterate 12 refine rgStay_yes rfl (fun h _=>h) ?_
         refine rgStay_yes rfl (fun h _=>rgP_put h) ?_
         iterate 2 refine rgStay_no rfl ?_
         exact trivial
        ·iterate 15 refine rgNew_no rfl ?_
         refine rgNew_yes rfl (fun _=>⟨_,_,by show [vs 12,undef]=_; rw [rg1 e12],setRow_heap _ _ _ _ _ _ g12⟩) ?_
         exact trivial
       ·intro vs w5 hA K hK
        obtain ⟨_,_,_,_,_,_,_,_,_,_,_,_,e11,_,_,_⟩:=hA
        refine rg_move rfl (.inr rfl) (rg1 e11) (hK _ _ (.inl (Below.refl _ _)) ?_)
        exact rgNew_one 14 rfl fun _=>rfl
      ·intro vs w5 hA
       obtain ⟨hC,e0,e1,e2,e3,e4,e5,e6,e7,e8,e9,e10,e11,⟨p12,_,e12,h12,g12⟩,e14,s13,_⟩:=hA
       have e0:=rg1 e0
       have e1:=rg1 e1
       have e2:=rg1 e2
       have e3:=rg1 e3
       have e4:=rg1 e4
       have e5:=rg1 e5
       have e6:=rg1 e6
       have e7:=rg1 e7
       have e8:=rg1 e8
       have e9:=rg1 e9
       have e10:=rg1 e10
       have e11:=rg1 e11
       have e12:=rg1 e12
       have e14:=rg1 e14
       have s13:=rgS_at s13 e12
       simp only [e0,e1,e2,e3,e4,e5,e6,e7,e8,e9,e10,e11,e12,e14]
       have HNE:Hid (w.heap.size+1+1≠p12):=by
        have h1:=lt_of_at (HB4.out.row (g:=w.heap.size+1+1) (o:=zO) (by simp))
        exact Nat.ne_of_lt (Nat.lt_of_lt_of_le h1 h12)
       have HB5:=Lib.hid (HB4.out.add1 hC h12 s13)
       clear e0 e1 e2 e3 e4 e5 e6 e7 e8 e9 e10 e11 e14 g12 s13 h12 hC HSL HSQ HDN HB0 HB4
       go_upto_region 5 with fail
       have HB0:=Lib.hid (bl_drew (Below.refl w5.heap.size w5))
       refine wp_region_rely_tail 5 [[],[],[],[1,2],[0,1,2,3],[0,1,2,3,4]]
        [rgC (Below w5.heap.size w5),rgV 0 (uV dW),rgV 1 (.pointer h.ptr),rgV 2 (.int .i64 t),rgV 3 (uV lf),rgV 4 (uV cw)] _ (by kernel_rfl) (by kernel_rfl) (by decide) (by kernel_rfl) (by kernel_rfl)
        (fun vs=>by simp only [rgAct,rgPut,List.setIfInBounds_toArray,List.set_cons_zero,List.set_cons_succ]; exact rfl)
        ⟨fun _ _ _ hb h=>bl_then h hb,rgV_st,rgV_st,rgV_st,rgV_st,rgV_st,trivial⟩ ?_ ?_ ?_
       ·refine rgAll_yes rfl HB0.out ?_
        iterate 5 refine rgAll_no rfl ?_
        exact trivial
       ·refine ⟨?_,?_,?_,?_,?_,trivial⟩
        ·intro vs w6 hA K hK
         obtain ⟨hC,_⟩:=hA
         refine rg_loadU rfl rfl rfl ((HB5.out.below hC).u4 (g:=p12) (x:=dW) (by simp)) (hK _ _ (.inl (Below.refl _ _)) ?_)
         exact rgNew_one 1 rfl fun _=>rfl
        ·intro vs w6 hA K hK
         obtain ⟨_,_⟩:=hA
         refine rg_move rfl (.inl rfl) rfl (hK _ _ (.inl (Below.refl _ _)) ?_)
         exact rgNew_one 2 rfl fun _=>rfl
        ·intro vs w6 hA K hK
         obtain ⟨_,_⟩:=hA
         refine rg_move rfl (.inl rfl) rfl (hK _ _ (.inl (Below.refl _ _)) ?_)
         exact rgNew_one 3 rfl fun _=>rfl
        ·intro vs w6 hA K hK
         obtain ⟨hC,e1,e2,_⟩:=hA
         refine rg_fn rfl rfl rfl (by kernel_rfl) (show [vs 1,vs 2]=_ from by rw [rg1 e1,rg1 e2]) (Calls.mono (HLF.out _ _ (HB5.out.below hC)) ?_)
         rintro e w2 ⟨rfl,hb⟩
         refine ⟨_,rfl,hK _ _ (.inl hb) ?_⟩
         exact rgNew_one 4 rfl fun _=>rfl
        ·intro vs w6 hA K hK
         obtain ⟨_,e0,_,_,e3,_⟩:=hA
         refine rg_fn rfl rfl rfl (by kernel_rfl) (show [vs 0,vs 3]=_ from by rw [rg1 e0,rg1 e3]) (Calls.mono (HMN.out _) ?_)
         rintro e w2 ⟨rfl,hb⟩
         refine ⟨_,rfl,hK _ _ (.inl hb) ?_⟩
         exact rgNew_one 5 rfl fun _=>rfl
       ·intro vs w6 hA
        obtain ⟨hC,e0,e1,e2,e3,e4,_⟩:=hA
        have e0:=rg1 e0
        have e1:=rg1 e1
        have e2:=rg1 e2
        have e3:=rg1 e3
        have e4:=rg1 e4
        refine rgTail_cons ?_
        refine rg_storeU rfl rfl rfl e4 ((HB5.out.below hC).u4 (g:=p12) (x:=dW) (by simp)) ?_
        refine rgTail_nil ?_
        simp only [rgSet,Nat.reduceEqDiff,↓reduceIte,e0,e1,e2,e3,e4]
        have hB7:=(HB5.out.below hC).setRow (g:=p12) (cs:=uL dW) (cs':=uL cw) (t:=24) (by simp) [(w.heap.size+1+1,zO)] (fun x hx=>by
         rw [List.mem_singleton] at hx
         subst hx
         exact ⟨by simp,HNE.out⟩)
        generalize w6.setRow p12 (uL cw)=w7 at *
        have HB7:=Lib.hid hB7
        clear e0 e1 e2 e3 e4 hC HLF HMN HB0 HB5 hB7
        go_upto_region 6 with fail
        have HB0:=Lib.hid (bl_drew (Below.refl w7.heap.size w7))
        refine wp_region_rely_tail 5 [[],[],[1],[1,2],[],[0,1,2,3,4]]
         [rgC (Below w7.heap.size w7),rgV 0 (.pointer h.ptr),rgV 1 (.int .i64 t),rgI 2 ([t]),rgV 3 (.string kk),rgV 4 (uV cw)] _ (by kernel_rfl) (by kernel_rfl) (by decide) (by kernel_rfl) (by kernel_rfl)
         (fun vs=>by simp only [rgAct,rgPut,List.setIfInBounds_toArray,List.set_cons_zero,List.set_cons_succ]; exact rfl)
         ⟨fun _ _ _ hb h=>bl_then h hb,rgV_st,rgV_st,rgI_st,rgV_st,rgV_st,trivial⟩ ?_ ?_ ?_
        ·refine rgAll_yes rfl HB0.out ?_
         iterate 5 refine rgAll_no rfl ?_
         exact trivial
        ·refine ⟨?_,?_,?_,?_,?_,trivial⟩
         ·intro vs w8 hA K hK
          obtain ⟨_,_⟩:=hA
          refine rg_move rfl (.inl rfl) rfl (hK _ _ (.inl (Below.refl _ _)) ?_)
          exact rgNew_one 1 rfl fun _=>rfl
         ·intro vs w8 hA K hK
          obtain ⟨_,_⟩:=hA
          refine rg_move rfl (.inl rfl) rfl (hK _ _ (.inl (Below.refl _ _)) ?_)
          exact rgNew_one 2 rfl fun _=>rfl
         ·intro vs w8 hA K hK
          obtain ⟨_,e1,_⟩:=hA
          refine rg_ints1 rfl rfl (rg1 e1) (hK _ _ (.inl (bl_alloc (Below.refl _ _) _)) ?_)
          iterate 3 refine rgNew_no rfl ?_
          refine rgNew_yes rfl (fun _=>one_ints _ _) ?_
          iterate 2 refine rgNew_no rfl ?_
          exact trivial
         ·intro vs w8 hA K hK
          obtain ⟨_,_,i2,_⟩:=hA
          refine rg_fn rfl rfl rfl (by kernel_rfl) rfl (Calls.mono (HKY.out _ _ i2) ?_)
          rintro e w2 ⟨rfl,hb⟩
          refine ⟨_,rfl,hK _ _ (.inl hb) ?_⟩
          exact rgNew_one 4 rfl fun _=>rfl
         ·intro vs w8 hA K hK
          obtain ⟨hC,_⟩:=hA
          refine rg_loadU rfl rfl rfl ((HB7.out.below hC).u4 (g:=p12) (x:=cw) (by simp)) (hK _ _ (.inl (Below.refl _ _)) ?_)
          exact rgNew_one 5 rfl fun _=>rfl
        ·intro vs w8 hA
         obtain ⟨hC,e0,e1,i2,e3,e4,_⟩:=hA
         have e0:=rg1 e0
         have e1:=rg1 e1
         have e3:=rg1 e3
         have e4:=rg1 e4
         refine rgTail_cons ?_
         refine rg_fn rfl rfl rfl (by kernel_rfl) (show [vs 0,vs 3,vs 4]=_ from by rw [e0,e3,e4]) (Calls.mono (HCS.out _ _ (HB7.out.below hC)) ?_)
         rintro e w9 ⟨rfl,hB9⟩
         refine ⟨_,rfl,?_⟩
         refine rgTail_nil ?_
         simp only [rgSet,Nat.reduceEqDiff,↓reduceIte,e0,e1,e3,e4]
         clear e0 e1 e3 e4 i2 hC HKY HCS HB0 HB7
         obtain ⟨z0,z1,z2,z3,z4,z5,z6,z7⟩:=row4 (hB9.u4 (g:=w.heap.size+1+1) (x:=(0,0,0,0)) (by simp))
         obtain ⟨m0,m1,m2,m3,_⟩:=row4 (hB9.u4 (g:=p12) (x:=cw) (by simp))
         have HZ:=Lib.hid (hB9.put4 (g:=w.heap.size+1+1) (y:=(0,0,0,0)) cw (by simp) [] (fun _ hx=>by cases hx))
         clear hB9
         go_wp2_with fail
         refine bodyPost_ret (results_cell_row2 rfl _ _ (w.heap.size+1+1) 24 (uL cw) (0,0) _ rfl (HZ.out.row (by simp)) Tryz.underlying24 rfl (by kernel_rfl)) rfl ?_
         exact ⟨rfl,HV.done HZ.out⟩
end Go.Proofs.YtnkilceibkkjlaaGreat
