/- What is proved here: history of the program: what an amount was at a block (At). Conditions: sizes, ints below 2^63. exits of the program: Slashable. Conditions: sizes, ints below 2^63. -/
import Derived.Test.YtnkilceibkkjlaaGreatFExN
import Derived.WalkMore
import Derived.Test.YtnkilceibkkjlaaGreatFExC
set_option maxRecDepth 100000
set_option maxHeartbeats 16000000
namespace Go.Proofs.YtnkilceibkkjlaaGreat
open Go.RowKit
def bsr (p:Nat→Bool):Nat→Nat→Nat→Nat
 | 0,lo,_=>lo
 | k+1,lo,hi=>if hi≤lo then lo else if p (lo+(hi - lo) / 2) then bsr p k (lo+(hi - lo) / 2+1) hi else bsr p k lo (lo+(hi - lo) / 2)
theorem bsr_more (p:Nat→Bool):∀ k lo hi,hi - lo≤k→bsr p (k+1) lo hi=bsr p k lo hi
 | 0,lo,hi,h=>by
  show (if hi≤lo then lo else _)=lo
  rw [if_pos (by omega)]
 | k+1,lo,hi,h=>by
  show (if hi≤lo then lo else if p (lo+(hi - lo) / 2) then bsr p (k+1) (lo+(hi - lo) / 2+1) hi else bsr p (k+1) lo (lo+(hi - lo) / 2))=(if hi≤lo then lo else if p (lo+(hi - lo) / 2) then bsr p k (lo+(hi - lo) / 2+1) hi else bsr p k lo (lo+(hi - lo) / 2))
  by_cases h0:hi≤lo
  ·rw [if_pos h0,if_pos h0]
  ·rw [bsr_more p k _ hi (by omega),bsr_more p k lo _ (by omega)]
theorem bsr_any (p:Nat→Bool) (lo hi:Nat):∀ k,bsr p (hi - lo+k) lo hi=bsr p (hi - lo) lo hi
 | 0=>rfl
 | k+1=>by
  rw [← Nat.add_assoc,bsr_more p _ lo hi (by omega)]
  exact bsr_any p lo hi k
theorem bsr_end (p:Nat→Bool) {lo hi:Nat} (h:¬ lo < hi):bsr p (hi - lo) lo hi=lo:=by
 rw [show hi - lo=0 by omega]; rfl
theorem bsr_step (p:Nat→Bool) {lo hi:Nat} (h:lo < hi):bsr p (hi - lo) lo hi=if p (lo+(hi - lo) / 2) then bsr p (hi - (lo+(hi - lo) / 2+1)) (lo+(hi - lo) / 2+1) hi else bsr p (lo+(hi - lo) / 2 - lo) lo (lo+(hi - lo) / 2):=by
 obtain ⟨d,hd⟩:∃ d,hi - lo=d+1:=⟨hi - lo - 1,by omega⟩
 generalize hm:lo+(hi - lo) / 2=m
 rw [hd]
 show (if hi≤lo then lo else if p (lo+(hi - lo) / 2) then bsr p d (lo+(hi - lo) / 2+1) hi else bsr p d lo (lo+(hi - lo) / 2))=_
 rw [if_neg (by omega),hm]
 rw [show d=hi - (m+1)+(d - (hi - (m+1))) by omega,bsr_any]
 rw [show hi - (m+1)+(d - (hi - (m+1)))=m - lo+(d - (m - lo)) by omega,bsr_any]
theorem bsr_le (p:Nat→Bool):∀ k lo hi,lo≤hi→bsr p k lo hi≤hi
 | 0,lo,hi,h=>h
 | k+1,lo,hi,h=>by
  show (if hi≤lo then lo else if p (lo+(hi - lo) / 2) then bsr p k (lo+(hi - lo) / 2+1) hi else bsr p k lo (lo+(hi - lo) / 2))≤hi
  split
  ·exact h
  ·split
   ·exact bsr_le p k _ _ (by omega)
   ·exact Nat.le_trans (bsr_le p k _ _ (by omega)) (by omega)
def St.hpI (s:St) (t:Nat) (l:List Int) (i:Int):Nat × W4:=hpt (s.val (keyL t (l ++ [i])))
def St.hpos (s:St) (t:Nat) (l:List Int) (b:Int):Nat:=bsr (fun i=>decide (((s.hpI t l (i:Nat)).1:Int)≤b)) (s.hlen t l) 0 (s.hlen t l)
def St.hat (s:St) (t:Nat) (l:List Int) (b:Int):W4:=if s.hpos t l b=0 then (0,0,0,0) else (s.hpI t l ((s.hpos t l b:Nat) - 1)).2
theorem hat_ok (s:St) (t:Nat) (l:List Int) (b:Int):(s.hat t l b).Ok:=by
 unfold St.hat; split
 ·exact u0_ok
 ·exact hpt_ok _
theorem hpos_le (s:St) (t:Nat) (l:List Int) (b:Int):s.hpos t l b≤s.hlen t l:=bsr_le _ _ _ _ (Nat.zero_le _)
theorem hat_mid {lo hi:Nat} (hlt:lo < hi) (hn:hi < 4611686018427387904):∃ d e m:Nat,m=lo+(hi - lo) / 2∧lo≤m∧m < hi∧I63 (m:Int)∧IntKind.i64.wrap ((hi:Int) - (lo:Int))=(d:Int)∧wrap64 ((hi:Int) - (lo:Int))=(d:Int)∧(d:Int).tdiv 2=(e:Int) ∧
  IntKind.i64.wrap (e:Int)=(e:Int)∧wrap64 (e:Int)=(e:Int)∧IntKind.i64.wrap ((lo:Int)+(e:Int))=(m:Int)∧wrap64 ((lo:Int)+(e:Int))=(m:Int)∧IntKind.i64.wrap ((m:Int)+1)=((m+1:Nat):Int)∧wrap64 ((m:Int)+1)=((m+1:Nat):Int):=by
 obtain ⟨e,he⟩:∃ e,e=(hi - lo) / 2:=⟨_,rfl⟩
 have h1:e≤hi - lo:=by omega
 have h2:lo+e < hi:=by omega
 refine ⟨hi - lo,e,lo+e,by rw [he],by omega,h2,by unfold I63; omega,?_,?_,?_,?_,?_,?_,?_,?_,?_⟩
 ·rw [IntKind.wrap_i64]; omega
 ·unfold wrap64; omega
 ·rw [Int.tdiv_eq_ediv_of_nonneg (by omega)]; omega
 ·clear he; rw [IntKind.wrap_i64]; omega
 ·clear he; unfold wrap64; omega
 ·clear he; rw [IntKind.wrap_i64]; omega
 ·clear he; unfold wrap64; omega
 ·clear he; rw [IntKind.wrap_i64]; omega
 ·clear he; unfold wrap64; omega
structure HatAt (h:Hand) (w:World) (s:St) (wr:World):Prop where
 v:HV h w s [(w.heap.size,zO)] wr
 b:Below w.heap.size w wr
theorem hat_q (w:World) (h:Hand) (s:St) (f:Nat) (t:Nat) (ht1:1≤t) (ht2:t≤255) (y:Value) (l:List Int) (b:Int) (hi:IntsAt w y l) (hl:IdOk l) (hq:QSt w h s) (hf:s.Fit f) (hm:f < 100000000000) (hn62:s.hlen t l < 4611686018427387904) :
  Calls Tryz.prog 118 #[.pointer h.ptr,.int .i64 t,y,.int .i64 b] w fun e w'=>e = .returned (.tuple #[uV (s.hat t l b),.bool (decide (s.hpos t l b≠0))])∧Below w.heap.size w w':=by
 have hB:HatAt h w s (w.alloc zO):=⟨(HV.start hq).alloc zO,bl_alloc (Below.refl _ w) zO⟩
 have hI:∀ W,Below w.heap.size w W→IntsAt W y l:=fun W hW=>hi.below hW
 have HLN:Hid (∀ W,HatAt h w s W→Calls Tryz.prog 180 #[.pointer h.ptr,.int .i64 t,y] W fun e w'=>e = .returned (.int .i64 (s.hlen t l))∧HatAt h w s w'):=fun W hW=>by
  obtain ⟨L',h1,_⟩:=hW.v.on
  exact (histLen_q W ⟨h.ptr,h.on,L'⟩ s f t ht1 ht2 y l (hI W hW.b) hl h1 hf hm).mono fun e w' ⟨he,h2⟩=>⟨he,QV.below hW.v h2,bl_then hW.b h2⟩
 have HRD:Hid (∀ (i:Int) W,I63 i→HatAt h w s W→Calls Tryz.prog 181 #[.pointer h.ptr,.int .i64 t,y,.int .i64 i] W fun e w'=>e = .returned (.agg (pL (s.hpI t l i).1 (s.hpI t l i).2))∧HatAt h w s w'):=fun i W hi hW=>by
  obtain ⟨L',h1,_⟩:=hW.v.on
  exact (histRead_q W ⟨h.ptr,h.on,L'⟩ s f t ht1 ht2 y l i (hI W hW.b) hl hi h1 hf hm).mono fun e w' ⟨he,h2⟩=>⟨he,QV.below hW.v h2,bl_then hW.b h2⟩
 have hlaw:(s.hpos t l b=0→s.hat t l b=(0,0,0,0))∧(s.hpos t l b≠0→s.hat t l b=(s.hpI t l ((s.hpos t l b:Nat) - 1)).2):=by
  unfold St.hat
  exact ⟨fun h=>if_pos h,fun h=>if_neg h⟩
 have hR:bsr (fun i=>decide (((s.hpI t l (i:Nat)).1:Int)≤b)) (s.hlen t l - 0) 0 (s.hlen t l)=s.hpos t l b:=rfl
 have HLA:=Lib.hid hlaw
 have HRR:=Lib.hid hR
 have HLE:=Lib.hid (hpos_le s t l b)
 have HB:=Lib.hid hB
 have HST:=Lib.hid (fun lo hi (h:lo < hi)=>bsr_step (fun i=>decide (((s.hpI t l (i:Nat)).1:Int)≤b)) h)
 have HEN:=Lib.hid (fun lo hi (h:¬ lo < hi)=>bsr_end (fun i=>decide (((s.hpI t l (i:Nat)).1:Int)≤b)) h)
 clear hi hl hq hf hI hB hlaw hR ht1 ht2
 generalize hbs:bsr (fun i=>decide (((s.hpI t l (i:Nat)).1:Int)≤b))=bs at *
 generalize s.hat t l b=hw at *
 generalize s.hpos t l b=r at *
 generalize s.hpI t l=pt at *
 generalize s.hlen t l=n at *
 clear hbs
 have hF:=fun (a:Nat) (c:W4) w=>pt_f0 a c w
 generalize ((t:Nat):Int)=tt at *
 go_enter Tryz.func118,Tryz.ntmps118
 go_wp2_with fail
 go_step3
 go_wp2_with fail
 refine Calls.mono (HLN.out _ HB.out) ?_
 rintro e w2 ⟨rfl,hB2⟩
 have HB2:=Lib.hid hB2
 clear hB2 HB HLN
 go_wp2_with fail
 go_step3
 go_wp2_with fail
 go_loopw [10,11] (fun s7 s8 wr=>∃ lo hi:Nat,s7 = .int .i64 lo∧s8 = .int .i64 hi∧lo≤hi∧hi≤n∧bs (hi - lo) lo hi=r∧HatAt h w s wr) (fun s7 s8 _=>(intOf s8).toNat - (intOf s7).toNat)
 case atStart=>exact ⟨0,n,rfl,rfl,by omega,by omega,HRR.out,HB2.out⟩
 case round =>
  obtain ⟨lo,hi,rfl,rfl,h1,h2,h3,h4⟩:=hrel
  have H4:=Lib.hid h4
  have H3:=Lib.hid h3
  clear h3 h4 HRR HB2
  by_cases hlt:lo < hi
  ·have hs:=HST.out lo hi hlt
   rw [H3.out] at hs
   obtain ⟨d,e,m,hm,g1,g2,g3,hw1,hw1',hq,hw3,hw3',hw2,hw2',hw4,hw4'⟩:=hat_mid hlt (Nat.lt_of_le_of_lt h2 hn62)
   rw [← hm] at hs
   have hd:((hi:Int)≤(lo:Int))=False:=eq_false (Int.not_le.2 (Int.ofNat_lt.2 hlt))
   have hd2:(hi≤lo)=False:=eq_false (Nat.not_le.2 hlt)
   have HR:=Lib.hid (HRD.out (m:Int) _ g3 H4.out)
   have HS:=Lib.hid hs
   have HM:=Lib.hid (And.intro g1 (And.intro g2 h2))
   clear HRD HST HEN HLA HLE hs hm hlt h1 h2 hn62 g1 g2 g3
   go_wp2_with fail
   refine Calls.mono HR.out ?_
   rintro e w3 ⟨rfl,h5⟩
   have H5:=Lib.hid h5
   clear h5 HR H4
   by_cases hp:((pt (m:Int)).1:Int)≤b
   ·have hs:=HS.out
    rw [decide_eq_true hp,if_pos rfl] at hs
    have HS2:=Lib.hid hs
    have hp2:(((pt (m:Int)).1:Int)≤b)=True:=eq_true hp
    clear hs HS hp
    go_wp2_with fail
    clear hw1 hw1' hq hw3 hw3' hw2 hw2' hw4 hw4'
    go_roundw
    case rel=>exact ⟨m+1,hi,by first | rfl | go_num,rfl,HM.out.2.1,HM.out.2.2,HS2.out.symm,H5.out⟩
    case measure=>have:=HM.out; simp [intOf]; omega
   ·have hs:=HS.out
    rw [decide_eq_false hp,if_neg (by decide)] at hs
    have HS2:=Lib.hid hs
    have hp2:(((pt (m:Int)).1:Int)≤b)=False:=eq_false hp
    clear hs HS hp
    go_wp2_with fail
    clear hw1 hw1' hq hw3 hw3' hw2 hw2' hw4 hw4'
    go_roundw
    case rel=>exact ⟨lo,m,rfl,rfl,HM.out.1,Nat.le_of_lt (Nat.lt_of_lt_of_le HM.out.2.1 HM.out.2.2),HS2.out.symm,H5.out⟩
    case measure=>have:=HM.out; simp [intOf]; omega
  ·have hlo:lo=r:=(HEN.out lo hi hlt).symm.trans H3.out
   have hhl:lo=hi:=Nat.le_antisymm h1 (Nat.not_lt.1 hlt)
   subst hhl
   subst hlo
   by_cases h0:lo=0
   ·have hE:=HLA.out.1 h0
    subst hE
    subst h0
    have hz:=QV.u4 H4.out.v (g:=w.heap.size) (x:=(0,0,0,0)) (by simp)
    obtain ⟨z0,z1,z2,z3,z4,z5,z6,z7⟩:=row4 hz
    have HZ:=Lib.hid (put4 hz (0,0,0,0))
    have HBB:=Lib.hid (put4_below H4.out.b (Nat.le_refl _) (.int .u64 0) (.int .u64 0) (.int .u64 0) (.int .u64 0))
    clear hz H4 H3 HRD HST HEN HLA HLE hlt h1 h2 hn62
    go_wp2_with fail
    try rw [Exit.noGoto_ret]
    refine bodyPost_ret (results_cell_row2 rfl _ _ w.heap.size 24 (uL (0,0,0,0)) (0,0) _ rfl HZ.out Tryz.underlying24 rfl (by kernel_rfl)) rfl ?_
    exact ⟨rfl,HBB.out⟩
   ·have hE:=HLA.out.2 h0
    have hne:((lo:Int) == 0)=false:=by rw [beq_eq_false_iff_ne]; omega
    have hbt:decide (lo≠0)=true:=decide_eq_true h0
    have HBT:=Lib.hid hbt
    obtain ⟨n1,hn1⟩:∃ n1:Int,n1=(lo:Int) - 1:=⟨_,rfl⟩
    have hn3:I63 n1:=by unfold I63; omega
    have hwr:IntKind.i64.wrap ((lo:Int) - 1)=n1:=by rw [hn1,IntKind.wrap_i64]; omega
    have hwr2:wrap64 ((lo:Int) - 1)=n1:=by rw [hn1]; clear hwr; unfold wrap64; omega
    rw [← hn1] at hE
    have HR:=Lib.hid (HRD.out n1 _ hn3 H4.out)
    have hF1:=fun (a:Nat) (c:W4) w=>pt_f1 a c w
    subst hE
    clear H4 H3 HRD HST HEN HLA HLE hlt h1 h2 hn62 hn1 hn3 h0 hbt
    go_wp2_with fail
    refine Calls.mono HR.out ?_
    rintro e w3 ⟨rfl,h5⟩
    have hz:=QV.u4 h5.v (g:=w.heap.size) (x:=(0,0,0,0)) (by simp)
    obtain ⟨z0,z1,z2,z3,z4,z5,z6,z7⟩:=row4 hz
    have HZ:=Lib.hid (put4 hz (pt n1).2)
    have HBB:=Lib.hid (put4_below h5.b (Nat.le_refl _) (.int .u64 (pt n1).2.1) (.int .u64 (pt n1).2.2.1) (.int .u64 (pt n1).2.2.2.1) (.int .u64 (pt n1).2.2.2.2))
    clear hz h5 HR
    go_wp2_with fail
    try rw [Exit.noGoto_ret]
    refine bodyPost_ret (results_cell_row2 rfl _ _ w.heap.size 24 (uL (pt n1).2) (0,0) _ rfl HZ.out Tryz.underlying24 rfl (by kernel_rfl)) rfl ?_
    exact ⟨by rw [HBT.out]; rfl,HBB.out⟩
def St.slash (s:St) (o t b d:Int):W4:=if d < 0∨b≤d then s.hlast 16 [o,t] else gapW (s.hlast 16 [o,t]) (s.hat 16 [o,t] (b - d - 1))
theorem xslashN_q (w:World) (h:Hand) (s:St) (f:Nat) (o t b d:Int) (ho:I63 o) (ht:I63 t) (hd0:d < 0) (hq:QSt w h s) (hf:s.Fit f) (hm:f < 100000000000) :
  Calls Tryz.prog 46 #[.pointer h.ptr,.int .i64 o,.int .i64 t,.int .i64 b,.int .i64 d] w fun e w'=>e = .returned (uV (s.hlast 16 [o,t]))∧Below w.heap.size w w':=by
 have hB:=(BV.start w).alloc zO
 have hl:IdOk [o,t]:=⟨by simp,fun y hy=>by
  rcases List.mem_cons.1 hy with h | h
  ·subst h; exact ho
  ·rw [List.mem_singleton] at h; subst h; exact ht⟩
 have HLA:Hid (∀ rs W g,(g,i2O o t)∈rs→BV w rs W→Calls Tryz.prog 117 #[.pointer h.ptr,.int .i64 16,.slice (some ⟨g,0,none⟩) 2 2] W fun e w'=>e = .returned (.tuple #[uV (s.hlast 16 [o,t]),.bool (decide (s.hlen 16 [o,t]≠0))])∧BV w rs w'):=fun rs W g hg hV =>
  hV.reads (histLast_q W h s f 16 (by omega) (by omega) _ _ (ints_at2 (hV.row hg)) hl (hq.below (BV.bl hV)) hf hm)
 have HB:=Lib.hid hB
 clear hB hl hq hf hm ho ht
 have hd2:(d < 0)=True:=eq_true hd0
 clear hd0
 generalize decide (s.hlen 16 [o,t]≠0)=lb at *
 generalize s.hlast 16 [o,t]=hd at *
 go_enter Tryz.func46,Tryz.ntmps46
 go_upto_region 2 with fail
 have hB2:=HB.out.alloc (i2O o t)
 rw [World.size_alloc] at hB2
 generalize hw2:(w.alloc zO).alloc (i2O o t)=w2 at *
 clear hw2 HB
 have HL2:=Lib.hid (HLA.out _ _ (w.heap.size+1) (by simp) hB2)
 clear HLA hB2
 go_wp2_with fail
 refine Calls.mono HL2.out ?_
 rintro e w3 ⟨rfl,hB3⟩
 have HB4:=Lib.hid (hB3.alloc (uO hd))
 clear HL2 hB3
 go_upto_region 3 with fail
 generalize hw4:w3.alloc (uO hd)=w4 at *
 generalize w3.heap.size=g4 at *
 clear hw4
 have hz:w4.heap[w.heap.size]? = some (.cells (uL (0,0,0,0)) 24 (0,0)):=HB4.out.row (g:=w.heap.size) (o:=zO) (by simp)
 obtain ⟨z0,z1,z2,z3,z4,z5,z6,z7⟩:=row4 (x:=(0,0,0,0)) hz
 obtain ⟨m0,m1,m2,m3,m4,m5,m6,m7⟩:=row4 (HB4.out.row (g:=g4) (o:=uO hd) (by simp))
 have HZ:=Lib.hid (put4 hz hd)
 have HBB:=Lib.hid (put4_below (BV.bl HB4.out) (Nat.le_refl _) (.int .u64 hd.1) (.int .u64 hd.2.1) (.int .u64 hd.2.2.1) (.int .u64 hd.2.2.2))
 clear hz HB4
 go_wp2_with fail
 refine bodyPost_ret (results_cell_row rfl _ _ w.heap.size 24 (uL hd) (0,0) _ rfl HZ.out Tryz.underlying24 rfl (by kernel_rfl)) rfl ?_
 exact ⟨rfl,HBB.out⟩
theorem xslashP_q (w:World) (h:Hand) (s:St) (f:Nat) (o t b d:Int) (ho:I63 o) (ht:I63 t) (hb:I63 b) (hd0:0≤d) (hbd:d < b) (hq:QSt w h s) (hf:s.Fit f) (hm:f < 100000000000) (hn62:s.hlen 16 [o,t] < 4611686018427387904) :
  Calls Tryz.prog 46 #[.pointer h.ptr,.int .i64 o,.int .i64 t,.int .i64 b,.int .i64 d] w fun e w'=>e = .returned (uV (gapW (s.hlast 16 [o,t]) (s.hat 16 [o,t] (b - d - 1))))∧Below w.heap.size w w':=by
 have hB:=(BV.start w).alloc zO
 have hl:IdOk [o,t]:=⟨by simp,fun y hy=>by
  rcases List.mem_cons.1 hy with h | h
  ·subst h; exact ho
  ·rw [List.mem_singleton] at h; subst h; exact ht⟩
 have HLA:Hid (∀ rs W g,(g,i2O o t)∈rs→BV w rs W→Calls Tryz.prog 117 #[.pointer h.ptr,.int .i64 16,.slice (some ⟨g,0,none⟩) 2 2] W fun e w'=>e = .returned (.tuple #[uV (s.hlast 16 [o,t]),.bool (decide (s.hlen 16 [o,t]≠0))])∧BV w rs w'):=fun rs W g hg hV =>
  hV.reads (histLast_q W h s f 16 (by omega) (by omega) _ _ (ints_at2 (hV.row hg)) hl (hq.below (BV.bl hV)) hf hm)
 have HAT:Hid (∀ rs W g,(g,i2O o t)∈rs→BV w rs W→Calls Tryz.prog 118 #[.pointer h.ptr,.int .i64 16,.slice (some ⟨g,0,none⟩) 2 2,.int .i64 (b - d - 1)] W fun e w'=>e = .returned (.tuple #[uV (s.hat 16 [o,t] (b - d - 1)),.bool (decide (s.hpos 16 [o,t] (b - d - 1)≠0))])∧BV w rs w'):=fun rs W g hg hV =>
  hV.reads (hat_q W h s f 16 (by omega) (by omega) _ _ _ (ints_at2 (hV.row hg)) hl (hq.below (BV.bl hV)) hf hm hn62)
 have HSB:Hid (∀ rs W,BV w rs W→Calls Tryz.prog 71 #[uV (s.hlast 16 [o,t]),uV (s.hat 16 [o,t] (b - d - 1))] W fun e w'=>e = .returned (.tuple #[uV (gapW (s.hlast 16 [o,t]) (s.hat 16 [o,t] (b - d - 1))),.bool (uSubC (s.hlast 16 [o,t]) (s.hat 16 [o,t] (b - d - 1)) == 0)])∧BV w rs w'):=fun rs W hV=>hV.reads (usub_any _ _ (hlast_ok _ _ _) (hat_ok _ _ _ _) W)
 have HB:=Lib.hid hB
 unfold I63 at hb
 have hw1:IntKind.i64.wrap (b - d)=b - d:=by rw [IntKind.wrap_i64]; omega
 have hw1':wrap64 (b - d)=b - d:=by unfold wrap64; omega
 obtain ⟨bb,hbb⟩:∃ bb,bb=b - d - 1:=⟨_,rfl⟩
 have hw2:IntKind.i64.wrap (b - d - 1)=bb:=by rw [IntKind.wrap_i64]; omega
 have hw2':wrap64 (b - d - 1)=bb:=by unfold wrap64; omega
 rw [← hbb] at HAT HSB ⊢
 clear hB hl hq hf hm ho ht hn62 hb hbb
 have hbd2:(b≤d)=False:=eq_false (by omega)
 have hd2:(d < 0)=False:=eq_false (by omega)
 clear hbd hd0
 generalize decide (s.hlen 16 [o,t]≠0)=lb at *
 generalize decide (s.hpos 16 [o,t] bb≠0)=lc at *
 generalize (uSubC (s.hlast 16 [o,t]) (s.hat 16 [o,t] bb) == 0)=ld at *
 generalize gapW (s.hlast 16 [o,t]) (s.hat 16 [o,t] bb)=gp at *
 generalize s.hlast 16 [o,t]=hd at *
 generalize s.hat 16 [o,t] bb=ha at *
 go_enter Tryz.func46,Tryz.ntmps46
 go_upto_region 2 with fail
 have hB2:=HB.out.alloc (i2O o t)
 rw [World.size_alloc] at hB2
 generalize hw2:(w.alloc zO).alloc (i2O o t)=w2 at *
 clear hw2 HB
 have HL2:=Lib.hid (HLA.out _ _ (w.heap.size+1) (by simp) hB2)
 clear HLA hB2
 go_wp2_with fail
 refine Calls.mono HL2.out ?_
 rintro e w3 ⟨rfl,hB3⟩
 have HB4:=Lib.hid (hB3.alloc (uO hd))
 clear HL2 hB3
 go_upto_region 5 with fail
 generalize hw4:w3.alloc (uO hd)=w4 at *
 generalize w3.heap.size=g4 at *
 clear hw4
 have HA4:=Lib.hid (HAT.out _ _ (w.heap.size+1) (by simp) HB4.out)
 clear HAT HB4 hbd2 hd2
 go_wp2_with fail
 refine Calls.mono HA4.out ?_
 rintro e w5 ⟨rfl,hB5⟩
 have HB6:=Lib.hid (hB5.alloc (uO ha))
 clear HA4 hB5 hw1 hw1' hw2'
 go_upto_region 6 with fail
 generalize hw6:w5.alloc (uO ha)=w6 at *
 generalize w5.heap.size=g6 at *
 clear hw6
 obtain ⟨m0,m1,m2,m3,m4,m5,m6,m7⟩:=row4 (HB6.out.row (g:=g4) (o:=uO hd) (by simp))
 obtain ⟨n0,n1,n2,n3,n4,n5,n6,n7⟩:=row4 (HB6.out.row (g:=g6) (o:=uO ha) (by simp))
 have HS6:=Lib.hid (HSB.out _ _ HB6.out)
 clear HSB HB6
 go_wp2_with fail
 refine Calls.mono HS6.out ?_
 rintro e w7 ⟨rfl,hB7⟩
 have HB8:=Lib.hid (hB7.alloc (uO gp))
 clear HS6 hB7 m0 m1 m2 m3 m4 m5 m6 m7 n0 n1 n2 n3 n4 n5 n6 n7
 go_upto_region 7 with fail
 generalize hw8:w7.alloc (uO gp)=w8 at *
 generalize w7.heap.size=g8 at *
 clear hw8
 have hz:w8.heap[w.heap.size]? = some (.cells (uL (0,0,0,0)) 24 (0,0)):=HB8.out.row (g:=w.heap.size) (o:=zO) (by simp)
 obtain ⟨z0,z1,z2,z3,z4,z5,z6,z7⟩:=row4 (x:=(0,0,0,0)) hz
 obtain ⟨m0,m1,m2,m3,m4,m5,m6,m7⟩:=row4 (HB8.out.row (g:=g8) (o:=uO gp) (by simp))
 have HZ:=Lib.hid (put4 hz gp)
 have HBB:=Lib.hid (put4_below (BV.bl HB8.out) (Nat.le_refl _) (.int .u64 gp.1) (.int .u64 gp.2.1) (.int .u64 gp.2.2.1) (.int .u64 gp.2.2.2))
 clear hz HB8
 go_wp2_with fail
 refine bodyPost_ret (results_cell_row rfl _ _ w.heap.size 24 (uL gp) (0,0) _ rfl HZ.out Tryz.underlying24 rfl (by kernel_rfl)) rfl ?_
 exact ⟨rfl,HBB.out⟩
theorem xslash_q (w:World) (h:Hand) (s:St) (f:Nat) (o t b d:Int) (ho:I63 o) (ht:I63 t) (hb:I63 b) (hq:QSt w h s) (hf:s.Fit f) (hm:f < 100000000000) (hn62:s.hlen 16 [o,t] < 4611686018427387904) :
  Calls Tryz.prog 46 #[.pointer h.ptr,.int .i64 o,.int .i64 t,.int .i64 b,.int .i64 d] w fun e w'=>e = .returned (uV (s.slash o t b d))∧Below w.heap.size w w':=by
 unfold St.slash
 by_cases h1:d < 0
 ·rw [if_pos (.inl h1)]
  exact xslashN_q w h s f o t b d ho ht h1 hq hf hm
 ·by_cases h2:b≤d
  ·rw [if_pos (.inr h2)]
   exact xslash0_q w h s f o t b d ho ht (by omega) h2 hq hf hm
  ·rw [if_neg (by omega)]
   exact xslashP_q w h s f o t b d ho ht hb (by omega) (by omega) hq hf hm hn62
end Go.Proofs.YtnkilceibkkjlaaGreat
