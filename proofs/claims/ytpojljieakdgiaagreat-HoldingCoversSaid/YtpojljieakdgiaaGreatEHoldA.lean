/- What is proved here: holdings of the program, read: read, Deposit, Factor, part, Part, Worth. Their conditions: sizes. -/
import Derived.Test.YtpojljieakdgiaaGreatEQVM
import Derived.Test.YtpojljieakdgiaaGreatEMulP
set_option maxRecDepth 100000
set_option maxHeartbeats 16000000
namespace Go.Proofs.YtpojljieakdgiaaGreat
open Go.RowKit
abbrev iRow (a b:Int):Obj:=.cells #[.int .i64 a,.int .i64 b] 3
abbrev I63 (a:Int):Prop:=a < 9223372036854775808
theorem key2_any (t:Nat) (ht1:1≤t) (ht2:t≤255) (a b:Int) (ha:I63 a) (hb:I63 b) (W:World):Calls Tryz.prog 86 #[.int .i64 t,.slice (some ⟨W.heap.size,0,none⟩) 2 2] (W.alloc (iRow a b)) fun e w'=>e = .returned (.string (keyL t [a,b]))∧Below W.heap.size W w' :=
 (key_any t ht1 ht2 _ [a,b] _ (two_ints W a b) (by simp) (fun n hn=>by
  simp only [List.mem_cons,List.not_mem_nil,or_false] at hn
  rcases hn with rfl | rfl
  ·exact ha
  ·exact hb)).mono fun e w' ⟨he,hb⟩=>⟨he,bl_then (bl_alloc (Below.refl _ W) _) hb⟩
theorem hpart_any (o t:Int) (ho:I63 o) (ht:I63 t) (w:World):Calls Tryz.prog 63 #[.int .i64 o,.int .i64 t] w fun e w'=>e = .returned (.string (keyL 12 [o,t]))∧Below w.heap.size w w':=by
 have HK:Hid (Calls Tryz.prog 86 #[.int .i64 12,.slice (some ⟨w.heap.size,0,none⟩) 2 2] (w.alloc (iRow o t)) fun e w'=>e = .returned (.string (keyL 12 [o,t]))∧Below w.heap.size w w'):=key2_any 12 (by decide) (by decide) o t ho ht w
 go_enter Tryz.func63,Tryz.ntmps63
 go_wp2_with fail
 refine Calls.mono HK.out ?_
 rintro e w1 ⟨rfl,hb⟩
 have HB:=Lib.hid hb
 clear hb HK
 go_wp2_with fail
 go_ret
 exact ⟨rfl,HB.out⟩
abbrev hL (d f:W4):Array Value:=wL d f
abbrev hV (d f:W4):Value:=wV d f
theorem row8 {w:World} {g:Nat} {a b:W4} {T:TypeId} (h:w.heap[g]? = some (.cells (wL a b) T (0,0))):(w.cell? ⟨g,0,none⟩=some (.int .u64 a.1)∧w.cell? ⟨g,1,none⟩=some (.int .u64 a.2.1)∧w.cell? ⟨g,2,none⟩=some (.int .u64 a.2.2.1)∧w.cell? ⟨g,3,none⟩=some (.int .u64 a.2.2.2)) ∧
  (w.cell? ⟨g,4,none⟩=some (.int .u64 b.1)∧w.cell? ⟨g,5,none⟩=some (.int .u64 b.2.1)∧w.cell? ⟨g,6,none⟩=some (.int .u64 b.2.2.1)∧w.cell? ⟨g,7,none⟩=some (.int .u64 b.2.2.2))∧∀ o,w.frozen? ⟨g,o,none⟩=false:=by
 have hc:∀ o v,(wL a b)[o]? = some v→w.cell? ⟨g,o,none⟩=some v:=fun o v hv=>by rw [cell_of_row _ _ _ _ _ _ h]; exact hv
 exact ⟨⟨hc 0 _ rfl,hc 1 _ rfl,hc 2 _ rfl,hc 3 _ rfl⟩,⟨hc 4 _ rfl,hc 5 _ rfl,hc 6 _ rfl,hc 7 _ rfl⟩,fun o=>by simp [World.frozen?,h]⟩
theorem half8 {w:World} {g:Nat} {a b:W4} {T:TypeId} (h:w.heap[g]? = some (.cells (wL a b) T (0,0))) (lo:W4):((((w.setCell ⟨g,4,none⟩ (.int .u64 lo.1)).setCell ⟨g,5,none⟩ (.int .u64 lo.2.1)).setCell ⟨g,6,none⟩ (.int .u64 lo.2.2.1)).setCell ⟨g,7,none⟩ (.int .u64 lo.2.2.2)).heap[g]? = some (.cells (wL a lo) T (0,0)):=by
 have h4:=setCell_row (off:=4) (.int .u64 lo.1) h
 have h5:=setCell_row (off:=5) (.int .u64 lo.2.1) h4
 have h6:=setCell_row (off:=6) (.int .u64 lo.2.2.1) h5
 have h7:=setCell_row (off:=7) (.int .u64 lo.2.2.2) h6
 rw [h7]
 simp
abbrev hO (d f:W4):Obj:=.cells (hL d f) 110
abbrev z8:Obj:=.cells #[.int .u64 0,.int .u64 0,.int .u64 0,.int .u64 0,.int .u64 0,.int .u64 0,.int .u64 0,.int .u64 0] 110
abbrev zO:Obj:=.cells #[.int .u64 0,.int .u64 0,.int .u64 0,.int .u64 0] 28
theorem held_f0 (d f:W4) (w:World):(Instr.field 110 (hV d f) 0).run Tryz.prog w = .ok (uV d) w:=by
 show (Instr.field 110 (.agg #[.int .u64 d.1,.int .u64 d.2.1,.int .u64 d.2.2.1,.int .u64 d.2.2.2,.int .u64 f.1,.int .u64 f.2.1,.int .u64 f.2.2.1,.int .u64 f.2.2.2]) 0).run Tryz.prog w = .ok (.agg #[.int .u64 d.1,.int .u64 d.2.1,.int .u64 d.2.2.1,.int .u64 d.2.2.2]) w
 kernel_rfl
theorem put4h_below {n g:Nat} {w0 w:World} (h:Below n w0 w) (hg:n≤g) (a b c d:Value):Below n w0 ((((w.setCell ⟨g,4,none⟩ a).setCell ⟨g,5,none⟩ b).setCell ⟨g,6,none⟩ c).setCell ⟨g,7,none⟩ d) :=
 (((h.setCell (p:=⟨g,4,none⟩) hg _).setCell (p:=⟨g,5,none⟩) hg _).setCell (p:=⟨g,6,none⟩) hg _).setCell (p:=⟨g,7,none⟩) hg _
theorem half8_other {w:World} {g k:Nat} {o:Obj} (hk:k≠g) (h:w.heap[k]? = some o) (a b c d:Value):((((w.setCell ⟨g,4,none⟩ a).setCell ⟨g,5,none⟩ b).setCell ⟨g,6,none⟩ c).setCell ⟨g,7,none⟩ d).heap[k]? = some o:=by
 rw [Below.heap_setCell _ _ _ _ hk,Below.heap_setCell _ _ _ _ hk,Below.heap_setCell _ _ _ _ hk,Below.heap_setCell _ _ _ _ hk]; exact h
def St.dep (s:St) (a t:Int):W4:=s.amt (keyL 10 [a,t])
def St.fct (s:St) (a t:Int):W4:=if s.amt (keyL 11 [a,t])=(0,0,0,0) then oneW else s.amt (keyL 11 [a,t])
def St.prt (s:St) (o t:Int):W4:=s.amt (keyL 12 [o,t])
theorem fct_ok (s:St) (a t:Int):(s.fct a t).Ok:=by
 unfold St.fct; split
 ·exact one_ok
 ·exact amt_ok _ _
theorem hread_q (w:World) (h:Hand) (s:St) (f:Nat) (a t:Int) (ha:I63 a) (ht:I63 t) (hq:QSt w h s) (hf:s.Fit f) (hm:f < 100000000000) :
  Calls Tryz.prog 58 #[.pointer h.ptr,.int .i64 a,.int .i64 t] w fun e w'=>e = .returned (hV (s.dep a t) (s.fct a t))∧Below w.heap.size w w':=by
 have hR0:=bl_alloc (Below.refl w.heap.size w) z8
 have hrow:(w.alloc z8).heap[w.heap.size]? = some z8:=heap_alloc_new w _
 have HK1:Hid (∀ W,Calls Tryz.prog 86 #[.int .i64 10,.slice (some ⟨W.heap.size,0,none⟩) 2 2] (W.alloc (iRow a t)) fun e w'=>e = .returned (.string (keyL 10 [a,t]))∧Below W.heap.size W w'):=key2_any 10 (by decide) (by decide) a t ha ht
 have HK2:Hid (∀ W,Calls Tryz.prog 86 #[.int .i64 11,.slice (some ⟨W.heap.size,0,none⟩) 2 2] (W.alloc (iRow a t)) fun e w'=>e = .returned (.string (keyL 11 [a,t]))∧Below W.heap.size W w'):=key2_any 11 (by decide) (by decide) a t ha ht
 have HA:Hid (∀ k W,Below w.heap.size w W→Calls Tryz.prog 78 #[.pointer h.ptr,.string k] W fun e w'=>e = .returned (uV (s.amt k))∧Below W.heap.size W w'):=fun k W hW=>camount_q W h s f k (hq.below hW) hf hm
 have HF:Hid (s.fct a t=if s.amt (keyL 11 [a,t])=(0,0,0,0) then oneW else s.amt (keyL 11 [a,t])):=rfl
 have HA1:=Lib.hid (HA.out (keyL 10 [a,t]))
 have HA2:=Lib.hid (HA.out (keyL 11 [a,t]))
 have HD:Hid (s.amt (keyL 10 [a,t])=s.dep a t):=rfl
 rw [HD.out] at HA1
 generalize s.dep a t=d at *
 generalize s.fct a t=fc at *
 generalize s.amt (keyL 11 [a,t])=f0 at *
 generalize keyL 10 [a,t]=k1 at *
 generalize keyL 11 [a,t]=k2 at *
 clear HA HD hq hf
 go_enter Tryz.func58,Tryz.ntmps58
 go_upto_region 1 with fail
 generalize w.alloc z8=W0 at *
 have HR0:=Lib.hid hR0
 have HRow:=Lib.hid hrow
 clear hR0 hrow
 go_wp2_with fail
 refine Calls.mono (HK1.out W0) ?_
 rintro e w1 ⟨rfl,hb1⟩
 have hb1':=bl_then HR0.out hb1
 have HA1':=Lib.hid (HA1.out _ hb1')
 have HB1:=Lib.hid hb1
 clear hb1 hb1' HA1 HK1
 go_wp2_with fail
 refine Calls.mono HA1'.out ?_
 rintro e w2 ⟨rfl,hb2⟩
 have hb2':=bl_then HB1.out hb2
 have HB2:=Lib.hid hb2'
 clear hb2 hb2' HA1' HB1
 go_wp2_with fail
 refine Calls.mono (HK2.out w2) ?_
 rintro e w3 ⟨rfl,hb3⟩
 have hb3':=bl_then HB2.out hb3
 have HA2':=Lib.hid (HA2.out _ (bl_then HR0.out hb3'))
 have HB3:=Lib.hid hb3'
 clear hb3 hb3' HA2 HK2 HB2
 go_wp2_with fail
 refine Calls.mono HA2'.out ?_
 rintro e w4 ⟨rfl,hb4⟩
 have hb4':=bl_then HB3.out hb4
 have HB4:Hid (Below w.heap.size w (w4.alloc (hO d f0))∧(w4.alloc (hO d f0)).heap[w.heap.size]? = some z8∧(w4.alloc (hO d f0)).heap[w4.heap.size]? = some (hO d f0)∧w.heap.size < w4.heap.size):=by
  have h1:=bl_then HR0.out hb4'
  have h2:w4.heap[w.heap.size]? = some z8:=(hb4'.block _ (lt_of_at HRow.out)).trans HRow.out
  exact ⟨bl_alloc h1 _,by rw [heap_alloc_old _ _ (lt_of_at h2)]; exact h2,heap_alloc_new w4 _,lt_of_at h2⟩
 clear hb4 hb4' HA2' HB3 HR0 HRow
 go_upto_region 2 with fail
 have hlt:=HB4.out.2.2.2
 obtain ⟨hb5,hz5,hr5,_⟩:=HB4.out
 clear HB4
 generalize w4.alloc (hO d f0)=w5 at *
 generalize w4.heap.size=g at *
 have hne:=Nat.ne_of_lt hlt
 have hne2:=Ne.symm hne
 by_cases h0:f0=(0,0,0,0)
 ·rw [if_pos h0] at HF
  subst h0
  have hE:∀ w,(Op.equalIn 10000 28 (.agg #[.int .u64 0,.int .u64 0,.int .u64 0,.int .u64 0]) (.agg #[.int .u64 0,.int .u64 0,.int .u64 0,.int .u64 0])).run Tryz.prog w = .ok true w:=fun w=>eqU (0,0,0,0) (0,0,0,0) w
  have HO:Hid (Calls Tryz.prog 13 #[] w5 fun e w'=>e = .returned (uV fc)∧Below w.heap.size w w'∧w'.heap[w.heap.size]? = some z8∧w'.heap[g]? = some (hO d (0,0,0,0))) :=
   (one_any w5).mono fun e w' ⟨he,hb⟩=>⟨by rw [he,HF.out],bl_then hb5 hb,(hb.block _ (lt_of_at hz5)).trans hz5,(hb.block _ (lt_of_at hr5)).trans hr5⟩
  obtain ⟨⟨d0,d1,d2,d3⟩,⟨d4,d5,d6,d7⟩,fz⟩:=row8 hr5
  clear hb5 hz5 hr5
  clear HF
  go_wp2_with fail
  refine Calls.mono HO.out ?_
  rintro e w6 ⟨rfl,hb6,hz6,hr6⟩
  clear d0 d1 d2 d3 d4 d5 d6 d7 fz
  obtain ⟨⟨d0,d1,d2,d3⟩,⟨d4,d5,d6,d7⟩,fz⟩:=row8 hr6
  have hr7:=half8 hr6 fc
  have hb7:=put4h_below hb6 (Nat.le_of_lt hlt) (.int .u64 fc.1) (.int .u64 fc.2.1) (.int .u64 fc.2.2.1) (.int .u64 fc.2.2.2)
  have hz7:=half8_other hne hz6 (.int .u64 fc.1) (.int .u64 fc.2.1) (.int .u64 fc.2.2.1) (.int .u64 fc.2.2.2)
  clear hb6 hz6 hr6 HO
  go_upto_region 4 with fail
  generalize (((w6.setCell ⟨g,4,none⟩ (.int .u64 fc.1)).setCell ⟨g,5,none⟩ (.int .u64 fc.2.1)).setCell ⟨g,6,none⟩ (.int .u64 fc.2.2.1)).setCell ⟨g,7,none⟩ (.int .u64 fc.2.2.2)=w7 at *
  clear d0 d1 d2 d3 d4 d5 d6 d7 fz
  obtain ⟨⟨d0,d1,d2,d3⟩,⟨d4,d5,d6,d7⟩,fz⟩:=row8 hr7
  obtain ⟨⟨z0,z1,z2,z3⟩,⟨z4,z5,z6,z7⟩,fy⟩:=row8 (a:=(0,0,0,0)) (b:=(0,0,0,0)) hz7
  have HZ:=Lib.hid (put8 (a:=(0,0,0,0)) (b:=(0,0,0,0)) hz7 d fc)
  have HB:=Lib.hid (put8_below hb7 (Nat.le_refl _) d fc)
  clear hb7 hz7 hr7
  go_wp2_with fail
  refine bodyPost_ret (results_cell_row rfl _ _ w.heap.size 110 (hL d fc) (0,0) _ rfl HZ.out Tryz.underlying110 rfl (by kernel_rfl)) rfl ?_
  exact ⟨rfl,HB.out⟩
 ·rw [if_neg h0] at HF
  obtain rfl:=HF.out
  have hE:∀ w,(Op.equalIn 10000 28 (uV fc) (.agg #[.int .u64 0,.int .u64 0,.int .u64 0,.int .u64 0])).run Tryz.prog w = .ok false w:=fun w=>by
   have:=eqU fc (0,0,0,0) w
   rwa [decide_eq_false h0] at this
  obtain ⟨⟨d0,d1,d2,d3⟩,⟨d4,d5,d6,d7⟩,fz⟩:=row8 hr5
  obtain ⟨⟨z0,z1,z2,z3⟩,⟨z4,z5,z6,z7⟩,fy⟩:=row8 (a:=(0,0,0,0)) (b:=(0,0,0,0)) hz5
  have HZ:=Lib.hid (put8 (a:=(0,0,0,0)) (b:=(0,0,0,0)) hz5 d fc)
  have HB:=Lib.hid (put8_below hb5 (Nat.le_refl _) d fc)
  clear hb5 hz5 hr5 h0 HF
  go_wp2_with fail
  refine bodyPost_ret (results_cell_row rfl _ _ w.heap.size 110 (hL d fc) (0,0) _ rfl HZ.out Tryz.underlying110 rfl (by kernel_rfl)) rfl ?_
  exact ⟨rfl,HB.out⟩
theorem hDeposit_q (w:World) (h:Hand) (s:St) (f:Nat) (a t:Int) (ha:I63 a) (ht:I63 t) (hq:QSt w h s) (hf:s.Fit f) (hm:f < 100000000000) :
  Calls Tryz.prog 16 #[.pointer h.ptr,.int .i64 a,.int .i64 t] w fun e w'=>e = .returned (uV (s.dep a t))∧Below w.heap.size w w':=by
 have hb0:=bl_alloc (Below.refl w.heap.size w) zO
 have hr0:(w.alloc zO).heap[w.heap.size]? = some zO:=heap_alloc_new w _
 have HR:Hid (Calls Tryz.prog 58 #[.pointer h.ptr,.int .i64 a,.int .i64 t] (w.alloc zO) fun e w'=>e = .returned (hV (s.dep a t) (s.fct a t))∧Below w.heap.size w w'∧w'.heap[w.heap.size]? = some zO) :=
  (hread_q _ h s f a t ha ht (hq.below hb0) hf hm).mono fun e w' ⟨he,hb⟩=>⟨he,bl_then hb0 hb,(hb.block _ (lt_of_at hr0)).trans hr0⟩
 obtain ⟨d,hd⟩:∃ d,d=s.dep a t:=⟨_,rfl⟩
 obtain ⟨fc,hfc⟩:∃ fc,fc=s.fct a t:=⟨_,rfl⟩
 rw [← hd,← hfc] at HR
 rw [← hd]
 have hfld:=held_f0 d fc
 clear hd hfc hb0 hr0 hq hf
 go_enter Tryz.func16,Tryz.ntmps16
 go_wp2_with fail
 refine Calls.mono HR.out ?_
 rintro e w2 ⟨rfl,hb2,hr2⟩
 obtain ⟨z0,z1,z2,z3,z4,z5,z6,z7⟩:=row4 (x:=(0,0,0,0)) hr2
 have HZ:=Lib.hid (put4 (x:=(0,0,0,0)) hr2 d)
 have HB:=Lib.hid (put4_below hb2 (Nat.le_refl _) (.int .u64 d.1) (.int .u64 d.2.1) (.int .u64 d.2.2.1) (.int .u64 d.2.2.2))
 clear hb2 hr2 HR
 go_wp2_with fail
 refine bodyPost_ret (results_cell_row rfl _ _ w.heap.size 28 (uL d) (0,0) _ rfl HZ.out Tryz.underlying28 rfl (by kernel_rfl)) rfl ?_
 exact ⟨rfl,HB.out⟩
theorem hPart_q (w:World) (h:Hand) (s:St) (f:Nat) (o t:Int) (ho:I63 o) (ht:I63 t) (hq:QSt w h s) (hf:s.Fit f) (hm:f < 100000000000) :
  Calls Tryz.prog 24 #[.pointer h.ptr,.int .i64 o,.int .i64 t] w fun e w'=>e = .returned (uV (s.prt o t))∧Below w.heap.size w w':=by
 have hb0:=bl_alloc (Below.refl w.heap.size w) zO
 have hr0:(w.alloc zO).heap[w.heap.size]? = some zO:=heap_alloc_new w _
 have HP:Hid (Calls Tryz.prog 63 #[.int .i64 o,.int .i64 t] (w.alloc zO) fun e w'=>e = .returned (.string (keyL 12 [o,t]))∧Below w.heap.size w w'∧w'.heap[w.heap.size]? = some zO):=(hpart_any o t ho ht _).mono fun e w' ⟨he,hb⟩=>⟨he,bl_then hb0 hb,(hb.block _ (lt_of_at hr0)).trans hr0⟩
 have HA:Hid (∀ W,Below w.heap.size w W∧W.heap[w.heap.size]? = some zO→Calls Tryz.prog 78 #[.pointer h.ptr,.string (keyL 12 [o,t])] W fun e w'=>e = .returned (uV (s.prt o t))∧Below w.heap.size w w'∧w'.heap[w.heap.size]? = some zO):=fun W hW =>
  (camount_q W h s f _ (hq.below hW.1) hf hm).mono fun e w' ⟨he,hb⟩=>⟨he,bl_then hW.1 hb,(hb.block _ (lt_of_at hW.2)).trans hW.2⟩
 generalize keyL 12 [o,t]=k at *
 generalize s.prt o t=u at *
 clear hb0 hr0 hq hf
 go_enter Tryz.func24,Tryz.ntmps24
 go_wp2_with fail
 refine Calls.mono HP.out ?_
 rintro e w1 ⟨rfl,h1⟩
 have HA1:=Lib.hid (HA.out _ h1)
 clear h1 HP HA
 go_wp2_with fail
 refine Calls.mono HA1.out ?_
 rintro e w2 ⟨rfl,hb2,hr2⟩
 obtain ⟨z0,z1,z2,z3,z4,z5,z6,z7⟩:=row4 (x:=(0,0,0,0)) hr2
 have HZ:=Lib.hid (put4 (x:=(0,0,0,0)) hr2 u)
 have HB:=Lib.hid (put4_below hb2 (Nat.le_refl _) (.int .u64 u.1) (.int .u64 u.2.1) (.int .u64 u.2.2.1) (.int .u64 u.2.2.2))
 clear hb2 hr2 HA1
 go_wp2_with fail
 refine bodyPost_ret (results_cell_row rfl _ _ w.heap.size 28 (uL u) (0,0) _ rfl HZ.out Tryz.underlying28 rfl (by kernel_rfl)) rfl ?_
 exact ⟨rfl,HB.out⟩
end Go.Proofs.YtpojljieakdgiaaGreat
