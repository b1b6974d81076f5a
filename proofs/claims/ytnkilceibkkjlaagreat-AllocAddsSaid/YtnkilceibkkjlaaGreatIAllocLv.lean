/- What is proved here: alloc.Mature, of more that waited. Its conditions: sizes. the alloc law's own example. No condition. the alloc law's own example, played. No condition. -/
import Derived.Test.YtnkilceibkkjlaaGreatIAlI
set_option maxRecDepth 100000
set_option maxHeartbeats 16000000
namespace Go.Proofs.YtnkilceibkkjlaaGreat
open Go.RowKit
structure IAt (w:World) (b:Nat) (L:List Nat) (s:St) (x:I4) (W:World):Prop where
 hb:Below w.heap.size w W
 hs:SRep W b s L
 hA:W.heap[w.heap.size]? = some (.cells (idL x) 34 (0,0))
theorem IAt.below {w:World} {b:Nat} {L:List Nat} {s:St} {x:I4} {W W':World} (h:IAt w b L s x W) (hb:Below W.heap.size W W'):IAt w b L s x W' :=
 ⟨bl_then h.hb hb,h.hs.below hb,(hb.block _ (Array.getElem?_eq_some_iff.1 h.hA).1).trans h.hA⟩
theorem IAt.alloc {w:World} {b:Nat} {L:List Nat} {s:St} {x:I4} {W:World} (h:IAt w b L s x W) (o:Obj):IAt w b L s x (W.alloc o):=h.below (bl_alloc (Below.refl _ W) o)
theorem IAt.start {w:World} {b:Nat} {L:List Nat} {s:St} (h:SRep w b s L) (x:I4):IAt w b L s x (w.alloc (.cells (idL x) 34)) :=
 have hb:=bl_alloc (Below.refl _ w) (.cells (idL x) 34)
 ⟨hb,h.below hb,heap_alloc_new w _⟩
theorem IAt.put {w:World} {b:Nat} {L:List Nat} {s:St} {x:I4} {W:World} (h:IAt w b L s x W) (hlt:∀ k∈L,k < w.heap.size) {D:Nat} (hD:w.heap.size < D) (y:W4) {z:W4} (hr:W.heap[D]? = some (.cells (uL z) 24 (0,0))) :
  IAt w b L s x ((((W.setCell ⟨D,0,none⟩ (.int .u64 y.1)).setCell ⟨D,1,none⟩ (.int .u64 y.2.1)).setCell ⟨D,2,none⟩ (.int .u64 y.2.2.1)).setCell ⟨D,3,none⟩ (.int .u64 y.2.2.2)) ∧
  ((((W.setCell ⟨D,0,none⟩ (.int .u64 y.1)).setCell ⟨D,1,none⟩ (.int .u64 y.2.1)).setCell ⟨D,2,none⟩ (.int .u64 y.2.2.1)).setCell ⟨D,3,none⟩ (.int .u64 y.2.2.2)).heap[D]? = some (.cells (uL y) 24 (0,0)):=by
 have hoth:∀ k,k≠D→((((W.setCell ⟨D,0,none⟩ (.int .u64 y.1)).setCell ⟨D,1,none⟩ (.int .u64 y.2.1)).setCell ⟨D,2,none⟩ (.int .u64 y.2.2.1)).setCell ⟨D,3,none⟩ (.int .u64 y.2.2.2)).heap[k]? = W.heap[k]?:=fun k hk=>by
  rw [Below.heap_setCell _ _ _ _ hk,Below.heap_setCell _ _ _ _ hk,Below.heap_setCell _ _ _ _ hk,Below.heap_setCell _ _ _ _ hk]
 exact ⟨⟨put4_below h.hb (by omega) _ _ _ _,h.hs.frame fun k hk=>hoth k (by have:=hlt k hk; omega),(hoth _ (by omega)).trans h.hA⟩,put4 hr y⟩
theorem On.from {w0 w:World} {b:Nat} {L:List Nat} {s:St} {W:World} (h:On w b L s W) (hb:Below w0.heap.size w0 w):On w0 b L s W:=(h.back hb (.bool true)).2
def matS (s:St) (x:I4) (y:W4):St:=((s.setAmt (aKey 29 x) y).del (aKey 30 x)).del (aKey 31 x)
theorem mature_more (w:World) (b:Nat) (s:St) (L:List Nat) (f:Nat) (x:I4) (a:W4) (bl:Nat) (hxo:x.Ok) (h:SRep w b s L) (hf:s.Fit f) (hm:f < 100000000) (ha:a.Ok) (hp:pend s x=(1,a,bl)) (hc0:uAddC (cur s x) a=0) :
  Calls Tryz.prog 23 #[.pointer (some ⟨b,0,none⟩),idV x] w fun e W'=>e = .returned (.bool true)∧On w b L (matS s x (uAddS (cur s x) a)) W':=by
 have hz:s.size < 1000000000000:=Nat.lt_of_le_of_lt hf.size (by omega)
 have hf1:=hf.setAmt (aKey 29 x) (uAddS (cur s x) a)
 have hz1:(s.setAmt (aKey 29 x) (uAddS (cur s x) a)).size < 1000000000000:=Nat.lt_of_le_of_lt hf1.size (by omega)
 have hf2:=hf1.del (aKey 30 x)
 have hz2:((s.setAmt (aKey 29 x) (uAddS (cur s x) a)).del (aKey 30 x)).size < 1000000000000:=Nat.lt_of_le_of_lt hf2.size (by omega)
 have hlt:=h.lt
 have hI0:=IAt.start h x
 have HP:Hid (∀ W,IAt w b L s x W→Calls Tryz.prog 20 #[.pointer (some ⟨b,0,none⟩),idV x] W fun e W'=>e = .returned (.tuple #[.int .i64 1,uV a,.int .i64 bl])∧Below W.heap.size W W'):=fun W hI=>(pending_any W _ s x hxo (ReadAt.made hI.hs hf (by omega))).mono fun e W' ⟨he,hb⟩=>⟨by rw [he,hp]; rfl,hb⟩
 have HC:Hid (∀ W,IAt w b L s x W→Calls Tryz.prog 18 #[.pointer (some ⟨b,0,none⟩),idV x] W fun e W'=>e = .returned (uV (cur s x))∧Below W.heap.size W W'):=fun W hI=>(current_any W _ s x hxo (ReadAt.made hI.hs hf (by omega))).mono fun e W' ⟨he,hb⟩=>⟨he,hb⟩
 have HADD:Hid (∀ W,Calls Tryz.prog 79 #[uV (cur s x),uV a] W fun e W'=>e = .returned (.tuple #[uV (uAddS (cur s x) a),.bool true])∧Below W.heap.size W W'):=fun W=>by
  have:=uadd_any (cur s x) a (toAmt_ok _) ha W
  rw [if_pos hc0,hc0] at this
  exact this
 have HK:Hid (∀ (t:Nat) W s' W',1≤t→t≤255→On W b L s' W'→Calls Tryz.prog 65 #[idV x,.int .i64 t] W' fun e W2=>e = .returned (.string (aKey t x))∧On W b L s' W2):=fun t W s' W' h1 h2 hO=>(akey_any t h1 h2 x hxo W').mono fun e W2 ⟨he,hb⟩=>⟨he,hO.below hb⟩
 have HK29:Hid (∀ W W',On W b L s W'→Calls Tryz.prog 65 #[idV x,.int .i64 29] W' fun e W2=>e = .returned (.string (aKey 29 x))∧On W b L s W2):=fun W W' hO=>HK.out 29 W s W' (by decide) (by decide) hO
 have HK30:Hid (∀ W W',On W b L (s.setAmt (aKey 29 x) (uAddS (cur s x) a)) W'→Calls Tryz.prog 65 #[idV x,.int .i64 30] W' fun e W2=>e = .returned (.string (aKey 30 x))∧On W b L (s.setAmt (aKey 29 x) (uAddS (cur s x) a)) W2):=fun W W' hO=>HK.out 30 W _ W' (by decide) (by decide) hO
 have HK31:Hid (∀ W W',On W b L ((s.setAmt (aKey 29 x) (uAddS (cur s x) a)).del (aKey 30 x)) W'→Calls Tryz.prog 65 #[idV x,.int .i64 31] W' fun e W2=>e = .returned (.string (aKey 31 x))∧On W b L ((s.setAmt (aKey 29 x) (uAddS (cur s x) a)).del (aKey 30 x)) W2):=fun W W' hO=>HK.out 31 W _ W' (by decide) (by decide) hO
 have HS:Hid (∀ W W',On W b L s W'→Calls Tryz.prog 81 #[.pointer (some ⟨b,0,none⟩),.string (aKey 29 x),uV (uAddS (cur s x) a)] W' fun e W2=>e = .returned (.tuple #[])∧On W b L (s.setAmt (aKey 29 x) (uAddS (cur s x) a)) W2):=fun W W' hO=>hO.call fun L' hS=>setAmt_any W' b s L' _ _ hS hz
 have HD1:Hid (∀ W W',On W b L (s.setAmt (aKey 29 x) (uAddS (cur s x) a)) W'→Calls Tryz.prog 85 #[.pointer (some ⟨b,0,none⟩),.string (aKey 30 x)] W' fun e W2=>(∃ r,e = .returned (.bool r))∧On W b L ((s.setAmt (aKey 29 x) (uAddS (cur s x) a)).del (aKey 30 x)) W2):=fun W W' hO=>(hO.call fun L' hS=>delete_any W' b _ L' _ hS hz1).mono fun e W2 ⟨he,ho⟩=>⟨⟨_,he⟩,ho⟩
 have HD2:Hid (∀ W W',On W b L ((s.setAmt (aKey 29 x) (uAddS (cur s x) a)).del (aKey 30 x)) W'→Calls Tryz.prog 85 #[.pointer (some ⟨b,0,none⟩),.string (aKey 31 x)] W' fun e W2=>(∃ r,e = .returned (.bool r))∧On W b L (matS s x (uAddS (cur s x) a)) W2):=fun W W' hO=>(hO.call fun L' hS=>delete_any W' b _ L' _ hS hz2).mono fun e W2 ⟨he,ho⟩=>⟨⟨_,he⟩,ho⟩
 have HI0:=Lib.hid hI0
 have HLT:=Lib.hid hlt
 obtain ⟨i0,i1,i2,i3⟩:=idc_row hI0.hA
 clear hI0 h hf hf1 hf2 hz hz1 hz2 hp hc0 ha hxo HK hlt hm
 generalize matS s x (uAddS (cur s x) a)=s4 at *
 generalize (s.setAmt (aKey 29 x) (uAddS (cur s x) a)).del (aKey 30 x)=s3 at *
 generalize s.setAmt (aKey 29 x) (uAddS (cur s x) a)=s2 at *
 generalize uAddS (cur s x) a=sm at *
 generalize cur s x=cu at *
 generalize aKey 29 x=k29 at *
 generalize aKey 30 x=k30 at *
 generalize aKey 31 x=k31 at *
 go_enter Tryz.func23,Tryz.ntmps23
 go_wp2_with fail
 refine Calls.mono (HP.out _ HI0.out) ?_
 rintro e w1 ⟨rfl,hb1⟩
 have HI1:=Lib.hid ((HI0.out.below hb1).alloc (.cells (uL a) 24))
 have HR6:=Lib.hid (heap_alloc_new w1 (.cells (uL a) 24))
 obtain ⟨j0,j1,j2,j3⟩:=idc_row HI1.out.hA
 clear hb1 HP
 have HC1:=Lib.hid (HC.out _ HI1.out)
 clear HC
 go_wp2_with fail
 refine Calls.mono HC1.out ?_
 rintro e w2 ⟨rfl,hb2⟩
 have HI2:=Lib.hid ((HI1.out.below hb2).alloc (.cells (uL cu) 24))
 have hr6:w2.heap[w1.heap.size]? = some (.cells (uL a) 24 (0,0)):=(hb2.block _ (by simp)).trans HR6.out
 have hlt6:=(Array.getElem?_eq_some_iff.1 hr6).1
 have hr6b:=(heap_alloc_old w2 (.cells (uL cu) 24) hlt6).trans hr6
 have hr8:=heap_alloc_new w2 (.cells (uL cu) 24)
 obtain ⟨p0,p1,p2,p3⟩:=cel4_row hr6b
 have HR8:=Lib.hid hr8
 clear hb2 HC1 hr6 hr6b hr8 HI1 HR6
 have HA2:=Lib.hid (HADD.out (w2.alloc (.cells (uL cu) 24)))
 clear HADD
 go_wp2_with fail
 refine Calls.mono HA2.out ?_
 rintro e w3 ⟨rfl,hb3⟩
 have hr8b:w3.heap[w2.heap.size]? = some (.cells (uL cu) 24 (0,0)):=(hb3.block _ (by simp)).trans HR8.out
 have hI3:=HI2.out.below hb3
 have hg8:w.heap.size < w2.heap.size:=by
  have h1:=(Array.getElem?_eq_some_iff.1 hI3.hA).1
  have h2:=HI0.out.hb.size
  have h3:=(Array.getElem?_eq_some_iff.1 HI0.out.hA).1
  have h4:=HI2.out.hA
  by_cases e:w.heap.size=w2.heap.size
  ·rw [e,heap_alloc_new] at h4
   simp at h4
  ·have:=(Array.getElem?_eq_some_iff.1 h4).1
   simp at this; omega
 obtain ⟨hI4,hr4⟩:=hI3.put HLT.out hg8 sm hr8b
 obtain ⟨t0,t1,t2,t3,t4,t5,t6,t7⟩:=row4 hr8b
 clear HA2 hb3 HI2 HR8 hr8b hI3
 go_wp2_with fail
 generalize (((w3.setCell ⟨w2.heap.size,0,none⟩ (.int .u64 sm.1)).setCell ⟨w2.heap.size,1,none⟩ (.int .u64 sm.2.1)).setCell ⟨w2.heap.size,2,none⟩ (.int .u64 sm.2.2.1)).setCell ⟨w2.heap.size,3,none⟩ (.int .u64 sm.2.2.2)=w4 at *
 have HRW:Hid (∀ s' W',On w4 b L s' W'→IdC w.heap.size x W'∧Cel4 w2.heap.size sm W'):=fun s' W' hO=>by
  have n1:w.heap.size∉L:=fun hm=>absurd (HLT.out _ hm) (by omega)
  have n2:w2.heap.size∉L:=fun hm=>absurd (HLT.out _ hm) (by omega)
  exact ⟨idc_row ((hO.heap (Array.getElem?_eq_some_iff.1 hI4.hA).1 n1).trans hI4.hA),cel4_row ((hO.heap (Array.getElem?_eq_some_iff.1 hr4).1 n2).trans hr4)⟩
 have HO0:=Lib.hid (On.start (w:=w4) hI4.hs)
 have HO0d:=Lib.hid HO0.out.drew
 have HBW:=Lib.hid hI4.hb
 obtain ⟨⟨l0,l1,l2,l3⟩,m0,m1,m2,m3⟩:=HRW.out _ _ HO0.out
 clear hI4 hr4 t0 t1 t2 t3 t4 t5 t6 t7 p0 p1 p2 p3 j0 j1 j2 j3 i0 i1 i2 i3 hg8
 go_region_held3 (fun w'=>w'.cell? ⟨w.heap.size,0,none⟩=some (.int .i64 x.1)∧w'.cell? ⟨w.heap.size,1,none⟩=some (.int .i64 x.2.1)∧w'.cell? ⟨w.heap.size,2,none⟩=some (.int .i64 x.2.2.1)∧w'.cell? ⟨w.heap.size,3,none⟩=some (.int .i64 x.2.2.2)∧w'.cell? ⟨w2.heap.size,0,none⟩=some (.int .u64 sm.1)∧w'.cell? ⟨w2.heap.size,1,none⟩=some (.int .u64 sm.2.1)∧w'.cell? ⟨w2.heap.size,2,none⟩=some (.int .u64 sm.2.2.1)∧w'.cell? ⟨w2.heap.size,3,none⟩=some (.int .u64 sm.2.2.2)) (first | assumption | go_keep)
  (first
   | (go_at_call 65; refine Calls.mono (HK29.out _ _ HO0d.out) ?_; rintro e w5 ⟨rfl,hO5⟩; have HO5:=Lib.hid hO5; obtain ⟨⟨e0,e1,e2,e3⟩,f0,f1,f2,f3⟩:=HRW.out _ _ hO5; clear hO5)
   | (go_at_call 81; refine Calls.mono (HS.out _ _ HO5.out) ?_; rintro e w6 ⟨rfl,hO6⟩; have HO6:=Lib.hid hO6; obtain ⟨⟨n0,n1,n2,n3⟩,o0,o1,o2,o3⟩:=HRW.out _ _ hO6; clear hO6))
 all_goals
  have HK6:=Lib.hid (HK30.out _ _ HO6.out)
  go_wp2_with fail
  refine Calls.mono HK6.out ?_
  rintro e w7 ⟨rfl,hO7⟩
  have HD7:=Lib.hid (HD1.out _ _ hO7)
  clear hO7 HK6
  go_wp2_with fail
  refine Calls.mono HD7.out ?_
  rintro e w8 ⟨⟨r8,rfl⟩,hO8⟩
  have HK8:=Lib.hid (HK31.out _ _ hO8)
  obtain ⟨⟨u0,u1,u2,u3⟩,_⟩:=HRW.out _ _ hO8
  clear hO8 HD7
  go_wp2_with fail
  refine Calls.mono HK8.out ?_
  rintro e w9 ⟨rfl,hO9⟩
  have HD9:=Lib.hid (HD2.out _ _ hO9)
  clear hO9 HK8
  go_wp2_with fail
  refine Calls.mono HD9.out ?_
  rintro e w10 ⟨⟨r10,rfl⟩,hO10⟩
  have HO10:=Lib.hid (hO10.from HBW.out)
  clear hO10 HD9
  go_wp2_with fail
  go_ret
  exact ⟨rfl,HO10.out⟩
def halfW:W4:=(500000000000000000,0,0,0)
def x7:I4:=(7,1,9,0)
def lva:St:=growS emptySt x7 (uAddS (enc emptySt x7) (uSubS halfW (cur emptySt x7))) (uSubS halfW (cur emptySt x7)) (3+5)
def lvb:St:=matS lva x7 (uAddS (cur lva x7) halfW)
theorem lva_sub:uSubS halfW (cur emptySt x7)=halfW:=by kernel_rfl
theorem lva_p:pend lva x7=(1,halfW,8):=by kernel_rfl
theorem lva_c:uAddC (cur lva x7) halfW=0:=by kernel_rfl
theorem lvb_c:cur lvb x7=halfW:=by kernel_rfl
theorem lvb_e:toAmt (lvb.val (keyL 32 [7,1]))=halfW:=by kernel_rfl
theorem lva_fit:lva.Fit 20:=by
 unfold lva growS waitS
 exact ((((St.Fit.empty.setAmt _ _).put _ (rowB_shortL _ (by decide))).setAmt _ _).put _ (rowB_shortL _ (by decide))).setInt _ _ |>.mono (by decide)
theorem lvb_fit:lvb.Fit 40:=by
 unfold lvb matS
 exact (((lva_fit.setAmt _ _).del _).del _).mono (by decide)
theorem x7_ok:x7.Ok:=by
 intro n hn
 simp [x7] at hn
 omega
theorem half_ok:W4.Ok halfW:=⟨by decide,by decide,by decide,by decide⟩
theorem eqId7 (w:World):(Op.equalIn 10000 34 (idV x7) (idV (0,0,0,0))).run Tryz.prog w = .ok false w:=by
 have u3:=Tryz.underlying3
 have a3:=Tryz.isAgg3
 have z3:=Tryz.sizeOf3
 have hS:Tryz.prog.underlying 34=some (.struct (Tryz.prog.fieldsOf 34)):=by kernel_rfl
 have hp:Tryz.prog.stoodInHeld 34=false:=by kernel_rfl
 rw [show (10000:Nat)=9999+1 from rfl,run_equalIn_agg w 9999 34 _ _ hS hp]
 simp only [Program.fieldsOf,Tryz.underlying34]
 unfold x7
 go_simp
theorem lv_modify (w:World) (b:Nat) (L:List Nat) (h:SRep w b emptySt L):Calls Tryz.prog 19 #[.pointer (some ⟨b,0,none⟩),idV x7,chV halfW oneW 3 5 0 false] w (RetSt w b L (.tuple #[.int .i64 8,.int .i64 0]) lva) :=
 modify_new w b emptySt L 0 3 5 0 x7 halfW oneW false (by intro n hn; simp [x7] at hn; omega) (by decide) (by decide) half_ok one_ok h St.Fit.empty (by decide) (by decide) (by decide) (by decide) eqId7 (of_decide_eq_true (by kernel_rfl)) (by kernel_rfl) (by kernel_rfl) (by rw [lva_sub]; decide) (by kernel_rfl) (of_decide_eq_true (by kernel_rfl)) (by kernel_rfl) (by kernel_rfl)
abbrev LvC (H:Nat) (w':World):Prop:=(w'.cell? ⟨H,0,none⟩=some (.int .u64 500000000000000000)∧w'.cell? ⟨H,1,none⟩=some (.int .u64 0)∧w'.cell? ⟨H,2,none⟩=some (.int .u64 0)∧w'.cell? ⟨H,3,none⟩=some (.int .u64 0))∧(w'.cell? ⟨H+1,0,none⟩=some (.int .i64 7)∧w'.cell? ⟨H+1,1,none⟩=some (.int .i64 1)∧w'.cell? ⟨H+1,2,none⟩=some (.int .i64 9)∧w'.cell? ⟨H+1,3,none⟩=some (.int .i64 0))
theorem lives29 (w:World):Calls Tryz.prog 14 #[] w fun e w'=>e = .returned (.bool true)∧Below w.heap.size w w':=by
 have HN:Hid (Calls Tryz.prog 15 #[] w fun e w1=>∃ b L,e = .returned (.pointer (some ⟨b,0,none⟩))∧SRep w1 b emptySt L∧Below w.heap.size w w1∧∀ k∈L,w.heap.size≤k):=(new_any w).mono fun e w1 ⟨b,L,he,hS,hF,hL⟩=>⟨b,L,he,hS,⟨hF.os,hF.tape,hF.output,hF.size,fun k hk=>hF.block k hk (fun h=>h)⟩,hL⟩
 have HONE:=Lib.hid (fun W=>one_any W)
 have hbuild:∀ w,(Instr.build 36 #[(0,.agg #[.int .u64 500000000000000000,.int .u64 0,.int .u64 0,.int .u64 0]),(1,.agg #[.int .u64 1000000000000000000,.int .u64 0,.int .u64 0,.int .u64 0]),(2,.int .i64 3),(3,.int .i64 5)]).run Tryz.prog w = .ok (.agg #[.int .u64 500000000000000000,.int .u64 0,.int .u64 0,.int .u64 0,.int .u64 1000000000000000000,.int .u64 0,.int .u64 0,.int .u64 0,.int .i64 3,.int .i64 5,.int .i64 0,.bool false]) w:=fun w=>by kernel_rfl
 have hE:∀ w,(Op.equalIn 10000 24 (.agg #[.int .u64 500000000000000000,.int .u64 0,.int .u64 0,.int .u64 0]) (.agg #[.int .u64 500000000000000000,.int .u64 0,.int .u64 0,.int .u64 0])).run Tryz.prog w = .ok true w:=fun w=>eqU halfW halfW w
 go_enter Tryz.func14,Tryz.ntmps14
 go_wp2_with fail
 refine Calls.mono HN.out ?_
 rintro e w1 ⟨b,L,rfl,hS,hB1,hL⟩
 have hW0:=bl_alloc (bl_alloc (Below.refl _ w1) (.cells #[.int .u64 500000000000000000,.int .u64 0,.int .u64 0,.int .u64 0] 24)) (.cells #[.int .i64 7,.int .i64 1,.int .i64 9,.int .i64 0] 34)
 have hS0:=hS.below hW0
 have hlt:=hS.lt
 have hrH:((w1.alloc (.cells #[.int .u64 500000000000000000,.int .u64 0,.int .u64 0,.int .u64 0] 24)).alloc (.cells #[.int .i64 7,.int .i64 1,.int .i64 9,.int .i64 0] 34)).heap[w1.heap.size]? = some (.cells #[.int .u64 500000000000000000,.int .u64 0,.int .u64 0,.int .u64 0] 24 (0,0)):=by
  rw [heap_alloc_old _ _ (by simp)]; exact heap_alloc_new w1 _
 have hrX:((w1.alloc (.cells #[.int .u64 500000000000000000,.int .u64 0,.int .u64 0,.int .u64 0] 24)).alloc (.cells #[.int .i64 7,.int .i64 1,.int .i64 9,.int .i64 0] 34)).heap[w1.heap.size+1]? = some (.cells #[.int .i64 7,.int .i64 1,.int .i64 9,.int .i64 0] 34 (0,0)):=by
  have:=heap_alloc_new (w1.alloc (.cells #[.int .u64 500000000000000000,.int .u64 0,.int .u64 0,.int .u64 0] 24)) (.cells #[.int .i64 7,.int .i64 1,.int .i64 9,.int .i64 0] 34)
  rw [World.size_alloc] at this; exact this
 have hsz:((w1.alloc (.cells #[.int .u64 500000000000000000,.int .u64 0,.int .u64 0,.int .u64 0] 24)).alloc (.cells #[.int .i64 7,.int .i64 1,.int .i64 9,.int .i64 0] 34)).heap.size=w1.heap.size+2:=by simp
 have HOK:Hid (∀ W,On ((w1.alloc (.cells #[.int .u64 500000000000000000,.int .u64 0,.int .u64 0,.int .u64 0] 24)).alloc (.cells #[.int .i64 7,.int .i64 1,.int .i64 9,.int .i64 0] 34)) b L lvb W→Below w.heap.size w W):=fun W hO=>by
  obtain ⟨L',hS',st⟩:=hO
  have hb:=bl_then hB1 hW0
  refine ⟨st.fr.os.trans hb.os,st.fr.tape.trans hb.tape,st.fr.output.trans hb.output,Nat.le_trans hb.size st.fr.size,fun k hk => ?_⟩
  rw [st.fr.block k (Nat.lt_of_lt_of_le hk hb.size) (fun hm=>absurd (hL k hm) (by omega))]
  exact hb.block k hk
 generalize hw2:((w1.alloc (.cells #[.int .u64 500000000000000000,.int .u64 0,.int .u64 0,.int .u64 0] 24)).alloc (.cells #[.int .i64 7,.int .i64 1,.int .i64 9,.int .i64 0] 34))=w2 at *
 have HF:Hid (∀ s' W,On w2 b L s' W→LvC w1.heap.size W):=fun s' W hO=>by
  have n1:w1.heap.size∉L:=fun hm=>absurd (hlt _ hm) (by omega)
  have n2:w1.heap.size+1∉L:=fun hm=>absurd (hlt _ hm) (by omega)
  have q1:=(hO.heap (by omega) n1).trans hrH
  have q2:=(hO.heap (by omega) n2).trans hrX
  exact ⟨⟨by rw [cell_of_row _ _ _ _ _ _ q1]; rfl,by rw [cell_of_row _ _ _ _ _ _ q1]; rfl,by rw [cell_of_row _ _ _ _ _ _ q1]; rfl,by rw [cell_of_row _ _ _ _ _ _ q1]; rfl⟩,by rw [cell_of_row _ _ _ _ _ _ q2]; rfl,by rw [cell_of_row _ _ _ _ _ _ q2]; rfl,by rw [cell_of_row _ _ _ _ _ _ q2]; rfl,by rw [cell_of_row _ _ _ _ _ _ q2]; rfl⟩
 have HO0:=Lib.hid (On.start (w:=w2) hS0)
 have HO0d:=Lib.hid HO0.out.drew
 have HMOD:Hid (∀ W,On w2 b L emptySt W→Calls Tryz.prog 19 #[.pointer (some ⟨b,0,none⟩),.agg #[.int .i64 7,.int .i64 1,.int .i64 9,.int .i64 0],.agg #[.int .u64 500000000000000000,.int .u64 0,.int .u64 0,.int .u64 0,.int .u64 1000000000000000000,.int .u64 0,.int .u64 0,.int .u64 0,.int .i64 3,.int .i64 5,.int .i64 0,.bool false]] W fun e W'=>e = .returned (.tuple #[.int .i64 8,.int .i64 0])∧On w2 b L lva W'):=fun W hO=>hO.call fun L' hS'=>lv_modify W b L' hS'
 have HPEN:Hid (∀ W,On w2 b L lva W→Calls Tryz.prog 20 #[.pointer (some ⟨b,0,none⟩),.agg #[.int .i64 7,.int .i64 1,.int .i64 9,.int .i64 0]] W fun e W'=>e = .returned (.tuple #[.int .i64 1,.agg #[.int .u64 500000000000000000,.int .u64 0,.int .u64 0,.int .u64 0],.int .i64 8])∧On w2 b L lva W'):=fun W hO=>(pending_any W _ lva x7 x7_ok (hO.read lva_fit (by decide))).mono fun e W' ⟨he,hb⟩=>⟨by rw [he,lva_p]; rfl,hO.below hb⟩
 have HMAT:Hid (∀ W,On w2 b L lva W→Calls Tryz.prog 23 #[.pointer (some ⟨b,0,none⟩),.agg #[.int .i64 7,.int .i64 1,.int .i64 9,.int .i64 0]] (W.alloc (.cells #[.int .u64 500000000000000000,.int .u64 0,.int .u64 0,.int .u64 0] 24)) fun e W'=>e = .returned (.bool true)∧On w2 b L lvb W'∧W'.heap[W.heap.size]? = some (.cells #[.int .u64 500000000000000000,.int .u64 0,.int .u64 0,.int .u64 0] 24 (0,0))):=fun W hO=>by
  obtain ⟨L1,hS1,st1⟩:=hO
  have hS2:=hS1.alloc (.cells #[.int .u64 500000000000000000,.int .u64 0,.int .u64 0,.int .u64 0] 24)
  have st:=st1.trans (⟨Fr.of_below (bl_alloc (Below.refl _ W) (.cells #[.int .u64 500000000000000000,.int .u64 0,.int .u64 0,.int .u64 0] 24)) _,fun _ h => .inl h⟩:Step W L1 _ L1)
  exact (mature_more _ b lva L1 20 x7 halfW 8 x7_ok hS2 lva_fit (by decide) half_ok lva_p lva_c).mono fun e W' ⟨he,L2,hS3,st2⟩=>⟨he,⟨L2,hS3,st.trans st2⟩,(st2.fr.block _ (by simp) (fun hm=>absurd (hS1.lt _ hm) (by omega))).trans (heap_alloc_new W _)⟩
 have HCUR:Hid (∀ W,On w2 b L lvb W→Calls Tryz.prog 18 #[.pointer (some ⟨b,0,none⟩),.agg #[.int .i64 7,.int .i64 1,.int .i64 9,.int .i64 0]] W fun e W'=>e = .returned (.agg #[.int .u64 500000000000000000,.int .u64 0,.int .u64 0,.int .u64 0])∧Below W.heap.size W W'):=fun W hO=>(current_any W _ lvb x7 x7_ok (hO.read lvb_fit (by decide))).mono fun e W' ⟨he,hb⟩=>⟨by rw [he,lvb_c]; rfl,hb⟩
 have HENC:Hid (∀ W,On w2 b L lvb W→Calls Tryz.prog 27 #[.pointer (some ⟨b,0,none⟩),.int .i64 7,.int .i64 1] W fun e W'=>e = .returned (.agg #[.int .u64 500000000000000000,.int .u64 0,.int .u64 0,.int .u64 0])∧Below W.heap.size W W'):=fun W hO=>(encumbered_any W _ lvb 7 1 (by decide) (by decide) (hO.read lvb_fit (by decide))).mono fun e W' ⟨he,hb⟩=>⟨by rw [he,lvb_e]; rfl,hb⟩
 obtain ⟨⟨h0,h1,h2,h3⟩,x0,x1,x2,x3⟩:=HF.out _ _ HO0.out
 clear hS hW0 hS0 hrH hrX hL hB1 HN
 have HW2:=Lib.hid hw2
 clear hw2
 go_wp2_with fail
 rw [HW2.out]
 go_region_held3 (fun w'=>w'.cell? ⟨w1.heap.size,0,none⟩=some (.int .u64 500000000000000000)∧w'.cell? ⟨w1.heap.size,1,none⟩=some (.int .u64 0)∧w'.cell? ⟨w1.heap.size,2,none⟩=some (.int .u64 0)∧w'.cell? ⟨w1.heap.size,3,none⟩=some (.int .u64 0)∧w'.cell? ⟨w1.heap.size+1,0,none⟩=some (.int .i64 7)∧w'.cell? ⟨w1.heap.size+1,1,none⟩=some (.int .i64 1)∧w'.cell? ⟨w1.heap.size+1,2,none⟩=some (.int .i64 9)∧w'.cell? ⟨w1.heap.size+1,3,none⟩=some (.int .i64 0)) (first | assumption | go_keep)
  (first
   | (go_at_call 24; refine Calls.mono (HONE.out _) ?_; rintro e w3 ⟨rfl,hb3⟩; have HO3:=Lib.hid (HO0d.out.below hb3); obtain ⟨⟨j0,j1,j2,j3⟩,k0,k1,k2,k3⟩:=HF.out _ _ HO3.out)
   | (go_at_call 19; refine Calls.mono (HMOD.out _ HO3.out) ?_; rintro e w4 ⟨rfl,hO4⟩; have HO4:=Lib.hid hO4; obtain ⟨⟨l0,l1,l2,l3⟩,m0,m1,m2,m3⟩:=HF.out _ _ hO4; clear hO4))
 all_goals
  have HP4:=Lib.hid (HPEN.out _ HO4.out)
  go_wp2_with fail
  refine Calls.mono HP4.out ?_
  rintro e w5 ⟨rfl,hO5⟩
  have HM5:=Lib.hid (HMAT.out _ hO5)
  have HO5:=Lib.hid (hO5.alloc (.cells #[.int .u64 500000000000000000,.int .u64 0,.int .u64 0,.int .u64 0] 24))
  obtain ⟨_,n0,n1,n2,n3⟩:=HF.out _ _ HO5.out
  clear hO5 HP4
  go_wp2_with fail
  refine Calls.mono HM5.out ?_
  rintro e w6 ⟨rfl,hO6,hP6⟩
  have HO6:=Lib.hid hO6.drew
  have HP6:Hid (w6.drew.heap[w5.heap.size]? = some (.cells #[.int .u64 500000000000000000,.int .u64 0,.int .u64 0,.int .u64 0] 24 (0,0))):=hP6
  have HPC:Hid (∀ W:World,W.heap[w5.heap.size]? = some (.cells #[.int .u64 500000000000000000,.int .u64 0,.int .u64 0,.int .u64 0] 24 (0,0))→W.cell? ⟨w5.heap.size,0,none⟩=some (.int .u64 500000000000000000)∧W.cell? ⟨w5.heap.size,1,none⟩=some (.int .u64 0)∧W.cell? ⟨w5.heap.size,2,none⟩=some (.int .u64 0)∧W.cell? ⟨w5.heap.size,3,none⟩=some (.int .u64 0)):=fun W h=>⟨by rw [cell_of_row _ _ _ _ _ _ h]; rfl,by rw [cell_of_row _ _ _ _ _ _ h]; rfl,by rw [cell_of_row _ _ _ _ _ _ h]; rfl,by rw [cell_of_row _ _ _ _ _ _ h]; rfl⟩
  have HPB:Hid (∀ W W':World,W.heap[w5.heap.size]? = some (.cells #[.int .u64 500000000000000000,.int .u64 0,.int .u64 0,.int .u64 0] 24 (0,0))→Below W.heap.size W W'→W'.heap[w5.heap.size]? = some (.cells #[.int .u64 500000000000000000,.int .u64 0,.int .u64 0,.int .u64 0] 24 (0,0))):=fun W W' h hb=>(hb.block _ (Array.getElem?_eq_some_iff.1 h).1).trans h
  obtain ⟨⟨p0,p1,p2,p3⟩,q0,q1,q2,q3⟩:=HF.out _ _ hO6
  obtain ⟨r0,r1,r2,r3⟩:=HPC.out _ hP6
  clear hO6 hP6 HM5 HMOD HPEN HMAT HO0 HO0d HO4 HO5 HONE
  go_wp2_with fail
  go_region_held3 (fun w'=>w'.cell? ⟨w1.heap.size,0,none⟩=some (.int .u64 500000000000000000)∧w'.cell? ⟨w1.heap.size,1,none⟩=some (.int .u64 0)∧w'.cell? ⟨w1.heap.size,2,none⟩=some (.int .u64 0)∧w'.cell? ⟨w1.heap.size,3,none⟩=some (.int .u64 0)∧w'.cell? ⟨w1.heap.size+1,0,none⟩=some (.int .i64 7)∧w'.cell? ⟨w1.heap.size+1,1,none⟩=some (.int .i64 1)∧w'.cell? ⟨w1.heap.size+1,2,none⟩=some (.int .i64 9)∧w'.cell? ⟨w1.heap.size+1,3,none⟩=some (.int .i64 0)∧w'.cell? ⟨w5.heap.size,0,none⟩=some (.int .u64 500000000000000000)∧w'.cell? ⟨w5.heap.size,1,none⟩=some (.int .u64 0)∧w'.cell? ⟨w5.heap.size,2,none⟩=some (.int .u64 0)∧w'.cell? ⟨w5.heap.size,3,none⟩=some (.int .u64 0)) (first | assumption | go_keep)
   (first
    | (go_at_call 18; refine Calls.mono (HCUR.out _ HO6.out) ?_; rintro e w7 ⟨rfl,hb7⟩; have HO7:=Lib.hid (HO6.out.below hb7); have HP7:=Lib.hid (HPB.out _ _ HP6.out hb7); obtain ⟨⟨s0,s1,s2,s3⟩,t0,t1,t2,t3⟩:=HF.out _ _ HO7.out; obtain ⟨u0,u1,u2,u3⟩:=HPC.out _ HP7.out)
    | (go_at_call 27; refine Calls.mono (HENC.out _ HO7.out) ?_; rintro e w8 ⟨rfl,hb8⟩; have HO8:=Lib.hid (HO7.out.below hb8); have HP8:=Lib.hid (HPB.out _ _ HP7.out hb8); obtain ⟨⟨v0,v1,v2,v3⟩,y0,y1,y2,y3⟩:=HF.out _ _ HO8.out; obtain ⟨z0,z1,z2,z3⟩:=HPC.out _ HP8.out))
  all_goals
   go_wp2_with fail
   go_ret
   exact ⟨rfl,HOK.out _ HO8.out⟩
end Go.Proofs.YtnkilceibkkjlaaGreat
