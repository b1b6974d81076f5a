/- What is proved here: alloc's grow, of more that waits. Its conditions: sizes. -/
import Derived.Test.YtnkilceibkkjlaaGreatILeast
import Derived.Test.YtnkilceibkkjlaaGreatIAllocW
import Derived.Deep.Cut
set_option maxRecDepth 100000
set_option maxHeartbeats 16000000
namespace Go.Proofs.YtnkilceibkkjlaaGreat
open Go.RowKit
abbrev Cel4' (g:Nat) (x:W4) (w':World):Prop:=w'.cell? ⟨g,4,none⟩=some (.int .u64 x.1)∧w'.cell? ⟨g,5,none⟩=some (.int .u64 x.2.1)∧w'.cell? ⟨g,6,none⟩=some (.int .u64 x.2.2.1)∧w'.cell? ⟨g,7,none⟩=some (.int .u64 x.2.2.2)
structure GAt (w:World) (b:Nat) (L:List Nat) (s:St) (x:I4) (tt mx:W4) (bk dl tl:Int) (sl:Bool) (by':W4) (W:World):Prop where
 hb:Below w.heap.size w W
 hs:SRep W b s L
 hA:W.heap[w.heap.size]? = some (.cells (idL x) 34 (0,0))
 hB:W.heap[w.heap.size+1]? = some (.cells (chL tt mx bk dl tl sl) 36 (0,0))
 hC:W.heap[w.heap.size+1+1]? = some (.cells (uL by') 24 (0,0))
theorem GAt.below {w:World} {b:Nat} {L:List Nat} {s:St} {x:I4} {tt mx:W4} {bk dl tl:Int} {sl:Bool} {by':W4} {W W':World} (h:GAt w b L s x tt mx bk dl tl sl by' W) (hb:Below W.heap.size W W'):GAt w b L s x tt mx bk dl tl sl by' W' :=
 ⟨bl_then h.hb hb,h.hs.below hb,(hb.block _ (Array.getElem?_eq_some_iff.1 h.hA).1).trans h.hA,(hb.block _ (Array.getElem?_eq_some_iff.1 h.hB).1).trans h.hB,(hb.block _ (Array.getElem?_eq_some_iff.1 h.hC).1).trans h.hC⟩
theorem GAt.drew {w:World} {b:Nat} {L:List Nat} {s:St} {x:I4} {tt mx:W4} {bk dl tl:Int} {sl:Bool} {by':W4} {W:World} (h:GAt w b L s x tt mx bk dl tl sl by' W):GAt w b L s x tt mx bk dl tl sl by' W.drew:=h.below (bl_drew (Below.refl _ W))
theorem GAt.alloc {w:World} {b:Nat} {L:List Nat} {s:St} {x:I4} {tt mx:W4} {bk dl tl:Int} {sl:Bool} {by':W4} {W:World} (h:GAt w b L s x tt mx bk dl tl sl by' W) (o:Obj):GAt w b L s x tt mx bk dl tl sl by' (W.alloc o):=h.below (bl_alloc (Below.refl _ W) o)
theorem GAt.start {w:World} {b:Nat} {L:List Nat} {s:St} (h:SRep w b s L) (x:I4) (tt mx:W4) (bk dl tl:Int) (sl:Bool) (by':W4):GAt w b L s x tt mx bk dl tl sl by' (((w.alloc (.cells (idL x) 34)).alloc (.cells (chL tt mx bk dl tl sl) 36)).alloc (.cells (uL by') 24)):=by
 have hb:=bl_alloc (bl_alloc (bl_alloc (Below.refl _ w) (.cells (idL x) 34)) (.cells (chL tt mx bk dl tl sl) 36)) (.cells (uL by') 24)
 refine ⟨hb,h.below hb,?_,?_,?_⟩
 ·rw [heap_alloc_old _ _ (by first | (simp; done) | (simp; omega)),heap_alloc_old _ _ (by simp)]; exact heap_alloc_new w (.cells (idL x) 34)
 ·rw [heap_alloc_old _ _ (by simp)]
  have:=heap_alloc_new (w.alloc (.cells (idL x) 34)) (.cells (chL tt mx bk dl tl sl) 36)
  rw [World.size_alloc] at this; exact this
 ·have:=heap_alloc_new ((w.alloc (.cells (idL x) 34)).alloc (.cells (chL tt mx bk dl tl sl) 36)) (.cells (uL by') 24)
  rw [World.size_alloc,World.size_alloc] at this; exact this
theorem GAt.out {w:World} {b:Nat} {L:List Nat} {s:St} {x:I4} {tt mx:W4} {bk dl tl:Int} {sl:Bool} {by':W4} {W:World} (h:GAt w b L s x tt mx bk dl tl sl by' W):IdC w.heap.size x W∧Cel4 (w.heap.size+1+1) by' W:=⟨idc_row h.hA,cel4_row h.hC⟩
theorem GAt.put {w:World} {b:Nat} {L:List Nat} {s:St} {x:I4} {tt mx:W4} {bk dl tl:Int} {sl:Bool} {by':W4} {W:World} (h:GAt w b L s x tt mx bk dl tl sl by' W) (hlt:∀ k∈L,k < w.heap.size) {D:Nat} (hD:w.heap.size+2 < D) (hr:W.heap[D]? = some (.cells (uL (0,0,0,0)) 24 (0,0))) (y:W4) :
  GAt w b L s x tt mx bk dl tl sl by' ((((W.setCell ⟨D,0,none⟩ (.int .u64 y.1)).setCell ⟨D,1,none⟩ (.int .u64 y.2.1)).setCell ⟨D,2,none⟩ (.int .u64 y.2.2.1)).setCell ⟨D,3,none⟩ (.int .u64 y.2.2.2)) ∧
  ((((W.setCell ⟨D,0,none⟩ (.int .u64 y.1)).setCell ⟨D,1,none⟩ (.int .u64 y.2.1)).setCell ⟨D,2,none⟩ (.int .u64 y.2.2.1)).setCell ⟨D,3,none⟩ (.int .u64 y.2.2.2)).heap[D]? = some (.cells (uL y) 24 (0,0)):=by
 have hoth:∀ k,k≠D→((((W.setCell ⟨D,0,none⟩ (.int .u64 y.1)).setCell ⟨D,1,none⟩ (.int .u64 y.2.1)).setCell ⟨D,2,none⟩ (.int .u64 y.2.2.1)).setCell ⟨D,3,none⟩ (.int .u64 y.2.2.2)).heap[k]? = W.heap[k]?:=fun k hk=>by
  rw [Below.heap_setCell _ _ _ _ hk,Below.heap_setCell _ _ _ _ hk,Below.heap_setCell _ _ _ _ hk,Below.heap_setCell _ _ _ _ hk]
 refine ⟨⟨put4_below h.hb (by omega) _ _ _ _,h.hs.frame fun k hk=>hoth k (by have:=hlt k hk; omega),(hoth _ (by omega)).trans h.hA,(hoth _ (by omega)).trans h.hB,(hoth _ (by omega)).trans h.hC⟩,put4 hr y⟩
def growS (s:St) (x:I4) (sm by':W4) (bl:Nat):St:=waitS (s.setAmt (aAll x) sm) x 1 by' bl
theorem grow_new (w:World) (b:Nat) (s:St) (L:List Nat) (f:Nat) (bk dl:Nat) (tl:Int) (x:I4) (tt mx by':W4) (sl:Bool) (hx:∀ n∈x.l,0≤n∧n < 9223372036854775808) (hmx:mx.Ok) (hby:by'.Ok) (h:SRep w b s L) (hf:s.Fit f) (hm:f < 100000000) (hd:dl≠0) (hbl:bk+dl≤1099511627776)
  (hc0:uAddC (enc s x) by'=0) (hcmp:uCmp (uAddS (enc s x) by') mx≤0)
  (hU:underE (keyL 26 [((bk+dl:Nat):Int)]) (((s.setAmt (aAll x) (uAddS (enc s x) by')).put (aKey 30 x) (rowB [((1:Nat):Int),((bk+dl:Nat):Int)])).setAmt (aKey 31 x) by').ents = [])
  (h27:(((((s.setAmt (aAll x) (uAddS (enc s x) by')).put (aKey 30 x) (rowB [((1:Nat):Int),((bk+dl:Nat):Int)])).setAmt (aKey 31 x) by')).put (keyL 26 [((bk+dl:Nat):Int),0]) (rowB x.l)).int K27=0) :
  Calls Tryz.prog 70 #[idV x,.pointer (some ⟨b,0,none⟩),chV tt mx bk dl tl sl,uV by'] w (RetSt w b L (.tuple #[.int .i64 ((bk+dl:Nat):Int),.int .i64 0]) (growS s x (uAddS (enc s x) by') by' (bk+dl))):=by
 have hxo:x.Ok:=fun n hn=>(hx n hn).2
 have hz:s.size < 1000000000000:=Nat.lt_of_le_of_lt hf.size (by omega)
 have hfs:=hf.setAmt (aAll x) (uAddS (enc s x) by')
 have hG0:=GAt.start h x tt mx bk dl tl sl by'
 have hen:(enc s x).Ok:=toAmt_ok _
 have hlt:=h.lt
 have HALL:Hid (∀ W,GAt w b L s x tt mx bk dl tl sl by' W→Calls Tryz.prog 82 #[idV x] W fun e W'=>e = .returned (.string (aAll x))∧Below W.heap.size W W'):=fun W _=>aall_any x hxo W
 have HAM:Hid (∀ W,GAt w b L s x tt mx bk dl tl sl by' W→Calls Tryz.prog 64 #[.pointer (some ⟨b,0,none⟩),.string (aAll x)] W fun e W'=>e = .returned (uV (enc s x))∧Below W.heap.size W W'):=fun W hG=>(ReadAt.made hG.hs hf (by omega)).amount _
 have HADD:Hid (∀ W,Calls Tryz.prog 79 #[uV (enc s x),uV by'] W fun e W'=>e = .returned (.tuple #[uV (uAddS (enc s x) by'),.bool true])∧Below W.heap.size W W'):=fun W=>by
  have:=uadd_any (enc s x) by' hen hby W
  rw [if_pos hc0,hc0] at this
  exact this
 have HCMP:Hid (∀ W,Calls Tryz.prog 58 #[uV (uAddS (enc s x) by'),uV mx] W fun e W'=>e = .returned (.int .i64 (uCmp (uAddS (enc s x) by') mx))∧Below W.heap.size W W'):=fun W=>ucmp_any _ mx (uAdd_ok _ _) hmx W
 have HFIN:Hid (∀ W,GAt w b L s x tt mx bk dl tl sl by' W→(∀ W',On W b L s W'→Calls Tryz.prog 82 #[idV x] W' fun e W2=>e = .returned (.string (aAll x))∧On W b L s W2) ∧
   (∀ W',On W b L s W'→Calls Tryz.prog 81 #[.pointer (some ⟨b,0,none⟩),.string (aAll x),uV (uAddS (enc s x) by')] W' fun e W2=>e = .returned (.tuple #[])∧On W b L (s.setAmt (aAll x) (uAddS (enc s x) by')) W2) ∧
   (∀ W',On W b L (s.setAmt (aAll x) (uAddS (enc s x) by')) W'→Calls Tryz.prog 143 #[idV x,.pointer (some ⟨b,0,none⟩),.int .i64 1,uV by',.int .i64 ((bk+dl:Nat):Int)] W' fun e W2=>e = .returned (.int .i64 0) ∧
    RetSt w b L (.tuple #[.int .i64 ((bk+dl:Nat):Int),.int .i64 0]) (growS s x (uAddS (enc s x) by') by' (bk+dl)) (.returned (.tuple #[.int .i64 ((bk+dl:Nat):Int),.int .i64 0])) W2)):=fun W hG=>by
  refine ⟨fun W' hO=>(aall_any x hxo W').mono fun e W2 ⟨he,hb⟩=>⟨he,hO.below hb⟩,fun W' hO=>hO.call fun L' hS=>setAmt_any W' b s L' _ _ hS hz,fun W' hO => ?_⟩
  exact (hO.call fun L' hS=>wait_new W' b _ L' (f+2) 1 (bk+dl) x by' hx hS hfs (by omega) (by decide) hbl hU h27).mono fun e W2 ⟨he,hO2⟩=>⟨he,hO2.back hG.hb _⟩
 have HF:Hid (∀ W g r t s' W',GAt w b L s x tt mx bk dl tl sl by' W→On W b L s' W'→w.heap.size≤g→W.heap[g]? = some (.cells r t (0,0))→W'.heap[g]? = some (.cells r t (0,0))):=fun W g r t s' W' hG hO hg hr=>by
  refine (hO.heap (Array.getElem?_eq_some_iff.1 hr).1 fun hm => ?_).trans hr
  have:=hlt _ hm
  omega
 have hdn:(((dl:Nat):Int) == 0)=false:=beq_eq_false_iff_ne.2 (by omega)
 have hsum:wrap64 ((bk:Int)+(dl:Int))=((bk+dl:Nat):Int):=by unfold wrap64; omega
 have hgt:decide ((0:Int) < uCmp (uAddS (enc s x) by') mx)=false:=decide_eq_false (by omega)
 have HG0:=Lib.hid hG0
 obtain ⟨⟨i0,i1,i2,i3⟩,a0,a1,a2,a3⟩:=hG0.out
 have HLT:=Lib.hid hlt
 have HW1:=Lib.hid hG0.hC
 clear hG0 h hf hfs hU h27 hc0 hcmp hen hx hxo hmx hby hlt hz hm hd hbl
 generalize RetSt w b L (.tuple #[.int .i64 ((bk+dl:Nat):Int),.int .i64 0]) (growS s x (uAddS (enc s x) by') by' (bk+dl))=R at *
 generalize hbd:((bk+dl:Nat):Int)=bd at *
 generalize s.setAmt (aAll x) (uAddS (enc s x) by')=s1 at *
 generalize uCmp (uAddS (enc s x) by') mx=rc at *
 generalize uAddS (enc s x) by'=sm at *
 generalize enc s x=en at *
 generalize aAll x=ka at *
 go_enter Tryz.func70,Tryz.ntmps70
 go_wp2_with fail
 generalize ((w.alloc (.cells (idL x) 34)).alloc (.cells (chL tt mx bk dl tl sl) 36)).alloc (.cells (uL by') 24)=w1 at *
 have n1a:=World.new_ne w1 _ i0
 have n1b:=Ne.symm n1a
 have n1c:=World.new_ne w1 _ a0
 have n1d:=Ne.symm n1c
 go_cut [10,11] from 12 (fun v10 v11 wc=>∃ D,v10 = .pointer (some ⟨D,0,none⟩)∧v11 = .bool true∧GAt w b L s x tt mx bk dl tl sl by' wc∧w.heap.size≤D∧wc.heap[D]? = some (.cells (uL sm) 24 (0,0)))
 case first =>
  go_region_held3 (fun w'=>w'.cell? ⟨w.heap.size,0,none⟩=some (.int .i64 x.1)∧w'.cell? ⟨w.heap.size,1,none⟩=some (.int .i64 x.2.1)∧w'.cell? ⟨w.heap.size,2,none⟩=some (.int .i64 x.2.2.1)∧w'.cell? ⟨w.heap.size,3,none⟩=some (.int .i64 x.2.2.2)∧w'.cell? ⟨w.heap.size+1+1,0,none⟩=some (.int .u64 by'.1)∧w'.cell? ⟨w.heap.size+1+1,1,none⟩=some (.int .u64 by'.2.1)∧w'.cell? ⟨w.heap.size+1+1,2,none⟩=some (.int .u64 by'.2.2.1)∧w'.cell? ⟨w.heap.size+1+1,3,none⟩=some (.int .u64 by'.2.2.2)) (first | assumption | go_keep)
   (first
    | (go_at_call 82; refine Calls.mono (HALL.out _ (by repeat (first | exact HG0.out | apply GAt.drew | apply GAt.alloc))) ?_; rintro e w2 ⟨rfl,hb2⟩; have HG2:Hid (GAt w b L s x tt mx bk dl tl sl by' w2):=GAt.below (by repeat (first | exact HG0.out | apply GAt.drew | apply GAt.alloc)) hb2; obtain ⟨⟨d0,d1,d2,d3⟩,d4,d5,d6,d7⟩:=HG2.out.out; have n2a:=World.new_ne w2 _ d0; have n2b:=Ne.symm n2a; have n2c:=World.new_ne w2 _ d4; have n2d:=Ne.symm n2c; (try (have D0:=Lib.hid ((hb2.block w1.heap.size (by show w1.heap.size < (w1.heap.push _).size; simp)).trans (heap_alloc_new w1 _)); obtain ⟨za0,za1,za2,za3,za4,za5,za6,za7⟩:=row4 (x:=(0,0,0,0)) D0.out)))
    | (go_at_call 64; refine Calls.mono (HAM.out _ (by repeat (first | exact HG2.out | apply GAt.drew | apply GAt.alloc))) ?_; rintro e w3 ⟨rfl,hb3⟩; have HG3:Hid (GAt w b L s x tt mx bk dl tl sl by' w3):=GAt.below (by repeat (first | exact HG2.out | apply GAt.drew | apply GAt.alloc)) hb3; obtain ⟨⟨e0,e1,e2,e3⟩,e4,e5,e6,e7⟩:=HG3.out.out; have n3a:=World.new_ne w3 _ e0; have n3b:=Ne.symm n3a; have n3c:=World.new_ne w3 _ e4; have n3d:=Ne.symm n3c; (try (have D0b:=Lib.hid ((hb3.block w1.heap.size ((Array.getElem?_eq_some_iff.1 D0.out).1)).trans D0.out); obtain ⟨zb0,zb1,zb2,zb3,zb4,zb5,zb6,zb7⟩:=row4 (x:=(0,0,0,0)) D0b.out)); (try (have D1:=Lib.hid ((hb3.block w2.heap.size (by simp)).trans (heap_alloc_new w2 _)); obtain ⟨zc0,zc1,zc2,zc3,zc4,zc5,zc6,zc7⟩:=row4 (x:=(0,0,0,0)) D1.out)))
    | (go_at_call 79; refine Calls.mono (HADD.out _) ?_; rintro e w4 ⟨rfl,hb4⟩; have HG4:Hid (GAt w b L s x tt mx bk dl tl sl by' w4):=GAt.below (by repeat (first | exact HG3.out | apply GAt.drew | apply GAt.alloc)) hb4; obtain ⟨⟨f0,f1,f2,f3⟩,f4,f5,f6,f7⟩:=HG4.out.out; have n4a:=World.new_ne w4 _ f0; have n4b:=Ne.symm n4a; have n4c:=World.new_ne w4 _ f4; have n4d:=Ne.symm n4c; (try (have D0c:=Lib.hid ((hb4.block w1.heap.size ((Array.getElem?_eq_some_iff.1 D0b.out).1)).trans D0b.out); obtain ⟨zd0,zd1,zd2,zd3,zd4,zd5,zd6,zd7⟩:=row4 (x:=(0,0,0,0)) D0c.out)); (try (have D1b:=Lib.hid ((hb4.block w2.heap.size ((Array.getElem?_eq_some_iff.1 D1.out).1)).trans D1.out); obtain ⟨ze0,ze1,ze2,ze3,ze4,ze5,ze6,ze7⟩:=row4 (x:=(0,0,0,0)) D1b.out)); (try (have D2:=Lib.hid ((hb4.block w3.heap.size (by simp)).trans (heap_alloc_new w3 _)); obtain ⟨zf0,zf1,zf2,zf3,zf4,zf5,zf6,zf7⟩:=row4 (x:=(0,0,0,0)) D2.out))))
  all_goals
   go_wp2_with fail
   go_meet
   case rel =>
    have hs1:=(Array.getElem?_eq_some_iff.1 HW1.out).1
    first
     | exact ⟨_,rfl,rfl,HG4.out.alloc _,HG4.out.hb.size,heap_alloc_new w4 _⟩
     | exact ⟨_,rfl,rfl,(HG4.out.put HLT.out (by omega) D0c.out sm).1,by omega,(HG4.out.put HLT.out (by omega) D0c.out sm).2⟩
     | exact ⟨_,rfl,rfl,(HG4.out.put HLT.out (by have:=(Array.getElem?_eq_some_iff.1 HG2.out.hC).1; omega) D1b.out sm).1,HG2.out.hb.size,(HG4.out.put HLT.out (by have:=(Array.getElem?_eq_some_iff.1 HG2.out.hC).1; omega) D1b.out sm).2⟩
     | exact ⟨_,rfl,rfl,(HG4.out.put HLT.out (by have:=(Array.getElem?_eq_some_iff.1 HG3.out.hC).1; omega) D2.out sm).1,HG3.out.hb.size,(HG4.out.put HLT.out (by have:=(Array.getElem?_eq_some_iff.1 HG3.out.hC).1; omega) D2.out sm).2⟩
 case rest =>
  obtain ⟨D,rfl,rfl,hG,hDw,hrD⟩:=hcut
  have HRW:Hid (∀ s' W',On wc b L s' W'→(IdC w.heap.size x W'∧Cel4 (w.heap.size+1+1) by' W')∧Cel4 D sm W'∧Cel4' (w.heap.size+1) mx W'∧W'.cell? ⟨w.heap.size+1,8,none⟩=some (.int .i64 bk)∧W'.cell? ⟨w.heap.size+1,9,none⟩=some (.int .i64 dl)):=fun s' W' hO=>by
   have hA':=HF.out wc _ _ _ s' W' hG hO (Nat.le_refl _) hG.hA
   have hB':=HF.out wc _ _ _ s' W' hG hO (Nat.le_succ _) hG.hB
   have hC':=HF.out wc _ _ _ s' W' hG hO (by omega) hG.hC
   have hD':=HF.out wc _ _ _ s' W' hG hO hDw hrD
   exact ⟨⟨idc_row hA',cel4_row hC'⟩,cel4_row hD',⟨by rw [cell_of_row _ _ _ _ _ _ hB']; rfl,by rw [cell_of_row _ _ _ _ _ _ hB']; rfl,by rw [cell_of_row _ _ _ _ _ _ hB']; rfl,by rw [cell_of_row _ _ _ _ _ _ hB']; rfl⟩,by rw [cell_of_row _ _ _ _ _ _ hB']; rfl,by rw [cell_of_row _ _ _ _ _ _ hB']; rfl⟩
  obtain ⟨hF1,hF2,hF3⟩:=HFIN.out wc hG
  have HF1:=Lib.hid hF1
  have HF2:=Lib.hid hF2
  have HF3:=Lib.hid hF3
  have HO0:=Lib.hid (On.start (w:=wc) hG.hs)
  obtain ⟨_,⟨d0,d1,d2,d3⟩,⟨c4,c5,c6,c7⟩,_,_⟩:=HRW.out _ _ HO0.out
  clear HF HFIN HALL HAM HADD hG hDw hrD hF1 hF2 hF3 HG0 HLT HW1 i0 i1 i2 i3 a0 a1 a2 a3 n1a n1b n1c n1d
  go_wp2_with fail
  refine Calls.mono (HCMP.out _) ?_
  rintro e w6 ⟨rfl,hb6⟩
  have HO6:=Lib.hid (HO0.out.below hb6).drew
  obtain ⟨⟨⟨i0,i1,i2,i3⟩,_⟩,⟨e0,e1,e2,e3⟩,_,_,_⟩:=HRW.out _ _ (HO0.out.below hb6)
  clear hb6 HCMP d0 d1 d2 d3 c4 c5 c6 c7
  go_wp2_with fail
  go_region_held3 (fun w'=>w'.cell? ⟨w.heap.size,0,none⟩=some (.int .i64 x.1)∧w'.cell? ⟨w.heap.size,1,none⟩=some (.int .i64 x.2.1)∧w'.cell? ⟨w.heap.size,2,none⟩=some (.int .i64 x.2.2.1)∧w'.cell? ⟨w.heap.size,3,none⟩=some (.int .i64 x.2.2.2)∧w'.cell? ⟨D,0,none⟩=some (.int .u64 sm.1)∧w'.cell? ⟨D,1,none⟩=some (.int .u64 sm.2.1)∧w'.cell? ⟨D,2,none⟩=some (.int .u64 sm.2.2.1)∧w'.cell? ⟨D,3,none⟩=some (.int .u64 sm.2.2.2)) (first | assumption | go_keep)
   (first
    | (go_at_call 82; refine Calls.mono (HF1.out _ HO6.out) ?_; rintro e w7 ⟨rfl,hO7⟩; have HO7:=Lib.hid hO7; obtain ⟨⟨⟨l0,l1,l2,l3⟩,_⟩,⟨m0,m1,m2,m3⟩,_,_,_⟩:=HRW.out _ _ hO7; clear hO7)
    | (go_at_call 81; refine Calls.mono (HF2.out _ HO7.out) ?_; rintro e w8 ⟨rfl,hO8⟩; have HO8:=Lib.hid hO8; obtain ⟨⟨⟨o0,o1,o2,o3⟩,⟨p0,p1,p2,p3⟩⟩,⟨q0,q1,q2,q3⟩,_,r8,r9⟩:=HRW.out _ _ hO8; clear hO8))
  all_goals
   have HF8:=Lib.hid (HF3.out _ HO8.out)
   go_wp2_with fail
   refine Calls.mono HF8.out ?_
   rintro e w9 ⟨rfl,hR9⟩
   have HR9:=Lib.hid hR9
   clear hR9
   go_wp2_with fail
   exact HR9.out
end Go.Proofs.YtnkilceibkkjlaaGreat
