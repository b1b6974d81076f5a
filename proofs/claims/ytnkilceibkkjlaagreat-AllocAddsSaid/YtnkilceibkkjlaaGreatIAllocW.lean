/- What is proved here: due.Add at a block where nothing is due, into a count of nought; fifo.Good of numbers that are not negative. Its conditions: sizes. due.Add at a block where nothing is due, into a count of nought. Its conditions: sizes. alloc's wait, where nothing is due yet. Its conditions: sizes. -/
import Derived.Test.YtnkilceibkkjlaaGreatIRelyC
import Derived.Test.YtnkilceibkkjlaaGreatIHistP
import Derived.Test.YtnkilceibkkjlaaGreatIFqB
import Derived.Sort.CutIn
import Derived.Test.YtnkilceibkkjlaaGreatILeast
import Derived.Test.YtnkilceibkkjlaaGreatIHandG
set_option maxRecDepth 100000
set_option maxHeartbeats 16000000
namespace Go.Proofs.YtnkilceibkkjlaaGreat
open Go.RowKit Go.Shelf
def LieAt (w:World) (g:Nat) (l:List Int):Prop:=∀ j x,l[j]? = some x→w.cell? ⟨g,j,none⟩=some (.int .i64 x)
theorem LieAt.below {w w':World} {g:Nat} {l:List Int} (h:LieAt w g l) (hb:Below w.heap.size w w'):LieAt w' g l:=fun j x hj=>bl_cell hb (h j x hj)
theorem LieAt.ints {w:World} {g:Nat} {l:List Int} (h:LieAt w g l) (c:Nat):IntsAt w (.slice (some ⟨g,0,none⟩) l.length c) l:=.inr ⟨_,_,rfl,fun j x hj=>by rw [Addr.add_lit,Nat.zero_add]; exact h j x hj⟩
theorem neg_any (n:Int) (w:World):Calls Tryz.prog 237 #[.int .i64 n] w fun e w'=>e = .returned (.bool (decide (n < 0)))∧w=w':=by
 go_enter Tryz.func237,Tryz.ntmps237
 go_wp2_with fail
 go_ret
 exact ⟨rfl,rfl⟩
theorem index_neg (w:World) (g c:Nat) (l:List Int) (hl:l.length < 1000000) (h:LieAt w g l) (hp:∀ n∈l,0≤n):Calls Tryz.prog 256 #[.slice (some ⟨g,0,none⟩) l.length c,.func (.func 237) #[] #[]] w fun e w'=>e = .returned (.int .i64 (-1))∧w=w':=by
 have HC:Hid (∀ k,k < l.length→∃ n:Int,0≤n∧w.cell? ⟨g,k,none⟩=some (.int .i64 n)):=fun k hk=>⟨l[k],hp _ (List.getElem_mem hk),h k _ (List.getElem?_eq_getElem hk)⟩
 have hl2:(l.length:Int) < 9223372036854775807:=by omega
 clear h hp
 generalize l.length=m at *
 go_enter Tryz.func256,Tryz.ntmps256
 go_wp2_with fail
 go_loopw [8] (fun iv wr=>∃ k:Nat,iv = .int .i64 k∧k≤m∧w=wr) (fun iv _=>m - (intOf iv).toNat)
 case atStart=>exact ⟨0,rfl,by omega,rfl⟩
 case round =>
  obtain ⟨k,rfl,hk,rfl⟩:=hrel
  by_cases hlt:k < m
  ·obtain ⟨n,hn,hc⟩:=HC.out k hlt
   have hd:decide (n < 0)=false:=decide_eq_false (by omega)
   have HN:=Lib.hid (neg_any n w)
   go_wp2_with (go_at_call 237; refine HN.out.mono ?_; rintro e w1 ⟨rfl,rfl⟩)
   go_roundw
   case rel=>exact ⟨k+1,by go_num,by omega,by first | rfl | trivial⟩
   case measure=>simp [intOf]; omega
  ·obtain rfl:k=m:=by omega
   go_wp2_with fail
   go_ret
   exact ⟨rfl,rfl⟩
theorem fgood_yes (w:World) (g c:Nat) (l:List Int) (hl0:0 < l.length) (hl:l.length < 1000000) (h:LieAt w g l) (hp:∀ n∈l,0≤n):Calls Tryz.prog 205 #[.slice (some ⟨g,0,none⟩) l.length c] w fun e w'=>e = .returned (.bool true)∧w=w':=by
 have HI:=Lib.hid (index_neg w g c l hl h hp)
 have HC:Hid (Calls Tryz.prog 236 #[.slice (some ⟨g,0,none⟩) l.length c,.func (.func 237) #[] #[]] w fun e w'=>e = .returned (.bool false)∧w=w'):=by
  clear h hp
  go_enter Tryz.func236,Tryz.ntmps236
  go_wp2_with (go_at_call 256; refine HI.out.mono ?_; rintro e w1 ⟨rfl,rfl⟩)
  go_ret
  exact ⟨rfl,rfl⟩
 have hd:decide ((0:Int) < (l.length:Int))=true:=decide_eq_true (by omega)
 clear h hp HI
 go_enter Tryz.func205,Tryz.ntmps205
 go_wp2_with (go_at_call 236; refine HC.out.mono ?_; rintro e w1 ⟨rfl,rfl⟩)
 go_ret
 exact ⟨rfl,rfl⟩
theorem dall_any (q:Option Addr) (p:ByteArray) (w:World):Calls Tryz.prog 234 #[.pointer q,.string p] w fun e w' =>
  e = .returned (.func (.func 254) #[] #[.pointer (some ⟨w.heap.size,0,none⟩),.pointer (some ⟨w.heap.size+1,0,none⟩)])∧w'=(w.alloc (.cells #[.pointer q] 39)).alloc (.cells #[.string p] 9):=by
 go_enter Tryz.func234,Tryz.ntmps234
 go_wp2_with fail
 go_ret
 exact ⟨rfl,rfl⟩
theorem place_any (bl n:Int) (h1:bl < 9223372036854775808) (h2:n < 9223372036854775808) (w:World):Calls Tryz.prog 235 #[.agg #[.int .i64 bl,.int .i64 n]] w fun e w'=>e = .returned (.string (keyL 26 [bl,n]))∧Below w.heap.size w w':=by
 have hc0:=heap_alloc_new w (.cells #[.int .i64 bl,.int .i64 n] 276)
 have q0:(w.alloc (.cells #[.int .i64 bl,.int .i64 n] 276)).cell? ⟨w.heap.size,0,none⟩=some (.int .i64 bl):=by rw [cell_of_row _ _ _ _ _ _ hc0]; rfl
 have q1:(w.alloc (.cells #[.int .i64 bl,.int .i64 n] 276)).cell? ⟨w.heap.size,1,none⟩=some (.int .i64 n):=by rw [cell_of_row _ _ _ _ _ _ hc0]; rfl
 have HK:Hid (Calls Tryz.prog 90 #[.int .i64 26,.slice (some ⟨w.heap.size+1,0,none⟩) 2 2] ((w.alloc (.cells #[.int .i64 bl,.int .i64 n] 276)).alloc (.cells #[.int .i64 bl,.int .i64 n] 3)) fun e w'=>e = .returned (.string (keyL 26 [bl,n]))∧Below w.heap.size w w'):=by
  have hr:=heap_alloc_new (w.alloc (.cells #[.int .i64 bl,.int .i64 n] 276)) (.cells #[.int .i64 bl,.int .i64 n] 3)
  rw [World.size_alloc] at hr
  exact (key_any 26 (by decide) (by decide) _ [bl,n] _ (two_ints' _ _ _ _ hr) (by simp) (fun m hm=>by
   simp only [List.mem_cons,List.not_mem_nil,or_false] at hm
   rcases hm with rfl | rfl <;> assumption)).mono fun e w' ⟨he,hb⟩=>⟨he,bl_then (bl_alloc (bl_alloc (Below.refl _ w) _) _) hb⟩
 clear hc0
 generalize keyL 26 [bl,n]=k at *
 go_enter Tryz.func235,Tryz.ntmps235
 go_wp2_with (go_at_call 90; refine HK.out.mono ?_; rintro e w1 ⟨rfl,h1⟩)
 go_ret
 exact ⟨rfl,h1⟩
abbrev K27:ByteArray:=keyL 27 []
theorem dlen_any (w:World) (q:Option Addr) (s:St) (h:ReadAt w.heap.size w q s):Calls Tryz.prog 33 #[.pointer q] w (RetInt w (s.int K27)):=by
 have HK:=Lib.hid (key_new0 27 (by decide) (by decide) w)
 have HI:Hid (∀ w1,Below w.heap.size w w1→Calls Tryz.prog 99 #[.pointer q,.string (keyL 27 [])] w1 (RetInt w (s.int K27))):=fun w1 h1=>((h.below h1).int _).mono fun _ _ h2=>h2.of_below h1
 generalize s.int K27=n at *
 unfold K27 at *
 generalize keyL 27 []=k at *
 clear h
 go_enter Tryz.func33,Tryz.ntmps33
 go_wp2_with (first | (go_at_call 90; refine Calls.mono HK.out ?_; rintro e w1 ⟨rfl,h1⟩) | (go_at_call 99; refine (HI.out _ h1).mono ?_; rintro e w' ⟨rfl,h2⟩))
 go_ret
 exact ⟨rfl,h2⟩
attribute [local go_sem] Oper.semAt_some
theorem dall1_none (l Bs Bp:Nat) (q:Option Addr) (p:ByteArray) (J Jx:List ((Int × Int) × Value)→World→Prop) (W:World) (hJ:AbidesFrom W.heap.size J)
  (hU:Calls Tryz.prog 101 #[.pointer q,.string p] W fun e w2=>∃ a' c,e = .returned (.slice a' 0 c)∧Below W.heap.size W w2) (hBs:Boxed W Bs 39 (.pointer q)) (hBp:Boxed W Bp 9 (.string p)) (h0:J [] W) :
  CallsIn Fence.wide 4 Tryz.prog 254 (#[.func (.yield l) #[] #[]] ++ #[.pointer (some ⟨Bs,0,none⟩),.pointer (some ⟨Bp,0,none⟩)]) W fun e W'=>(∃ v,e = .returned v) ∧
   ((∃ ys:List ((Int × Int) × Value),ys = []∧J ys W')∨(∃ pre,True∧Jx pre W')):=by
 have HU:Hid (Calls Tryz.prog 101 #[.pointer q,.string p] W fun e w2=>∃ a' c,e = .returned (.slice a' 0 c)∧J [] w2):=hU.mono fun e w2 ⟨a',c,he,hb⟩=>⟨a',c,he,hJ _ _ _ none h0 (grown_below hb) (fun r e=>by cases e)⟩
 have hc1:=hBs.cell
 have hc2:=hBp.cell
 refine callsIn_of_wp Tryz.func254 rfl trivial ?_ rfl
 simp only [Tryz.ntmps254,List.size_toArray,List.length_cons,List.length_nil,Nat.reduceAdd,Nat.reduceSub,Array.replicate_succ,Array.replicate_zero,List.push_toArray,List.append_toArray,List.nil_append,List.cons_append]
 clear hJ hU
 gi_wp2_with (refine ⟨trivial,?_⟩; gi_at_call 101; refine (callsIn_wide.2 HU.out).mono ?_; rintro e w2 ⟨a',c,rfl,hJ2⟩)
 have HJ2:=Lib.hid hJ2
 clear hJ2 HU hc1 hc2 hBs hBp h0
 gi_loopw [14] (fun iv wr=>iv = .int .i64 0∧J [] wr) (fun _ _=>0)
 case atStart=>exact ⟨rfl,HJ2.out⟩
 case round =>
  obtain ⟨rfl,hj⟩:=hrel
  have HJ3:=Lib.hid hj
  clear hj
  gi_wp2
  go_end0
  exact ⟨⟨_,rfl⟩,.inl ⟨_,rfl,HJ3.out⟩⟩
theorem dall_stops (w0:World) (b:Nat) (s:St) (L:List Nat) (p:ByteArray) (h:SRep w0 b s L) (hz:s.size < 1000000000000) (hU:underE p s.ents = []) :
  SeqStopsK Fence.wide 4 Tryz.prog 254 #[.pointer (some ⟨w0.heap.size,0,none⟩),.pointer (some ⟨w0.heap.size+1,0,none⟩)] (fun x:(Int × Int) × Value=>#[.agg #[.int .i64 x.1.1,.int .i64 x.1.2],x.2]) (KpR w0.heap.size) (fun ys=>ys = []) (fun _=>True) 0
   ((w0.alloc (.cells #[.pointer (some ⟨b,0,none⟩)] 39)).alloc (.cells #[.string p] 9)):=fun l J Jx W hbw hJ _ _ h0=>by
 have bS:=Boxed.new w0 39 (.pointer (some ⟨b,0,none⟩))
 have bP:=Boxed.new (w0.alloc (.cells #[.pointer (some ⟨b,0,none⟩)] 39)) 9 (.string p)
 rw [World.size_alloc] at bP
 have hS:SRep W b s L:=(h.below (bl_alloc (bl_alloc (Below.refl _ w0) _) _)).below hbw
 refine dall1_none l _ _ _ p J Jx W hJ ?_ ((hbw.block _ (bS.alloc (.cells #[.string p] 9)).lt).trans (bS.alloc _)) ((hbw.block _ bP.lt).trans bP) h0
 refine (under_any W b s L p hS hz).mono fun e w2 ⟨v,he,hO⟩ => ?_
 rw [hU] at hO
 obtain ⟨a',c,rfl,_⟩:=hO.1.pairs
 exact ⟨a',c,he,hO.2.2⟩
def DueEnd (b:Nat) (bl:Nat) (g c:Nat) (l:List Int) (R:World→Prop) (W:World):Prop :=
 Calls Tryz.prog 235 #[.agg #[.int .i64 bl,.int .i64 0]] W fun e w1=>e = .returned (.string (keyL 26 [(bl:Int),0])) ∧
 Calls Tryz.prog 107 #[.pointer (some ⟨b,0,none⟩),.string (keyL 26 [(bl:Int),0]),.slice (some ⟨g,0,none⟩) l.length c] w1 fun e w2=>e = .returned (.tuple #[]) ∧
 Calls Tryz.prog 90 #[.int .i64 27,.slice none 0 0] w2 fun e w3=>e = .returned (.string K27) ∧
 Calls Tryz.prog 33 #[.pointer (some ⟨b,0,none⟩)] w3 fun e w4=>e = .returned (.int .i64 0) ∧
 Calls Tryz.prog 114 #[.pointer (some ⟨b,0,none⟩),.string K27,.int .i64 1] w4 fun e w5=>e = .returned (.tuple #[])∧R w5
theorem due_end {w:World} {b:Nat} {s:St} {L:List Nat} {f bl g c:Nat} {l:List Int} (h:SRep w b s L) (hf:s.Fit f) (hm:f < 10000000000) (hbl:bl≤1099511627776) (hl0:0 < l.length) (hl:l.length < 100000) (hp:∀ n∈l,0≤n∧n < 9223372036854775808) (hg:LieAt w g l)
  (h27:(s.put (keyL 26 [(bl:Int),0]) (rowB l)).int K27=0) {W:World} (hW:Below w.heap.size w W) {D:Nat} (hD:w.heap.size≤D) (hK:W.heap[D]? = some (.deferred (some []))) :
  DueEnd b bl g c l (fun w5=>w5.heap[D]? = some (.deferred (some []))∧RetSt w b L (.int .i64 0) ((s.put (keyL 26 [(bl:Int),0]) (rowB l)).setInt K27 1) (.returned (.int .i64 0)) (w5.putObj D (.deferred none))) W:=by
 have hz:s.size < 1000000000000:=Nat.lt_of_le_of_lt hf.size (by omega)
 have hrl:(rowB l).size≤1000000:=by
  show (rowBy l).toArray.size≤_
  rw [List.size_toArray,rowBy_len]; omega
 have hf1:=hf.put (keyL 26 [(bl:Int),0]) hrl
 have hz1:(s.put (keyL 26 [(bl:Int),0]) (rowB l)).size < 1000000000000:=Nat.lt_of_le_of_lt hf1.size (by omega)
 refine (place_any bl 0 (by omega) (by omega) W).mono fun e w1 ⟨he,hb1⟩=>⟨he,?_⟩
 have hW1:=bl_then hW hb1
 have hK1:w1.heap[D]? = some (.deferred (some [])):=(hb1.block _ (Array.getElem?_eq_some_iff.1 hK).1).trans hK
 refine (setRow_any w1 b s L _ _ l (h.below hW1) hz ((hg.below hW1).ints c) (by omega) (by intro e; rw [e] at hl0; exact absurd hl0 (by decide)) hp).mono fun e w2 ⟨he,L2,hS2,st2⟩=>⟨he,?_⟩
 have hDL:∀ k∈L,k≠D:=fun k hk e=>by have:=h.lt k hk; omega
 have hK2:w2.heap[D]? = some (.deferred (some [])):=(st2.fr.block D (Array.getElem?_eq_some_iff.1 hK1).1 (fun hm=>hDL D hm rfl)).trans hK1
 have hD2:∀ k∈L2,k≠D:=fun k hk e=>by
  subst e
  rcases st2.own k hk with h1 | h1
  ·exact hDL k h1 rfl
  ·have:=(Array.getElem?_eq_some_iff.1 hK1).1; omega
 refine (key_new0 27 (by decide) (by decide) w2).mono fun e w3 ⟨he,hb3⟩=>⟨he,?_⟩
 have hS3:=hS2.below hb3
 have hK3:w3.heap[D]? = some (.deferred (some [])):=(hb3.block _ (Array.getElem?_eq_some_iff.1 hK2).1).trans hK2
 refine (dlen_any w3 _ _ (ReadAt.made hS3 hf1 (by omega))).mono fun e w4 ⟨he,hb4⟩=>⟨by rw [he,h27]; rfl,?_⟩
 have hS4:=hS3.below hb4
 have hK4:w4.heap[D]? = some (.deferred (some [])):=(hb4.block _ (Array.getElem?_eq_some_iff.1 hK3).1).trans hK3
 refine (setIntG_any w4 b _ L2 K27 1 (by decide) hS4 hz1).mono fun e w5 ⟨he,L5,hS5,st5⟩=>⟨he,?_⟩
 have hK5:w5.heap[D]? = some (.deferred (some [])):=(st5.fr.block D (Array.getElem?_eq_some_iff.1 hK4).1 (fun hm=>hD2 D hm rfl)).trans hK4
 refine ⟨hK5,rfl,L5,?_,?_⟩
 ·refine hS5.frame fun k hk=>World.putObj_heap_other fun e => ?_
  subst e
  rcases st5.own k hk with h1 | h1
  ·exact hD2 k h1 rfl
  ·have:=(Array.getElem?_eq_some_iff.1 hK4).1; omega
 ·have sA:Step w L w1 L:=⟨Fr.of_below hW1 _,fun _ h => .inl h⟩
  have sB:=(sA.trans st2)
  have sC:Step w2 L2 w4 L2:=⟨Fr.of_below (bl_then (bl_then (Below.refl _ w2) hb3) hb4) _,fun _ h => .inl h⟩
  have sD:=(sB.trans sC).trans st5
  refine ⟨⟨sD.fr.os,sD.fr.tape,sD.fr.output,by simpa using sD.fr.size,fun k hk hn => ?_⟩,sD.own⟩
  rw [World.putObj_heap_other (by omega)]
  exact sD.fr.block k hk hn
end Go.Proofs.YtnkilceibkkjlaaGreat
namespace Go.Proofs.YtnkilceibkkjlaaGreat
open Go.RowKit Go.Shelf
attribute [local go_sem] Oper.semAt_some
theorem dueAdd_new (w:World) (b:Nat) (s:St) (L:List Nat) (f bl g c:Nat) (l:List Int) (h:SRep w b s L) (hf:s.Fit f) (hm:f < 10000000000) (hbl:bl≤1099511627776) (hl0:0 < l.length) (hl:l.length < 100000) (hp:∀ n∈l,0≤n∧n < 9223372036854775808) (hg:LieAt w g l)
  (hU:underE (keyL 26 [(bl:Int)]) s.ents = []) (h27:(s.put (keyL 26 [(bl:Int),0]) (rowB l)).int K27=0) :
  Calls Tryz.prog 204 #[.pointer (some ⟨b,0,none⟩),.int .i64 bl,.slice (some ⟨g,0,none⟩) l.length c] w (RetSt w b L (.int .i64 0) ((s.put (keyL 26 [(bl:Int),0]) (rowB l)).setInt K27 1)):=by
 have hz:s.size < 1000000000000:=Nat.lt_of_le_of_lt hf.size (by omega)
 have HM:=Lib.hid (made_at w b true h.cell0)
 have HG:=Lib.hid (fgood_yes w g c l hl0 (by omega) hg (fun n hn=>(hp n hn).1))
 have HK:Hid (∀ w1,Below w.heap.size w w1→Calls Tryz.prog 90 #[.int .i64 26,.slice (some ⟨w1.heap.size,0,none⟩) 1 1] (w1.alloc (.cells #[.int .i64 bl] 3)) fun e w2=>e = .returned (.string (keyL 26 [(bl:Int)]))∧Below w1.heap.size w1 w2):=fun w1 _ =>
  (key_any 26 (by decide) (by decide) _ [(bl:Int)] _ (intsAt_cells (g:=w1.heap.size) (l:=[(bl:Int)]) fun j z hj=>by
   rw [cell_of_row _ _ _ _ _ _ (heap_alloc_new w1 (.cells #[.int .i64 bl] 3))]
   match j,hj with
   | 0,hj=>cases hj; rfl) (by simp) (fun m hm=>by rw [List.mem_singleton.1 hm]; omega)).mono fun e w2 ⟨he,hb⟩=>⟨he,bl_then (bl_alloc (Below.refl _ w1) _) hb⟩
 have HST:Hid (∀ w1,Below w.heap.size w w1→SeqStopsK Fence.wide 4 Tryz.prog 254 #[.pointer (some ⟨w1.heap.size,0,none⟩),.pointer (some ⟨w1.heap.size+1,0,none⟩)] (fun x:(Int × Int) × Value=>#[.agg #[.int .i64 x.1.1,.int .i64 x.1.2],x.2]) (KpR w1.heap.size) (fun ys=>ys = []) (fun _=>True) 0
   ((w1.alloc (.cells #[.pointer (some ⟨b,0,none⟩)] 39)).alloc (.cells #[.string (keyL 26 [(bl:Int)])] 9))):=fun w1 hb=>dall_stops w1 b s L _ (h.below hb) hz hU
 have HE:Hid (∀ W D,Below w.heap.size w W→w.heap.size≤D→W.heap[D]? = some (.deferred (some []))→DueEnd b bl g c l (fun w5=>w5.heap[D]? = some (.deferred (some []))∧RetSt w b L (.int .i64 0) ((s.put (keyL 26 [(bl:Int),0]) (rowB l)).setInt K27 1) (.returned (.int .i64 0)) (w5.putObj D (.deferred none))) W):=fun W D hW hD hK=>due_end h hf hm hbl hl0 hl hp hg h27 hW hD hK
 have hd1:decide ((bl:Int) < 0)=false:=decide_eq_false (by omega)
 have hd2:decide ((1099511627776:Int) < (bl:Int))=false:=decide_eq_false (by omega)
 unfold DueEnd at HE
 clear h hf hp hg hU h27 hz
 generalize RetSt w b L (.int .i64 0) ((s.put (keyL 26 [(bl:Int),0]) (rowB l)).setInt K27 1)=R at *
 generalize keyL 26 [(bl:Int)]=kp at *
 generalize keyL 26 [(bl:Int),0]=kk at *
 generalize K27=k27 at *
 generalize l.length=m at *
 refine (callsIn_wide (n:=5)).1 ?_
 refine callsIn_of_wp_marks Tryz.func204 rfl trivial ?_ rfl
 simp only [Tryz.ntmps204,List.size_toArray,List.length_cons,List.length_nil,Nat.reduceAdd,Nat.reduceSub,Array.replicate_succ,Array.replicate_zero,List.push_toArray,List.append_toArray,List.nil_append,List.cons_append]
 have hb0:=bl_alloc (Below.refl _ w) (.cells #[.int .i64 0] 3)
 have HK1:Hid (Calls Tryz.prog 90 #[.int .i64 26,.slice (some ⟨w.heap.size+1,0,none⟩) 1 1] ((w.alloc (.cells #[.int .i64 0] 3)).alloc (.cells #[.int .i64 bl] 3)) fun e w2=>e = .returned (.string kp)∧Below (w.alloc (.cells #[.int .i64 0] 3)).heap.size (w.alloc (.cells #[.int .i64 0] 3)) w2):=by
  have h1:=HK.out _ hb0
  rw [show (w.alloc (.cells #[.int .i64 0] 3)).heap.size=w.heap.size+1 from World.size_alloc ..] at h1 ⊢
  exact h1
 have bN:=Boxed.new w 3 (.int .i64 0)
 gi_wp2_with (first
  | (refine ⟨trivial,?_⟩; gi_at_call 66; refine (callsIn_wide.2 HM.out).mono ?_; rintro e w' ⟨rfl,rfl⟩)
  | (refine ⟨trivial,?_⟩; gi_at_call 205; refine (callsIn_wide.2 HG.out).mono ?_; rintro e w' ⟨rfl,rfl⟩)
  | (refine ⟨trivial,?_⟩; gi_at_call 90; refine (callsIn_wide.2 HK1.out).mono ?_; rintro e w0 ⟨rfl,hb1⟩)
  | (refine ⟨trivial,?_⟩; gi_at_call 234; refine (callsIn_wide.2 (dall_any (some ⟨b,0,none⟩) kp w0)).mono ?_; rintro e w' ⟨rfl,rfl⟩))
 have hb2:=bl_then hb0 hb1
 have bN0:Boxed w0 w.heap.size 3 (.int .i64 0):=(hb1.block _ (by simp)).trans bN
 have hs0:=hb2.size
 refine wpIn_rangeFunc_ownH rfl (by decide) (gf:=254) (lb:=#[.pointer (some ⟨w0.heap.size,0,none⟩),.pointer (some ⟨w0.heap.size+1,0,none⟩)]) rfl trivial (enters_of Tryz.func254 (by kernel_rfl) rfl)
  (HST.out w0 hb2) KpR.trans (KpR.turn (by simp; omega)) (Below.refl _ _) (fun _=>rfl)
  (fun pre W=>pre = []∧Below w0.heap.size w0 W) (fun _ _ _=>False)
  (OwnFrom.and (fun _ _ _ _ hs _ _=>hs) (ownFrom_below (Nat.le_refl _) (by simp; omega))) (fun _ _ _ _ _ hs _ _=>hs)
  ⟨rfl,bl_alloc (bl_alloc (Below.refl _ w0) _) _⟩
  (fun _ _ _=>True) (fun _ _ _ _ _ _ _ _ _=>trivial) ?assign ?body ?done ?stop
 case stop=>rintro D c pre W _ _ h _; exact h.elim
 case body=>rintro l pre x a' W _ _ _ _ hlt; exact absurd hlt (Nat.not_lt_zero _)
 case assign =>
  intro l pre x W K hI hK
  obtain ⟨hp,hB⟩:=hI
  gi_wp2
  have hal:=(Below.refl W.heap.size W).alloc (Nat.le_refl _) (.cells #[.int .i64 x.1.1,.int .i64 x.1.2] 276)
  exact hK _ _ ⟨by simp,fun k o _ hk _=>(Below.heap_alloc W _ k (Array.getElem?_eq_some_iff.1 hk).1).trans hk⟩ (KpR.of_below hal hB.size) ⟨hp,hB.trans (hal.mono hB.size)⟩ trivial
 case done =>
  rintro D ys W hD - ⟨rfl,hB⟩ hK
  have hNc:W.cell? ⟨w.heap.size,0,none⟩=some (.int .i64 0):=bl_cell hB bN0.cell
  have hD':w.heap.size≤D:=by simp only [World.size_alloc] at hD; omega
  have HQ:=Lib.hid (HE.out W D (bl_then hb2 hB) hD' hK)
  clear hK HE HST HK HM HG bN bN0
  gi_wp2_with (first
   | (refine ⟨trivial,?_⟩; gi_at_call 235; refine (callsIn_wide.2 HQ.out).mono ?_; rintro e w1 ⟨rfl,hQ1⟩; have HQ1:=Lib.hid hQ1; clear hQ1)
   | (refine ⟨trivial,?_⟩; gi_at_call 107; refine (callsIn_wide.2 HQ1.out).mono ?_; rintro e w2 ⟨rfl,hQ2⟩; have HQ2:=Lib.hid hQ2; clear hQ2)
   | (refine ⟨trivial,?_⟩; gi_at_call 90; refine (callsIn_wide.2 HQ2.out).mono ?_; rintro e w3 ⟨rfl,hQ3⟩; have HQ3:=Lib.hid hQ3; clear hQ3)
   | (refine ⟨trivial,?_⟩; gi_at_call 33; refine (callsIn_wide.2 HQ3.out).mono ?_; rintro e w4 ⟨rfl,hQ4⟩; have HQ4:=Lib.hid hQ4; clear hQ4)
   | (refine ⟨trivial,?_⟩; gi_at_call 114; refine (callsIn_wide.2 HQ4.out).mono ?_; rintro e w5 ⟨rfl,hK5,hR⟩))
  refine ⟨by simp,.inl ⟨_,_,rfl,run_takeDeferred hK5,?_⟩⟩
  refine ⟨_,results_tmp (t:=6) rfl _ _ _,?_⟩
  exact hR
end Go.Proofs.YtnkilceibkkjlaaGreat
namespace Go.Proofs.YtnkilceibkkjlaaGreat
open Go.RowKit
theorem rowB_shortL (l:List Int) (h:l.length≤100000):(rowB l).size≤1000000:=by
 show (rowBy l).toArray.size≤_
 rw [List.size_toArray,rowBy_len]; omega
def waitS (s:St) (x:I4) (way:Nat) (a:W4) (bl:Nat):St:=(((s.put (aKey 30 x) (rowB [(way:Int),(bl:Int)])).setAmt (aKey 31 x) a).put (keyL 26 [(bl:Int),0]) (rowB x.l)).setInt K27 1
theorem wait_new (w:World) (b:Nat) (s:St) (L:List Nat) (f way bl:Nat) (x:I4) (a:W4) (hx:∀ n∈x.l,0≤n∧n < 9223372036854775808) (h:SRep w b s L) (hf:s.Fit f) (hm:f < 1000000000) (hw:way < 10) (hbl:bl≤1099511627776)
  (hU:underE (keyL 26 [(bl:Int)]) ((s.put (aKey 30 x) (rowB [(way:Int),(bl:Int)])).setAmt (aKey 31 x) a).ents = []) (h27:((((s.put (aKey 30 x) (rowB [(way:Int),(bl:Int)])).setAmt (aKey 31 x) a)).put (keyL 26 [(bl:Int),0]) (rowB x.l)).int K27=0) :
  Calls Tryz.prog 143 #[idV x,.pointer (some ⟨b,0,none⟩),.int .i64 way,uV a,.int .i64 bl] w (RetSt w b L (.int .i64 0) (waitS s x way a bl)):=by
 have hxo:x.Ok:=fun n hn=>(hx n hn).2
 have hf1:(s.put (aKey 30 x) (rowB [(way:Int),(bl:Int)])).Fit (f+2):=hf.put _ (rowB_shortL _ (by simp))
 have hf2:=hf1.setAmt (aKey 31 x) a
 have hz:s.size < 1000000000000:=Nat.lt_of_le_of_lt hf.size (by omega)
 have hz1:(s.put (aKey 30 x) (rowB [(way:Int),(bl:Int)])).size < 1000000000000:=Nat.lt_of_le_of_lt hf1.size (by omega)
 have hb0:=bl_alloc (bl_alloc (Below.refl _ w) (.cells (idL x) 34)) (.cells (uL a) 24)
 have hS1:=h.below hb0
 have hlt:=h.lt
 have hrA:((w.alloc (.cells (idL x) 34)).alloc (.cells (uL a) 24)).heap[w.heap.size]? = some (.cells (idL x) 34 (0,0)):=by
  rw [heap_alloc_old _ _ (by simp)]; exact heap_alloc_new w (.cells (idL x) 34)
 have hrB:=heap_alloc_new (w.alloc (.cells (idL x) 34)) (.cells (uL a) 24)
 rw [World.size_alloc] at hrB
 have hsz:((w.alloc (.cells (idL x) 34)).alloc (.cells (uL a) 24)).heap.size=w.heap.size+2:=by simp
 have HB:=Lib.hid hb0
 generalize hw1:(w.alloc (.cells (idL x) 34)).alloc (.cells (uL a) 24)=w1 at *
 have HF:Hid (∀ s' W,On w1 b L s' W→IdC w.heap.size x W∧Cel4 (w.heap.size+1) a W):=fun s' W hO=>by
  have n1:w.heap.size∉L:=fun hm=>absurd (hlt _ hm) (by omega)
  have n2:w.heap.size+1∉L:=fun hm=>absurd (hlt _ hm) (by omega)
  exact ⟨idc_row ((hO.heap (by omega) n1).trans hrA),cel4_row ((hO.heap (by omega) n2).trans hrB)⟩
 have H0:=Lib.hid (On.start (w:=w1) hS1)
 have HK:Hid (∀ (t:Nat) s' W,1≤t→t≤255→On w1 b L s' W→Calls Tryz.prog 65 #[idV x,.int .i64 t] W fun e W'=>e = .returned (.string (aKey t x))∧On w1 b L s' W'):=fun t s' W h1 h2 hO=>(akey_any t h1 h2 x hxo W).mono fun e W' ⟨he,hb⟩=>⟨he,hO.below hb⟩
 have HK30:Hid (Calls Tryz.prog 65 #[idV x,.int .i64 30] w1 fun e W'=>e = .returned (.string (aKey 30 x))∧On w1 b L s W'):=HK.out 30 s w1 (by decide) (by decide) H0.out
 have HK31:Hid (∀ s' W,On w1 b L s' W→Calls Tryz.prog 65 #[idV x,.int .i64 31] W fun e W'=>e = .returned (.string (aKey 31 x))∧On w1 b L s' W'):=fun s' W hO=>HK.out 31 s' W (by decide) (by decide) hO
 have HSR:Hid (∀ W,On w1 b L s W→Calls Tryz.prog 107 #[.pointer (some ⟨b,0,none⟩),.string (aKey 30 x),.slice (some ⟨W.heap.size,0,none⟩) 2 2] (W.alloc (.cells #[.int .i64 way,.int .i64 bl] 3)) fun e W'=>e = .returned (.tuple #[])∧On w1 b L (s.put (aKey 30 x) (rowB [(way:Int),(bl:Int)])) W'):=fun W hO =>
  (hO.alloc _).call fun L' hS=>setRow_any _ b s L' _ _ [(way:Int),(bl:Int)] hS hz (two_ints' _ _ _ _ (heap_alloc_new W (.cells #[.int .i64 way,.int .i64 bl] 3))) (by simp) (by simp) (fun m hm=>by
   simp only [List.mem_cons,List.not_mem_nil,or_false] at hm
   rcases hm with rfl | rfl <;> omega)
 have HSA:Hid (∀ W,On w1 b L (s.put (aKey 30 x) (rowB [(way:Int),(bl:Int)])) W→Calls Tryz.prog 81 #[.pointer (some ⟨b,0,none⟩),.string (aKey 31 x),uV a] W fun e W'=>e = .returned (.tuple #[])∧On w1 b L ((s.put (aKey 30 x) (rowB [(way:Int),(bl:Int)])).setAmt (aKey 31 x) a) W'):=fun W hO =>
  hO.call fun L' hS=>setAmt_any W b _ L' _ a hS hz1
 have HDA:Hid (∀ W,On w1 b L ((s.put (aKey 30 x) (rowB [(way:Int),(bl:Int)])).setAmt (aKey 31 x) a) W→Calls Tryz.prog 204 #[.pointer (some ⟨b,0,none⟩),.int .i64 bl,.slice (some ⟨W.heap.size,0,none⟩) 4 4] (W.alloc (.cells (idL x) 3)) fun e W'=>e = .returned (.int .i64 0)∧On w1 b L (waitS s x way a bl) W'):=fun W hO =>
  (hO.alloc _).call fun L' hS=>dueAdd_new _ b _ L' (f+2+2) bl W.heap.size 4 x.l hS hf2 (by omega) hbl (by simp) (by simp) hx (fun j z hj=>by
   obtain ⟨c0,c1,c2,c3⟩:=idc_row (heap_alloc_new W (.cells (idL x) 3))
   match j,hj with
   | 0,hj=>cases hj; exact c0
   | 1,hj=>cases hj; exact c1
   | 2,hj=>cases hj; exact c2
   | 3,hj=>cases hj; exact c3) hU h27
 have HR:Hid (∀ W,On w1 b L (waitS s x way a bl) W→RetSt w b L (.int .i64 0) (waitS s x way a bl) (.returned (.int .i64 0)) W):=fun W hO=>hO.back HB.out _
 obtain ⟨⟨i0,i1,i2,i3⟩,a0,a1,a2,a3⟩:=HF.out _ _ H0.out
 clear hb0 h hU h27 HK hS1 hrA hrB hf hf1 hf2 hx hxo hlt H0 HB
 generalize RetSt w b L (.int .i64 0) (waitS s x way a bl)=R at *
 generalize waitS s x way a bl=s3 at *
 generalize (s.put (aKey 30 x) (rowB [(way:Int),(bl:Int)])).setAmt (aKey 31 x) a=s2 at *
 generalize s.put (aKey 30 x) (rowB [(way:Int),(bl:Int)])=s1 at *
 generalize aKey 30 x=k30 at *
 generalize aKey 31 x=k31 at *
 have hW1:(w.alloc (.cells (idL x) 34)).alloc (.cells (uL a) 24)=w1:=hw1
 have HW1:=Lib.hid hW1
 clear hw1 hW1
 go_enter Tryz.func143,Tryz.ntmps143
 go_wp2_with fail
 rw [HW1.out]
 refine Calls.mono HK30.out ?_
 rintro e w2 ⟨rfl,hO2⟩
 have HSR2:=Lib.hid (HSR.out _ hO2)
 clear HK30 HSR hO2
 go_wp2_with fail
 refine Calls.mono HSR2.out ?_
 rintro e w3 ⟨rfl,hO3⟩
 have HO3:=Lib.hid hO3.drew
 obtain ⟨⟨j0,j1,j2,j3⟩,b0,b1,b2,b3⟩:=HF.out _ _ hO3
 clear HSR2 hO3
 go_wp2_with fail
 go_region_held3 (fun w'=>w'.cell? ⟨w.heap.size,0,none⟩=some (.int .i64 x.1)∧w'.cell? ⟨w.heap.size,1,none⟩=some (.int .i64 x.2.1)∧w'.cell? ⟨w.heap.size,2,none⟩=some (.int .i64 x.2.2.1)∧w'.cell? ⟨w.heap.size,3,none⟩=some (.int .i64 x.2.2.2)∧w'.cell? ⟨w.heap.size+1,0,none⟩=some (.int .u64 a.1)∧w'.cell? ⟨w.heap.size+1,1,none⟩=some (.int .u64 a.2.1)∧w'.cell? ⟨w.heap.size+1,2,none⟩=some (.int .u64 a.2.2.1)∧w'.cell? ⟨w.heap.size+1,3,none⟩=some (.int .u64 a.2.2.2)) (first | assumption | go_keep)
  (first
   | (go_at_call 65; refine Calls.mono (HK31.out _ _ HO3.out) ?_; rintro e w4 ⟨rfl,hO4⟩; have HO4:=Lib.hid hO4; obtain ⟨⟨l0,l1,l2,l3⟩,d0,d1,d2,d3⟩:=HF.out _ _ hO4; clear hO4)
   | (go_at_call 81; refine Calls.mono (HSA.out _ HO4.out) ?_; rintro e w5 ⟨rfl,hO5⟩; have HO5:=Lib.hid hO5; obtain ⟨⟨m0,m1,m2,m3⟩,e0,e1,e2,e3⟩:=HF.out _ _ hO5; clear hO5))
 all_goals
  have HD5:=Lib.hid (HDA.out _ HO5.out)
  go_wp2_with fail
  refine Calls.mono HD5.out ?_
  rintro e w6 ⟨rfl,hO6⟩
  have HR6:=Lib.hid (HR.out _ hO6)
  clear hO6 HD5
  go_wp2_with fail
  exact HR6.out
end Go.Proofs.YtnkilceibkkjlaaGreat
