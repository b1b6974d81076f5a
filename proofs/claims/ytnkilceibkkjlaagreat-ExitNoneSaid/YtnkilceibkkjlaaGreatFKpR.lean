/- What is proved here: history of the program: the last amount. Conditions: sizes, ints below 2^63. the reference's Under: the entries whose keys begin so. Its condition: fewer than 10^12 entries. keys.Parse and the reference's own, at any key. Their condition: a key shorter than 10^12 bytes. what a loop's body over an iterator may write: rows of ints and boxes of slices of ints alone. No program's function is named. No -/
import Derived.Test.YtnkilceibkkjlaaGreatFHist
import Derived.Test.YtnkilceibkkjlaaGreatFUnder
import Derived.Test.YtnkilceibkkjlaaGreatFOpenInts
import Derived.Test.YtnkilceibkkjlaaGreatFU256
import Derived.RangeFuncNested
import Derived.RangeFuncBound
import Derived.RangeFuncCalls
import Derived.RangeFuncLeaves
import Derived.RangeFuncBox
import Derived.Shelf.Abstract
import Derived.Shelf.RegionOpen
import Derived.WalkKit
import Derived.OwnWalkIn
import Derived.TacticsInMore
import Derived.LoopNIn
import Derived.LoopIn
import Derived.Maps.AppendAt
set_option maxRecDepth 100000
set_option maxHeartbeats 16000000
namespace Go.Proofs.YtnkilceibkkjlaaGreat
open Go.RowKit
theorem numsL_one63 {r:List UInt8} {n:Nat} (h:numsL r=some [n]):n < 9223372036854775808:=by
 have hl:=numsL_len r.length r [n] (Nat.le_refl _) h
 simp at hl
 rw [nums8 hl] at h
 split at h
 ·next hb =>
  simp at h
  subst h
  exact hb
 ·cases h
theorem int_lt63 (s:St) (k:ByteArray):s.int k < 9223372036854775808:=by
 unfold St.int intOfV rowOf
 cases h:numsL (s.val k).data.toList with
 | none=>simp
 | some ns =>
  match ns,h with
  | [],_=>simp
  | [n],h=>exact numsL_one63 h
  | _ :: _ :: _,_=>simp
theorem pt_f1 (n:Int) (a:W4) (w:World):(Instr.field 233 (.agg (pL n a)) 1).run Tryz.prog w = .ok (uV a) w:=by
 show (Instr.field 233 (.agg #[.int .i64 n,.int .u64 a.1,.int .u64 a.2.1,.int .u64 a.2.2.1,.int .u64 a.2.2.2]) 1).run Tryz.prog w = .ok (.agg #[.int .u64 a.1,.int .u64 a.2.1,.int .u64 a.2.2.1,.int .u64 a.2.2.2]) w
 kernel_rfl
theorem pt_f0 (n:Int) (a:W4) (w:World):(Instr.field 233 (.agg (pL n a)) 0).run Tryz.prog w = .ok (.int .i64 n) w:=by
 show (Instr.field 233 (.agg #[.int .i64 n,.int .u64 a.1,.int .u64 a.2.1,.int .u64 a.2.2.1,.int .u64 a.2.2.2]) 0).run Tryz.prog w = .ok (.int .i64 n) w
 kernel_rfl
theorem histLast_q (w:World) (h:Hand) (s:St) (f:Nat) (t:Nat) (ht1:1≤t) (ht2:t≤255) (y:Value) (l:List Int) (hi:IntsAt w y l) (hl:IdOk l) (hq:QSt w h s) (hf:s.Fit f) (hm:f < 100000000000) :
  Calls Tryz.prog 117 #[.pointer h.ptr,.int .i64 t,y] w fun e w'=>e = .returned (.tuple #[uV (s.hlast t l),.bool (decide (s.hlen t l≠0))])∧Below w.heap.size w w':=by
 have hB:=(HV.start hq).alloc zO
 have hI:∀ W,Below w.heap.size w W→IntsAt W y l:=fun W hW=>hi.below hW
 have HLN:Hid (∀ rs W,HV h w s rs W→Below w.heap.size w W→Calls Tryz.prog 180 #[.pointer h.ptr,.int .i64 t,y] W fun e w'=>e = .returned (.int .i64 (s.hlen t l))∧HV h w s rs w'∧Below w.heap.size w w'):=fun rs W hW hb=>by
  obtain ⟨L',h1,_⟩:=hW.on
  exact (histLen_q W ⟨h.ptr,h.on,L'⟩ s f t ht1 ht2 y l (hI W hb) hl h1 hf hm).mono fun e w' ⟨he,h2⟩=>⟨he,QV.below hW h2,bl_then hb h2⟩
 have hnl:=int_lt63 s (keyL t l)
 have HRD:Hid (∀ rs W,HV h w s rs W→Below w.heap.size w W→Calls Tryz.prog 181 #[.pointer h.ptr,.int .i64 t,y,.int .i64 (((s.hlen t l:Nat):Int) - 1)] W fun e w'=>e = .returned (.agg (pL (hpt (s.val (keyL t (l ++ [((s.hlen t l:Nat):Int) - 1])))).1 (hpt (s.val (keyL t (l ++ [((s.hlen t l:Nat):Int) - 1])))).2))∧HV h w s rs w'∧Below w.heap.size w w'):=fun rs W hW hb=>by
  obtain ⟨L',h1,_⟩:=hW.on
  exact (histRead_q W ⟨h.ptr,h.on,L'⟩ s f t ht1 ht2 y l (((s.hlen t l:Nat):Int) - 1) (hI W hb) hl (by show ((s.int (keyL t l):Nat):Int) - 1 < 9223372036854775808; omega) h1 hf hm).mono fun e w' ⟨he,h2⟩=>⟨he,QV.below hW h2,bl_then hb h2⟩
 have hlast:(s.hlen t l=0→s.hlast t l=(0,0,0,0))∧(s.hlen t l≠0→s.hlast t l=(hpt (s.val (keyL t (l ++ [((s.hlen t l:Nat):Int) - 1])))).2):=by
  unfold St.hlast
  exact ⟨fun h=>if_pos h,fun h=>if_neg h⟩
 have HLA:=Lib.hid hlast
 have HB:=Lib.hid (And.intro hB (bl_alloc (Below.refl _ w) zO))
 have hnl':s.hlen t l < 9223372036854775808:=hnl
 clear hi hl hq hf hI hB hlast hnl
 generalize s.hlast t l=hw at *
 generalize hpt (s.val (keyL t (l ++ [((s.hlen t l:Nat):Int) - 1])))=pt at *
 generalize s.hlen t l=n at *
 by_cases h0:n=0
 ·have h1:=HLA.out.1 h0
  subst h1 h0
  clear HRD HLA
  go_enter Tryz.func117,Tryz.ntmps117
  go_wp2_with fail
  refine Calls.mono (HLN.out _ _ HB.out.1 HB.out.2) ?_
  rintro e w2 ⟨rfl,hB2,hb2⟩
  have hz:=QV.u4 hB2 (g:=w.heap.size) (x:=(0,0,0,0)) (by simp)
  obtain ⟨z0,z1,z2,z3,z4,z5,z6,z7⟩:=row4 hz
  have HZ:=Lib.hid (put4 hz (0,0,0,0))
  have HBB:=Lib.hid (put4_below hb2 (Nat.le_refl _) (.int .u64 0) (.int .u64 0) (.int .u64 0) (.int .u64 0))
  clear hz hB2 hb2 HLN HB
  go_wp2_with fail
  refine bodyPost_ret (results_cell_row2 rfl _ _ w.heap.size 24 (uL (0,0,0,0)) (0,0) _ rfl HZ.out Tryz.underlying24 rfl (by kernel_rfl)) rfl ?_
  exact ⟨rfl,HBB.out⟩
 ·have h1:=HLA.out.2 h0
  have hd:decide (n≠0)=true:=decide_eq_true h0
  rw [hd]
  have hne:((n:Int) == 0)=false:=by rw [beq_eq_false_iff_ne]; omega
  have hF:=fun w=>pt_f1 pt.1 pt.2 w
  rw [← h1] at hF HRD
  obtain ⟨n1,hn1⟩:∃ n1:Int,n1=(n:Int) - 1:=⟨_,rfl⟩
  have hwr:IntKind.i64.wrap ((n:Int) - 1)=n1:=by rw [hn1,IntKind.wrap_i64]; omega
  have hwr2:wrap64 ((n:Int) - 1)=n1:=by rw [hn1]; unfold wrap64; omega
  rw [← hn1] at HRD
  clear HLA h1 hd hn1 h0 hnl'
  generalize ((pt.1:Nat):Int)=p1 at *
  go_enter Tryz.func117,Tryz.ntmps117
  go_wp2_with fail
  refine Calls.mono (HLN.out _ _ HB.out.1 HB.out.2) ?_
  rintro e w2 ⟨rfl,hB2,hb2⟩
  have HR2:=Lib.hid (HRD.out _ _ hB2 hb2)
  clear hB2 hb2 HLN HB HRD
  go_wp2_with fail
  refine Calls.mono HR2.out ?_
  rintro e w3 ⟨rfl,hB3,hb3⟩
  have hz:=QV.u4 hB3 (g:=w.heap.size) (x:=(0,0,0,0)) (by simp)
  obtain ⟨z0,z1,z2,z3,z4,z5,z6,z7⟩:=row4 hz
  have HZ:=Lib.hid (put4 hz hw)
  have HBB:=Lib.hid (put4_below hb3 (Nat.le_refl _) (.int .u64 hw.1) (.int .u64 hw.2.1) (.int .u64 hw.2.2.1) (.int .u64 hw.2.2.2))
  clear hz hB3 hb3 HR2
  go_wp2_with fail
  refine bodyPost_ret (results_cell_row2 rfl _ _ w.heap.size 24 (uL hw) (0,0) _ rfl HZ.out Tryz.underlying24 rfl (by kernel_rfl)) rfl ?_
  exact ⟨rfl,HBB.out⟩
end Go.Proofs.YtnkilceibkkjlaaGreat
namespace Go.Proofs.YtnkilceibkkjlaaGreat
open Go.RowKit
theorem underE_step (p:ByteArray) (l:List Ent) (k:Nat) (x:Ent) (h:l[k]? = some x):underE p (l.take (k+1))=underE p (l.take k) ++ (if isPre p x.1 then [x] else []):=by
 have e:l.take (k+1)=l.take k ++ [x]:=by rw [List.take_add_one,h]; rfl
 rw [e]
 unfold underE
 rw [List.filter_append]
 cases hp:isPre p x.1 <;> simp [hp]
def RUnderAt (w:World) (p:ByteArray) (l:List Ent) (k:Nat) (v:Value) (wr:World):Prop:=OutAt w wr v (underE p (l.take k)).length (underE p (l.take k))
theorem RUnderAt.yes {w wr:World} {p:ByteArray} {l:List Ent} {k:Nat} {v:Value} (h:RUnderAt w p l k v wr) {x:Ent} (hx:l[k]? = some x) (hp:isPre p x.1=true) {o1 o2:Obj} {v':Value} {w':World}
  (hA:Appended ((wr.alloc o1).alloc o2) 156 2 v (underE p (l.take k)).length 1 (pairV (underE p (l.take k))) [.string x.1,.string x.2] v' w'):RUnderAt w p l (k+1) v' w':=by
 unfold RUnderAt
 rw [underE_step p l k x hx,hp]
 simp only [if_true,List.length_append,List.length_singleton]
 exact ((OutAt.alloc h _).alloc _).next (l2:=[x]) hA
theorem RUnderAt.no {w wr:World} {p:ByteArray} {l:List Ent} {k:Nat} {v:Value} (h:RUnderAt w p l k v wr) {x:Ent} (hx:l[k]? = some x) (hp:isPre p x.1=false) (o:Obj):RUnderAt w p l (k+1) v (wr.alloc o):=by
 unfold RUnderAt
 rw [underE_step p l k x hx,hp]
 simp only [Bool.false_eq_true,if_false,List.append_nil]
 exact OutAt.alloc h _
end Go.Proofs.YtnkilceibkkjlaaGreat
namespace Go.Proofs.YtnkilceibkkjlaaGreat
open Go.RowKit
end Go.Proofs.YtnkilceibkkjlaaGreat
namespace Go.Proofs.YtnkilceibkkjlaaGreat
open Go.RowKit Go.Shelf
def KpR (n₀:Nat) (A B:World):Prop:=Below n₀ A B∧∀ (k:Nat) (cs:Array Value) (t:TypeId) f,A.heap[k]? = some (Obj.cells cs t f)→t≠3→t≠75→B.heap[k]? = A.heap[k]?
theorem KpR.refl (n₀:Nat) (A:World):KpR n₀ A A:=⟨Below.refl _ _,fun _ _ _ _ _ _ _=>rfl⟩
theorem KpR.trans {n₀:Nat} {A B C:World} (h:KpR n₀ A B) (k:KpR n₀ B C):KpR n₀ A C :=
 ⟨h.1.trans k.1,fun j cs t f hj h1 h2=>(k.2 j cs t f (by rw [h.2 j cs t f hj h1 h2]; exact hj) h1 h2).trans (h.2 j cs t f hj h1 h2)⟩
theorem KpR.turn {n₀:Nat} {w:World} (hn:n₀≤w.heap.size) (W:World) (l:Nat) (o o':Obj) (hl:w.heap.size≤l) (h:W.heap[l]? = some o) (hc:o.isCells=false) (hw:o.isWalk=false):KpR n₀ W (W.putObj l o') :=
 ⟨belowK_b hn W l o o' hl h hc hw,fun k cs t f hk _ _=>by
  refine World.putObj_heap_other fun e => ?_
  subst e
  rw [h] at hk
  cases hk
  cases hc⟩
theorem KpR.of_below {n₀:Nat} {A B:World} (h:Below A.heap.size A B) (hn:n₀≤A.heap.size):KpR n₀ A B :=
 ⟨h.mono hn,fun k _ _ _ hk _ _=>h.block k (Array.getElem?_eq_some_iff.1 hk).1⟩
theorem KpR.own {n₀:Nat} {A B:World} (h:KpR n₀ A B) {e size:Nat} {v:Value} {n:Nat} {xs:List Value} (ho:Own A e size v n xs) (h1:e≠3) (h2:e≠75):Own B e size v n xs:=by
 refine ⟨ho.1,?_⟩
 rcases ho.2 with h0 | ⟨g,cap,cur,hv,hg,hr⟩
 ·exact .inl h0
 ·exact .inr ⟨g,cap,cur,hv,by rw [h.2 g _ _ _ hg h1 h2]; exact hg,hr⟩
end Go.Proofs.YtnkilceibkkjlaaGreat
namespace Go.Proofs.YtnkilceibkkjlaaGreat
open Go.RowKit
def IntsOut (w2:World) (f:List Int) (v:Value) (wr:World):Prop:=Own wr 3 1 v f.length (f.map fun n=>Value.int .i64 n)∧(∀ g,v.ownBlock=some g→w2.heap.size≤g)∧Below w2.heap.size w2 wr
theorem IntsOut.below {w2 wr w':World} {f:List Int} {v:Value} (h:IntsOut w2 f v wr) (hb:Below wr.heap.size wr w'):IntsOut w2 f v w' :=
 ⟨h.1.frame fun k hk=>hb.block k (h.1.lt k hk),h.2.1,h.2.2.trans (hb.mono h.2.2.size)⟩
theorem IntsOut.push {w2 w3 w':World} {f:List Int} {v v':Value} (h:IntsOut w2 f v w3) {o:Obj} {n:Int} (hA:Appended (w3.alloc o) 3 1 v f.length 1 (f.map fun n=>Value.int .i64 n) [.int .i64 n] v' w'):IntsOut w2 (f ++ [n]) v' w':=by
 have h0:=h.below ((Below.refl _ w3).alloc (Nat.le_refl _) o)
 refine ⟨by rw [List.map_append,List.length_append]; exact hA.own,fun g hg => ?_,h0.2.2.grown hA.grown h0.2.2.size h0.2.1⟩
 rcases hA.block g hg with h1 | h1
 ·exact h0.2.1 g h1
 ·exact Nat.le_trans h0.2.2.size h1
theorem IntsOut.form {w2 wr:World} {f:List Int} {v:Value} (h:IntsOut w2 f v wr):∃ a c,v = .slice a f.length c:=by
 obtain ⟨a,c,e,_⟩:=h.1.form
 exact ⟨a,c,e⟩
structure IntsLie (w:World) (a:Option Addr) (l:List Int):Prop where
 at0:∀ k x,l[k]? = some x→∃ g,a=some ⟨g,0,none⟩∧w.cell? ⟨g,k,none⟩=some (.int .i64 x)
theorem IntsLie.below {w w':World} {a:Option Addr} {l:List Int} (h:IntsLie w a l) (hb:Below w.heap.size w w'):IntsLie w' a l :=
 ⟨fun k x hk=>by
  obtain ⟨g,h1,h2⟩:=h.at0 k x hk
  exact ⟨g,h1,by rw [hb.cell (p:=⟨g,k,none⟩) (World.block_lt_of_cell? w _ h2)]; exact h2⟩⟩
end Go.Proofs.YtnkilceibkkjlaaGreat
