/- What is proved here: fifo.of, over any store that is read, and how long a queue is. Its conditions: sizes. history of the program: the last amount. Conditions: sizes, ints below 2^63. the reference's Under: the entries whose keys begin so. Its condition: fewer than 10^12 entries. keys.Parse and the reference's own, at any key. Their condition: a key shorter than 10^12 bytes. what a loop's body over an iterator may wri -/
import Derived.Test.YtnkilceibkkjlaaGreatILeast
import Derived.Test.YtnkilceibkkjlaaGreatIBl
import Derived.Test.YtnkilceibkkjlaaGreatICell
import Derived.RangeFuncNested
import Derived.RangeFuncBound
import Derived.RangeFuncCalls
import Derived.RangeFuncLeaves
import Derived.RangeFuncBox
import Derived.Shelf.Abstract
import Derived.Shelf.RegionOpen
import Derived.WalkKit
import Derived.OwnWalkIn
import Derived.TacticsInMore
import Derived.LoopNIn
import Derived.LoopIn
import Derived.Maps.AppendAt
import Derived.Test.YtnkilceibkkjlaaGreatIHoldB
import Derived.Test.YtnkilceibkkjlaaGreatIRelyC
set_option maxRecDepth 100000
set_option maxHeartbeats 16000000
namespace Go.Proofs.YtnkilceibkkjlaaGreat
open Go.RowKit
def endsOf (l:List Nat):Nat × Nat:=match l with
 | [a,b]=>if a≤b then (a,b) else (0,0)
 | _=>(0,0)
def ends (s:St) (t:Nat) (l:List Int):Nat × Nat:=endsOf (rowOf (s.val (keyL t l)))
def FqAt (w:World) (q:Option Addr) (t:Nat) (v:Value) (W:World):Prop:=Below w.heap.size w W∧W.heap[w.heap.size]? = some (.cells (qL none 0 (.slice none 0 0) 0 0) 188 (0,0))∧W.heap[w.heap.size+1]? = some (.cells (qL q t v 0 0) 188 (0,0))
theorem of_any (w:World) (q:Option Addr) (s:St) (t:Nat) (ht1:1≤t) (ht2:t≤255) (ad:Option Addr) (c:Nat) (l:List Int) (hv:IntsAt w (.slice ad l.length c) l) (hl:l.length < 1000000) (hr:∀ n∈l,n < 9223372036854775808) (h:ReadAt w.heap.size w q s):Calls Tryz.prog 138 #[.pointer q,.int .i64 t,.slice ad l.length c] w fun e w'=>e = .returned (.agg (qL q t (.slice ad l.length c) (ends s t l).1 (ends s t l).2))∧Below w.heap.size w w':=by
 have hb0:=bl_alloc (bl_alloc (Below.refl _ w) (.cells (qL none 0 (.slice none 0 0) 0 0) 188)) (.cells (qL q t (.slice ad l.length c) 0 0) 188)
 have HC:Hid (Calls Tryz.prog 90 #[.int .i64 t,.slice ad l.length c] ((w.alloc (.cells (qL none 0 (.slice none 0 0) 0 0) 188)).alloc (.cells (qL q t (.slice ad l.length c) 0 0) 188)) fun e w1=>e = .returned (.string (keyL t l)) ∧
  Calls Tryz.prog 75 #[.pointer q,.string (keyL t l)] w1 fun e w2=>∃ v,e = .returned v∧Own w2 3 1 v (rowOf (s.val (keyL t l))).length (intsV (rowOf (s.val (keyL t l))))∧(∀ g,v.ownBlock=some g→w.heap.size+1 < g)∧FqAt w q t (.slice ad l.length c) w2):=by
  have hr0:((w.alloc (.cells (qL none 0 (.slice none 0 0) 0 0) 188)).alloc (.cells (qL q t (.slice ad l.length c) 0 0) 188)).heap[w.heap.size]? = some (.cells (qL none 0 (.slice none 0 0) 0 0) 188 (0,0)):=by
   rw [heap_alloc_old _ _ (by simp)]; exact heap_alloc_new w (.cells (qL none 0 (.slice none 0 0) 0 0) 188)
  have hr1:=heap_alloc_new (w.alloc (.cells (qL none 0 (.slice none 0 0) 0 0) 188)) (.cells (qL q t (.slice ad l.length c) 0 0) 188)
  rw [World.size_alloc] at hr1
  refine (key_any t ht1 ht2 _ l _ (hv.below hb0) (by omega) hr).mono fun e w1 ⟨he,hb⟩=>⟨he,?_⟩
  have hb1:=bl_then hb0 hb
  have hsz:=hb.size
  simp only [World.size_alloc] at hsz
  have hp0:=(hb.block _ (Array.getElem?_eq_some_iff.1 hr0).1).trans hr0
  have hp1:=(hb.block _ (Array.getElem?_eq_some_iff.1 hr1).1).trans hr1
  exact ((h.below hb1).row (keyL t l)).mono fun e w2 ⟨v,he,ho,hg,hb2⟩=>⟨v,he,ho,fun g hgg=>(by have:=hg g hgg; omega),bl_then hb1 hb2,(hb2.block _ (Array.getElem?_eq_some_iff.1 hp0).1).trans hp0,(hb2.block _ (Array.getElem?_eq_some_iff.1 hp1).1).trans hp1⟩
 have HP:Hid (ends s t l=endsOf (rowOf (s.val (keyL t l)))):=rfl
 clear h hb0 hv hr
 generalize ends s t l=p at *
 generalize rowOf (s.val (keyL t l))=r at *
 generalize keyL t l=k at *
 generalize l.length=n at *
 have HEND:Hid (∀ (W:World) (x y:Nat),W.heap[w.heap.size]? = some (.cells (qL none 0 (.slice none 0 0) 0 0) 188 (0,0))→(((((W.setCell ⟨w.heap.size,0,none⟩ (.pointer q)).setCell ⟨w.heap.size,1,none⟩ (.int .i64 t)).setCell ⟨w.heap.size,2,none⟩ (.slice ad n c)).setCell ⟨w.heap.size,3,none⟩ (.int .i64 x)).setCell ⟨w.heap.size,4,none⟩ (.int .i64 y)).heap[w.heap.size]? = some (.cells (qL q t (.slice ad n c) x y) 188 (0,0))):=fun W x y hW=>setCell_row _ (setCell_row _ (setCell_row _ (setCell_row _ (setCell_row _ hW))))
 by_cases h2:r.length=2
 ·obtain ⟨a,b,rfl⟩:∃ a b,r = [a,b]:=by
   match r,h2 with
   | [a,b],_=>exact ⟨a,b,rfl⟩
  by_cases hab:a≤b
  ·have hp:p=(a,b):=by rw [HP.out]; simp [endsOf,hab]
   subst hp
   have hd:decide ((a:Int)≤(b:Int))=true:=decide_eq_true (by omega)
   clear h2 HP
   go_enter Tryz.func138,Tryz.ntmps138
   go_wp2_with fail
   refine Calls.mono HC.out ?_
   rintro e w1 ⟨rfl,hD⟩
   have HD:=Lib.hid hD
   clear hD HC
   go_wp2_with fail
   refine Calls.mono HD.out ?_
   rintro e w2 ⟨v,rfl,ho,hgn,hb2,hr0,hr1⟩
   obtain ⟨g,cc,rfl,c0,c1⟩:=own_two ho
   have hg1:w.heap.size+1 < g:=hgn g rfl
   have n1:g≠w.heap.size+1:=by omega
   have n2:=Ne.symm n1
   have n3:g≠w.heap.size:=by omega
   have n4:=Ne.symm n3
   have HR0:=Lib.hid hr0
   have HB:=Lib.hid hb2
   have f0:=aRow5 hr0
   have f1:=aRow5 hr1
   obtain ⟨⟨_,_,_,_,_⟩,_,_,_,_,_⟩:=f0
   obtain ⟨⟨_,_,_,_,_⟩,_,_,_,_,_⟩:=f1
   have hat:∀ W,(Instr.arrayAt 152 (.slice (some ⟨g,0,none⟩) 2 cc)).run Tryz.prog W = .ok (.pointer (some ⟨g,0,none⟩)) W:=fun W=>run_arrayAt W _ _ 2 _ 2 cc Tryz.underlying152 (Nat.le_refl _)
   clear HD ho hr0 hr1 hb2 hgn
   go_wp2_with fail
   go_region
   all_goals
    go_wp2_with fail
    refine bodyPost_ret (results_cell_row rfl _ _ w.heap.size 188 (qL q t (.slice ad n c) a b) (0,0) _ rfl ?_ Tryz.underlying188 rfl (by kernel_rfl)) rfl ?_
    ·rw [heap_drew']
     refine HEND.out _ a b ?_
     rw [Below.heap_setCell _ _ _ _ (show w.heap.size≠w.heap.size+1 by omega),Below.heap_setCell _ _ _ _ (show w.heap.size≠w.heap.size+1 by omega)]
     exact HR0.out
    ·exact ⟨rfl,bl_drew ((put4_below ((HB.out.setCell (p:=⟨w.heap.size+1,3,none⟩) (Nat.le_succ _) _).setCell (p:=⟨w.heap.size+1,4,none⟩) (Nat.le_succ _) _) (Nat.le_refl _) _ _ _ _).setCell (p:=⟨w.heap.size,4,none⟩) (Nat.le_refl _) _)⟩
  ·have hp:p=(0,0):=by rw [HP.out]; simp [endsOf,hab]
   subst hp
   have hd:decide ((a:Int)≤(b:Int))=false:=decide_eq_false (by omega)
   clear h2 HP
   go_enter Tryz.func138,Tryz.ntmps138
   go_wp2_with fail
   refine Calls.mono HC.out ?_
   rintro e w1 ⟨rfl,hD⟩
   have HD:=Lib.hid hD
   clear hD HC
   go_wp2_with fail
   refine Calls.mono HD.out ?_
   rintro e w2 ⟨v,rfl,ho,hgn,hb2,hr0,hr1⟩
   obtain ⟨g,cc,rfl,c0,c1⟩:=own_two ho
   have hg1:w.heap.size+1 < g:=hgn g rfl
   have n1:g≠w.heap.size+1:=by omega
   have n2:=Ne.symm n1
   have n3:g≠w.heap.size:=by omega
   have n4:=Ne.symm n3
   have HR0:=Lib.hid hr0
   have HB:=Lib.hid hb2
   have f0:=aRow5 hr0
   have f1:=aRow5 hr1
   obtain ⟨⟨_,_,_,_,_⟩,_,_,_,_,_⟩:=f0
   obtain ⟨⟨_,_,_,_,_⟩,_,_,_,_,_⟩:=f1
   clear HD ho hr0 hr1 hb2 hgn
   go_wp2_with fail
   go_region
   all_goals
    go_wp2_with fail
    refine bodyPost_ret (results_cell_row rfl _ _ w.heap.size 188 (qL q t (.slice ad n c) 0 0) (0,0) _ rfl ?_ Tryz.underlying188 rfl (by kernel_rfl)) rfl ?_
    ·rw [heap_drew']
     exact setCell_row _ (setCell_row _ (setCell_row _ (setCell_row _ (setCell_row _ HR0.out))))
    ·exact ⟨rfl,bl_drew ((put4_below HB.out (Nat.le_refl _) _ _ _ _).setCell (p:=⟨w.heap.size,4,none⟩) (Nat.le_refl _) _)⟩
 ·have hp:p=(0,0):=by
   rw [HP.out]; unfold endsOf
   match r,h2 with
   | [],_=>rfl
   | [_],_=>rfl
   | _ :: _ :: _ :: _,_=>rfl
  subst hp
  have hne:((r.length:Int) == 2)=false:=beq_eq_false_iff_ne.2 (by omega)
  have HC1:Hid (Calls Tryz.prog 90 #[.int .i64 t,.slice ad n c] ((w.alloc (.cells (qL none 0 (.slice none 0 0) 0 0) 188)).alloc (.cells (qL q t (.slice ad n c) 0 0) 188)) fun e w1=>e = .returned (.string k) ∧
   Calls Tryz.prog 75 #[.pointer q,.string k] w1 fun e w2=>∃ a2 c2,e = .returned (.slice a2 r.length c2)∧FqAt w q t (.slice ad n c) w2):=by
   refine HC.out.mono fun e w1 ⟨he,h1⟩=>⟨he,h1.mono fun e w2 ⟨v,he,ho,_,hq⟩ => ?_⟩
   obtain ⟨a2,c2,hu,_⟩:=ho.form
   subst hu
   exact ⟨a2,c2,he,hq⟩
  clear HC HP h2 HEND
  generalize r.length=rn at *
  go_enter Tryz.func138,Tryz.ntmps138
  go_wp2_with fail
  refine Calls.mono HC1.out ?_
  rintro e w1 ⟨rfl,hD⟩
  have HD:=Lib.hid hD
  clear hD HC1
  go_wp2_with fail
  refine Calls.mono HD.out ?_
  rintro e w2 ⟨a2,c2,rfl,hb2,hr0,hr1⟩
  have HR0:=Lib.hid hr0
  have HB:=Lib.hid hb2
  have f0:=aRow5 hr0
  have f1:=aRow5 hr1
  obtain ⟨⟨_,_,_,_,_⟩,_,_,_,_,_⟩:=f0
  obtain ⟨⟨_,_,_,_,_⟩,_⟩:=f1
  clear HD hr0 hr1 hb2
  go_wp2_with fail
  go_region
  all_goals
   go_wp2_with fail
   refine bodyPost_ret (results_cell_row rfl _ _ w.heap.size 188 (qL q t (.slice ad n c) 0 0) (0,0) _ rfl ?_ Tryz.underlying188 rfl (by kernel_rfl)) rfl ?_
   ·rw [heap_drew']
    exact setCell_row _ (setCell_row _ (setCell_row _ (setCell_row _ (setCell_row _ HR0.out))))
   ·exact ⟨rfl,bl_drew ((put4_below HB.out (Nat.le_refl _) _ _ _ _).setCell (p:=⟨w.heap.size,4,none⟩) (Nat.le_refl _) _)⟩
end Go.Proofs.YtnkilceibkkjlaaGreat
namespace Go.Proofs.YtnkilceibkkjlaaGreat
open Go.RowKit
end Go.Proofs.YtnkilceibkkjlaaGreat
namespace Go.Proofs.YtnkilceibkkjlaaGreat
open Go.RowKit
theorem underE_step (p:ByteArray) (l:List Ent) (k:Nat) (x:Ent) (h:l[k]? = some x):underE p (l.take (k+1))=underE p (l.take k) ++ (if isPre p x.1 then [x] else []):=by
 have e:l.take (k+1)=l.take k ++ [x]:=by rw [List.take_add_one,h]; rfl
 rw [e]
 unfold underE
 rw [List.filter_append]
 cases hp:isPre p x.1 <;> simp [hp]
def RUnderAt (w:World) (p:ByteArray) (l:List Ent) (k:Nat) (v:Value) (wr:World):Prop:=OutAt w wr v (underE p (l.take k)).length (underE p (l.take k))
theorem RUnderAt.yes {w wr:World} {p:ByteArray} {l:List Ent} {k:Nat} {v:Value} (h:RUnderAt w p l k v wr) {x:Ent} (hx:l[k]? = some x) (hp:isPre p x.1=true) {o1 o2:Obj} {v':Value} {w':World}
  (hA:Appended ((wr.alloc o1).alloc o2) 156 2 v (underE p (l.take k)).length 1 (pairV (underE p (l.take k))) [.string x.1,.string x.2] v' w'):RUnderAt w p l (k+1) v' w':=by
 unfold RUnderAt
 rw [underE_step p l k x hx,hp]
 simp only [if_true,List.length_append,List.length_singleton]
 exact ((OutAt.alloc h _).alloc _).next (l2:=[x]) hA
theorem RUnderAt.no {w wr:World} {p:ByteArray} {l:List Ent} {k:Nat} {v:Value} (h:RUnderAt w p l k v wr) {x:Ent} (hx:l[k]? = some x) (hp:isPre p x.1=false) (o:Obj):RUnderAt w p l (k+1) v (wr.alloc o):=by
 unfold RUnderAt
 rw [underE_step p l k x hx,hp]
 simp only [Bool.false_eq_true,if_false,List.append_nil]
 exact OutAt.alloc h _
end Go.Proofs.YtnkilceibkkjlaaGreat
namespace Go.Proofs.YtnkilceibkkjlaaGreat
open Go.RowKit
def parseL:List UInt8→Option (Nat × List Nat)
 | []=>none
 | t :: r=>if t=0 then none else (numsL r).map fun ns=>(t.toNat,ns)
def parseK (k:ByteArray):Option (Nat × List Nat):=parseL k.data.toList
def RetParse (w:World) (R:Option (Nat × List Nat)) (e:Ending) (w':World):Prop:=Below w.heap.size w w' ∧
 match R with
 | some (t,ns)=>∃ v,e = .returned (.tuple #[.int .i64 t,v,.bool true])∧Own w' 3 1 v ns.length (ns.map fun (n:Nat)=>Value.int .i64 n)∧∀ k,v.ownBlock=some k→w.heap.size≤k
 | none=>e = .returned (.tuple #[.int .i64 0,.slice none 0 0,.bool false])
theorem extract_tail (k:ByteArray):(k.extract 1 k.size).data.toList=k.data.toList.drop 1:=by
 have h:(k.extract 1 k.size).data=k.data.extract 1 k.size:=by simp [ByteArray.data_extract]
 rw [h]
 have e:k.size=k.data.toList.length:=by rw [Array.length_toList]; rfl
 rw [e]
 simp
 rw [List.take_of_length_le (by rw [List.length_tail,e,Array.length_toList]; simp)]
theorem parseK_zero (k:ByteArray) (h:k.size=0):parseK k=none:=by
 obtain ⟨⟨l⟩⟩:=k
 cases l with
 | nil=>rfl
 | cons x r=>simp [ByteArray.size] at h
theorem parseK_some (k:ByteArray) (h:0 < k.size):parseK k=if ((k[0]'h).toNat:Int)=0 then none else (numsL (k.extract 1 k.size).data.toList).map fun ns=>((k[0]'h).toNat,ns):=by
 rw [extract_tail]
 obtain ⟨⟨l⟩⟩:=k
 cases l with
 | nil=>simp [ByteArray.size] at h
 | cons x r =>
  show (if x=0 then none else (numsL r).map fun ns=>(x.toNat,ns))=if ((x.toNat:Nat):Int)=0 then none else (numsL r).map fun ns=>(x.toNat,ns)
  by_cases hx:x=0
  ·subst hx; rfl
  ·rw [if_neg hx,if_neg (fun e=>hx (by apply UInt8.toNat_inj.1; show x.toNat=0; omega))]
theorem isEmpty_pos (k:ByteArray) (h:0 < k.size):k.toList.isEmpty=false:=by
 rw [ByteArray.toList_eq]
 obtain ⟨⟨l⟩⟩:=k
 cases l with
 | nil=>simp [ByteArray.size] at h
 | cons x r=>rfl
theorem parse_any (k:ByteArray) (hk:k.size < 1000000000000) (w:World):Calls Tryz.prog 159 #[.string k] w (RetParse w (parseK k)):=by
 by_cases h0:k.size=0
 ·have HE:Hid (RetParse w (parseK k) (.returned (.tuple #[.int .i64 0,.slice none 0 0,.bool false])) w):=by
   rw [parseK_zero k h0]; exact ⟨Below.refl _ _,rfl⟩
  obtain rfl:k=⟨#[]⟩:=by
   obtain ⟨⟨l⟩⟩:=k
   cases l with
   | nil=>rfl
   | cons x r=>simp [ByteArray.size] at h0
  generalize RetParse w (parseK ⟨#[]⟩)=R at *
  clear h0 hk
  go_enter Tryz.func159,Tryz.ntmps159
  go_wp2_with fail
  exact HE.out
 ·have hlt:0 < k.size:=by omega
  have he:=isEmpty_pos k hlt
  have hP:=parseK_some k hlt
  by_cases hz:((k[0]'hlt).toNat:Int)=0
  ·have HE:Hid (RetParse w (parseK k) (.returned (.tuple #[.int .i64 0,.slice none 0 0,.bool false])) w):=by
    rw [hP,if_pos hz]; exact ⟨Below.refl _ _,rfl⟩
   have hzb:(((k[0]'hlt).toNat:Int) == 0)=true:=by rw [beq_iff_eq]; exact hz
   generalize RetParse w (parseK k)=R at *
   clear hP
   go_enter Tryz.func159,Tryz.ntmps159
   go_wp2_with fail
   exact HE.out
  ·have hzb:(((k[0]'hlt).toNat:Int) == 0)=false:=by rw [beq_eq_false_iff_ne]; exact hz
   rw [if_neg hz] at hP
   have HC:Hid (Calls Tryz.prog 147 #[.string (k.extract 1 k.size)] w fun e w'=>∃ v b,e = .returned (.tuple #[v,.bool b])∧(b=true→RetParse w (parseK k) (.returned (.tuple #[.int .i64 (wrap64 (k[0]'hlt).toNat),v,.bool true])) w')∧(b=false→RetParse w (parseK k) (.returned (.tuple #[.int .i64 0,.slice none 0 0,.bool false])) w')):=by
    have hw:wrap64 ((k[0]'hlt).toNat:Int)=((k[0]'hlt).toNat:Int):=by
     have:=UInt8.toNat_lt (k[0]'hlt)
     unfold wrap64; omega
    rw [hw]
    refine (nums_any (k.extract 1 k.size) (by rw [ByteArray.size_extract]; omega) w).mono fun e w' ⟨hb,hR⟩ => ?_
    rw [hP]
    cases hx:numsL (k.extract 1 k.size).data.toList with
    | none =>
     rw [hx] at hR
     have hR':e = .returned (.tuple #[.slice none 0 0,.bool false]):=hR
     exact ⟨.slice none 0 0,false,hR',fun h=>(by cases h),fun _=>⟨hb,rfl⟩⟩
    | some ns =>
     rw [hx] at hR
     obtain ⟨v,he,ho,hg⟩:=hR
     exact ⟨v,true,he,fun _=>⟨hb,v,rfl,ho,hg⟩,fun h=>(by cases h)⟩
   generalize RetParse w (parseK k)=R at *
   clear hP hz h0 hk
   go_enter Tryz.func159,Tryz.ntmps159
   go_wp2_with fail
   refine Calls.mono HC.out ?_
   rintro e w' ⟨v,b,rfl,hT,hF⟩
   cases b with
   | true =>
    have HT:=Lib.hid (hT rfl)
    clear hT hF HC
    go_wp2_with fail
    exact HT.out
   | false =>
    have HF:=Lib.hid (hF rfl)
    clear hT hF HC
    go_wp2_with fail
    exact HF.out
end Go.Proofs.YtnkilceibkkjlaaGreat
namespace Go.Proofs.YtnkilceibkkjlaaGreat
open Go.RowKit Go.Shelf
theorem filterMap_step {α β:Type} (f:α→Option β) (l:List α) (i:Nat) (x:α) (h:l[i]? = some x):(l.take (i+1)).filterMap f=(l.take i).filterMap f ++ (f x).toList:=by
 rw [take_one_more l i x h,List.filterMap_append]
 cases hf:f x <;> simp [hf]
theorem filterMap_len {α β:Type} (f:α→Option β) (l:List α):(l.filterMap f).length≤l.length:=List.length_filterMap_le ..
def KpR (n₀:Nat) (A B:World):Prop:=Below n₀ A B∧∀ (k:Nat) (cs:Array Value) (t:TypeId) f,A.heap[k]? = some (Obj.cells cs t f)→t≠3→t≠75→B.heap[k]? = A.heap[k]?
theorem KpR.refl (n₀:Nat) (A:World):KpR n₀ A A:=⟨Below.refl _ _,fun _ _ _ _ _ _ _=>rfl⟩
theorem KpR.trans {n₀:Nat} {A B C:World} (h:KpR n₀ A B) (k:KpR n₀ B C):KpR n₀ A C :=
 ⟨h.1.trans k.1,fun j cs t f hj h1 h2=>(k.2 j cs t f (by rw [h.2 j cs t f hj h1 h2]; exact hj) h1 h2).trans (h.2 j cs t f hj h1 h2)⟩
theorem KpR.turn {n₀:Nat} {w:World} (hn:n₀≤w.heap.size) (W:World) (l:Nat) (o o':Obj) (hl:w.heap.size≤l) (h:W.heap[l]? = some o) (hc:o.isCells=false) (hw:o.isWalk=false):KpR n₀ W (W.putObj l o') :=
 ⟨belowK_b hn W l o o' hl h hc hw,fun k cs t f hk _ _=>by
  refine World.putObj_heap_other fun e => ?_
  subst e
  rw [h] at hk
  cases hk
  cases hc⟩
theorem KpR.of_below {n₀:Nat} {A B:World} (h:Below A.heap.size A B) (hn:n₀≤A.heap.size):KpR n₀ A B :=
 ⟨h.mono hn,fun k _ _ _ hk _ _=>h.block k (Array.getElem?_eq_some_iff.1 hk).1⟩
theorem KpR.own {n₀:Nat} {A B:World} (h:KpR n₀ A B) {e size:Nat} {v:Value} {n:Nat} {xs:List Value} (ho:Own A e size v n xs) (h1:e≠3) (h2:e≠75):Own B e size v n xs:=by
 refine ⟨ho.1,?_⟩
 rcases ho.2 with h0 | ⟨g,cap,cur,hv,hg,hr⟩
 ·exact .inl h0
 ·exact .inr ⟨g,cap,cur,hv,by rw [h.2 g _ _ _ hg h1 h2]; exact hg,hr⟩
theorem KpR.box {n₀:Nat} {A B:World} (h:KpR n₀ A B) {k t:Nat} {v:Value} (ho:Boxed A k t v) (h1:t≠3) (h2:t≠75):Boxed B k t v:=(h.2 k _ _ _ ho h1 h2).trans ho
theorem grown_below {A B:World} (h:Below A.heap.size A B):A.grownBy B none:=⟨h.os,h.tape,h.output,h.size,fun k hk _=>h.block k hk⟩
theorem below_then' {A B C:World} (h:Below A.heap.size A B) (k:Below B.heap.size B C):Below A.heap.size A C:=h.trans (k.mono h.size)
end Go.Proofs.YtnkilceibkkjlaaGreat
namespace Go.Proofs.YtnkilceibkkjlaaGreat
open Go.RowKit
def IntsOut (w2:World) (f:List Int) (v:Value) (wr:World):Prop:=Own wr 3 1 v f.length (f.map fun n=>Value.int .i64 n)∧(∀ g,v.ownBlock=some g→w2.heap.size≤g)∧Below w2.heap.size w2 wr
theorem IntsOut.below {w2 wr w':World} {f:List Int} {v:Value} (h:IntsOut w2 f v wr) (hb:Below wr.heap.size wr w'):IntsOut w2 f v w' :=
 ⟨h.1.frame fun k hk=>hb.block k (h.1.lt k hk),h.2.1,h.2.2.trans (hb.mono h.2.2.size)⟩
theorem IntsOut.push {w2 w3 w':World} {f:List Int} {v v':Value} (h:IntsOut w2 f v w3) {o:Obj} {n:Int} (hA:Appended (w3.alloc o) 3 1 v f.length 1 (f.map fun n=>Value.int .i64 n) [.int .i64 n] v' w'):IntsOut w2 (f ++ [n]) v' w':=by
 have h0:=h.below ((Below.refl _ w3).alloc (Nat.le_refl _) o)
 refine ⟨by rw [List.map_append,List.length_append]; exact hA.own,fun g hg => ?_,h0.2.2.grown hA.grown h0.2.2.size h0.2.1⟩
 rcases hA.block g hg with h1 | h1
 ·exact h0.2.1 g h1
 ·exact Nat.le_trans h0.2.2.size h1
theorem IntsOut.form {w2 wr:World} {f:List Int} {v:Value} (h:IntsOut w2 f v wr):∃ a c,v = .slice a f.length c:=by
 obtain ⟨a,c,e,_⟩:=h.1.form
 exact ⟨a,c,e⟩
structure IntsLie (w:World) (a:Option Addr) (l:List Int):Prop where
 at0:∀ k x,l[k]? = some x→∃ g,a=some ⟨g,0,none⟩∧w.cell? ⟨g,k,none⟩=some (.int .i64 x)
theorem IntsLie.below {w w':World} {a:Option Addr} {l:List Int} (h:IntsLie w a l) (hb:Below w.heap.size w w'):IntsLie w' a l :=
 ⟨fun k x hk=>by
  obtain ⟨g,h1,h2⟩:=h.at0 k x hk
  exact ⟨g,h1,by rw [hb.cell (p:=⟨g,k,none⟩) (World.block_lt_of_cell? w _ h2)]; exact h2⟩⟩
end Go.Proofs.YtnkilceibkkjlaaGreat
namespace Go.Proofs.YtnkilceibkkjlaaGreat
open Go.RowKit
def nums2 (k:ByteArray):Option (Nat × Nat):=match parseK k with
 | some (_,[x,y])=>some (x,y)
 | _=>none
theorem parse_n2no {w w':World} {k:ByteArray} {e:Ending} (h:RetParse w (parseK k) e w') (hn:nums2 k=none):∃ (t:Int) (a:Option Addr) (m c:Nat) (ok:Bool),e = .returned (.tuple #[.int .i64 t,.slice a m c,.bool ok])∧((m:Int) == 2)=false:=by
 unfold nums2 at hn
 cases hp:parseK k with
 | none =>
  rw [hp] at h
  obtain ⟨_,he⟩:=h
  exact ⟨0,none,0,0,false,he,by decide⟩
 | some y =>
  obtain ⟨t,ns⟩:=y
  rw [hp] at hn h
  obtain ⟨_,v,he,ho,_⟩:=h
  obtain ⟨a,c,rfl,_⟩:=ho.form
  refine ⟨t,a,ns.length,c,true,he,?_⟩
  rw [beq_eq_false_iff_ne]
  intro e1
  have h1:ns.length=2:=by omega
  match ns,h1 with
  | [_,_],_=>cases hn
theorem one_ints (W:World) (x:Int):IntsAt (W.alloc (.cells #[.int .i64 x] 3)) (.slice (some ⟨W.heap.size,0,none⟩) 1 1) [x] :=
 intsAt_cells (l:=[x]) fun j z hj=>by
  rw [cell_of_row _ _ _ _ _ _ (heap_alloc_new W _)]
  match j,hj with
  | 0,hj=>cases hj; rfl
end Go.Proofs.YtnkilceibkkjlaaGreat
namespace Go.Proofs.YtnkilceibkkjlaaGreat
open Go.RowKit
end Go.Proofs.YtnkilceibkkjlaaGreat
namespace Go.Proofs.YtnkilceibkkjlaaGreat
open Go.RowKit
def St.left (s:St) (t:Int):W4:=s.amt (keyL 19 [t])
def sdC (a m:W4):Bool:=decide (uN a < M128) && decide (uCmp m oneW≤0)
def sdW (a m:W4):W4:=if sdC a m then (if m=(0,0,0,0) then (0,0,0,0) else dnW a sqW m) else (0,0,0,0)
end Go.Proofs.YtnkilceibkkjlaaGreat
namespace Go.Proofs.YtnkilceibkkjlaaGreat
open Go.RowKit
def Ex.good (x:Ex):Bool:=decide (1≤x.st) && (decide (1≤x.sg) && (decide (0≤x.op) && (decide (0≤x.bl) && (decide (x.bl≤1099511627776) && (decide (uN x.wo < M128) && decide (uCmp x.mx oneW≤0))))))
end Go.Proofs.YtnkilceibkkjlaaGreat
namespace Go.Proofs.YtnkilceibkkjlaaGreat
open Go.RowKit
def zeroEx:Ex:=⟨0,0,0,0,(0,0,0,0),(0,0,0,0)⟩
def St.exIs (s:St) (id:Int):Bool:=(rowOf (s.val (keyL 15 [id]))).length == 4
def St.ex (s:St) (id:Int):Ex:=match rowOf (s.val (keyL 15 [id])) with
 | [a,b,c,d]=>⟨a,b,c,d,s.amt (keyL 17 [id]),s.amt (keyL 18 [id])⟩
 | _=>zeroEx
theorem QSt.row {w:World} {h:Hand} {s:St} {f:Nat} (hq:QSt w h s) (hf:s.Fit f) (hm:f < 100000000000) (k:ByteArray):Calls Tryz.prog 75 #[.pointer h.ptr,.string k] w (RetRowG w (rowOf (s.val k))):=by
 have hr:=hq.read hf hm
 obtain ⟨ok,hg⟩:=hr.get k
 exact rowG_any w h.ptr k _ ok hg (hr.vsz k)
end Go.Proofs.YtnkilceibkkjlaaGreat
namespace Go.Proofs.YtnkilceibkkjlaaGreat
open Go.RowKit
theorem hsetInt_q (w:World) (h:Hand) (s:St) (k:ByteArray) (n:Int) (hon:h.on=true) (hn:n < 9223372036854775808) (hq:QSt w h s) (hz:s.size < 1000000000000) :
  Calls Tryz.prog 114 #[.pointer h.ptr,.string k,.int .i64 n] w fun e w'=>e = .returned (.tuple #[])∧QOn w h (s.setInt k n) w':=by
 rcases hq with ⟨_,b,hp,hS⟩ | ⟨h0,_⟩
 ·rw [hp]
  exact (setIntG_any w b s h.L k n hn hS hz).mono fun e w' ⟨he,L',h1,h2⟩=>⟨he,L',.inl ⟨hon,b,hp,h1⟩,h2⟩
 ·rw [hon] at h0; cases h0
def ptB (b:Nat) (a:W4):ByteArray:=numB b ++ amtB a
theorem rg_loadN {ops:Array Oper} {o:Oper} {a:Act} {w:World} {K:Value→World→Prop} {x:Operand} {g k:Nat} {n:Int} (hg:Region.wanted o (yielded ops a.tmps)=true) (ho:o.op = .load 3 x) (hx:a.eval x = .pointer (some ⟨g,k,none⟩)) (hc:w.cell? ⟨g,k,none⟩=some (.int .i64 n)) (hk:K (.int .i64 n) w):rgDo Tryz.prog ops o a w K:=by
 refine rg_value hg ?_ hk
 unfold execOp
 simp only [ho,hx]
 go_simp
def HwPh (h:Hand) (w:World) (s s2:St) (rs:List (Nat × Obj)):Nat→World→Prop
 | 0,W=>HV h w s rs W∧Below w.heap.size w W
 | 1,W=>HV h w s rs W∧Below w.heap.size w W
 | 2,W=>HV h w s rs W∧Below w.heap.size w W
 | 3,W=>HV h w s rs W∧Below w.heap.size w W
 | _+4,W=>HV h w s2 rs W
theorem HwPh.row {h:Hand} {w W:World} {s s2:St} {rs:List (Nat × Obj)} {p:Nat} (hP:HwPh h w s s2 rs p W) {g:Nat} {o:Obj} (hm:(g,o)∈rs):W.heap[g]? = some o:=by
 match p,hP with
 | 0,hP | 1,hP | 2,hP | 3,hP=>exact QV.row hP.1 hm
 | _+4,hP=>exact QV.row hP hm
end Go.Proofs.YtnkilceibkkjlaaGreat
namespace Go.Proofs.YtnkilceibkkjlaaGreat
open Go.RowKit
theorem hmade_q (w:World) (h:Hand) (s:St) (hon:h.on=true) (hq:QSt w h s):Calls Tryz.prog 66 #[.pointer h.ptr] w fun e w'=>e = .returned (.bool true)∧Below w.heap.size w w':=by
 rcases hq with ⟨_,b,hp,hS⟩ | ⟨h0,_⟩
 ·rw [hp]
  exact (made_at w b true hS.cell0).mono fun e w' ⟨he,hw⟩=>⟨he,by subst hw; exact Below.refl _ _⟩
 ·rw [hon] at h0; cases h0
def St.hpL (s:St) (t:Nat) (l:List Int):Nat × W4:=hpt (s.val (keyL t (l ++ [((s.hlen t l:Nat):Int) - 1])))
def St.hnew (s:St) (t:Nat) (l:List Int) (b:Nat) (a:W4):St:=(s.setInt (keyL t l) (((s.hlen t l:Nat):Int)+1)).set (keyL t (l ++ [((s.hlen t l:Nat):Int)])) (ptB b a)
def hpuE (s:St) (t:Nat) (l:List Int) (b:Nat):Int:=if 0 < s.hlen t l∧b < (s.hpL t l).1 then 10 else 0
def hpuSt (s:St) (t:Nat) (l:List Int) (b:Nat) (a:W4):St:=if 0 < s.hlen t l then (if b < (s.hpL t l).1 then s else if b=(s.hpL t l).1 then s.set (keyL t (l ++ [((s.hlen t l:Nat):Int) - 1])) (ptB b a) else if a=(s.hpL t l).2 then s else s.hnew t l b a) else s.hnew t l b a
theorem kpos (t:Nat) {l:List Int} (hpos:∀ x∈l,0≤x) {i:Int} (hi:0≤i):keyL t (l ++ [i])≠emptyB:=keyL_some t fun x hx=>by
 rcases List.mem_append.1 hx with h | h
 ·exact hpos x h
 ·rw [List.mem_singleton] at h; subst h; exact hi
end Go.Proofs.YtnkilceibkkjlaaGreat
