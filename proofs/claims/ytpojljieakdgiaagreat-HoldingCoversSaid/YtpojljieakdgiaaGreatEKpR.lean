/- What is proved here: the reference's Under: the entries whose keys begin so. Its condition: fewer than 10^12 entries. keys.Parse and the reference's own, at any key. Their condition: a key shorter than 10^12 bytes. what a loop's body over an iterator may write: rows of ints and boxes of slices of ints alone. No program's function is named. No condition. the reference's Ints at two slices of the same numbers: true. Its -/
import Derived.Test.YtpojljieakdgiaaGreatEUnder
import Derived.Test.YtpojljieakdgiaaGreatERNum
import Derived.Test.YtpojljieakdgiaaGreatEBl
import Derived.RangeFuncNested
import Derived.RangeFuncBound
import Derived.RangeFuncCalls
import Derived.RangeFuncLeaves
import Derived.RangeFuncBox
import Derived.Shelf.Abstract
import Derived.Shelf.RegionOpen
import Derived.WalkKit
import Derived.OwnWalkIn
import Derived.TacticsInMore
import Derived.LoopNIn
import Derived.LoopIn
import Derived.Maps.AppendAt
set_option maxRecDepth 100000
set_option maxHeartbeats 16000000
namespace Go.Proofs.YtpojljieakdgiaaGreat
open Go.RowKit
theorem underE_step (p:ByteArray) (l:List Ent) (k:Nat) (x:Ent) (h:l[k]? = some x):underE p (l.take (k+1))=underE p (l.take k) ++ (if isPre p x.1 then [x] else []):=by
 have e:l.take (k+1)=l.take k ++ [x]:=by rw [List.take_add_one,h]; rfl
 rw [e]
 unfold underE
 rw [List.filter_append]
 cases hp:isPre p x.1 <;> simp [hp]
def RUnderAt (w:World) (p:ByteArray) (l:List Ent) (k:Nat) (v:Value) (wr:World):Prop:=OutAt w wr v (underE p (l.take k)).length (underE p (l.take k))
theorem RUnderAt.yes {w wr:World} {p:ByteArray} {l:List Ent} {k:Nat} {v:Value} (h:RUnderAt w p l k v wr) {x:Ent} (hx:l[k]? = some x) (hp:isPre p x.1=true) {o1 o2:Obj} {v':Value} {w':World}
  (hA:Appended ((wr.alloc o1).alloc o2) 137 2 v (underE p (l.take k)).length 1 (pairV (underE p (l.take k))) [.string x.1,.string x.2] v' w'):RUnderAt w p l (k+1) v' w':=by
 unfold RUnderAt
 rw [underE_step p l k x hx,hp]
 simp only [if_true,List.length_append,List.length_singleton]
 exact ((OutAt.alloc h _).alloc _).next (l2:=[x]) hA
theorem RUnderAt.no {w wr:World} {p:ByteArray} {l:List Ent} {k:Nat} {v:Value} (h:RUnderAt w p l k v wr) {x:Ent} (hx:l[k]? = some x) (hp:isPre p x.1=false) (o:Obj):RUnderAt w p l (k+1) v (wr.alloc o):=by
 unfold RUnderAt
 rw [underE_step p l k x hx,hp]
 simp only [Bool.false_eq_true,if_false,List.append_nil]
 exact OutAt.alloc h _
end Go.Proofs.YtpojljieakdgiaaGreat
namespace Go.Proofs.YtpojljieakdgiaaGreat
open Go.RowKit
def parseL:List UInt8→Option (Nat × List Nat)
 | []=>none
 | t :: r=>if t=0 then none else (numsL r).map fun ns=>(t.toNat,ns)
def parseK (k:ByteArray):Option (Nat × List Nat):=parseL k.data.toList
def RetParse (w:World) (R:Option (Nat × List Nat)) (e:Ending) (w':World):Prop:=Below w.heap.size w w' ∧
 match R with
 | some (t,ns)=>∃ v,e = .returned (.tuple #[.int .i64 t,v,.bool true])∧Own w' 3 1 v ns.length (ns.map fun (n:Nat)=>Value.int .i64 n)∧∀ k,v.ownBlock=some k→w.heap.size≤k
 | none=>e = .returned (.tuple #[.int .i64 0,.slice none 0 0,.bool false])
theorem extract_tail (k:ByteArray):(k.extract 1 k.size).data.toList=k.data.toList.drop 1:=by
 have h:(k.extract 1 k.size).data=k.data.extract 1 k.size:=by simp [ByteArray.data_extract]
 rw [h]
 have e:k.size=k.data.toList.length:=by rw [Array.length_toList]; rfl
 rw [e]
 simp
 rw [List.take_of_length_le (by rw [List.length_tail,e,Array.length_toList]; simp)]
theorem parseK_zero (k:ByteArray) (h:k.size=0):parseK k=none:=by
 obtain ⟨⟨l⟩⟩:=k
 cases l with
 | nil=>rfl
 | cons x r=>simp [ByteArray.size] at h
theorem parseK_some (k:ByteArray) (h:0 < k.size):parseK k=if ((k[0]'h).toNat:Int)=0 then none else (numsL (k.extract 1 k.size).data.toList).map fun ns=>((k[0]'h).toNat,ns):=by
 rw [extract_tail]
 obtain ⟨⟨l⟩⟩:=k
 cases l with
 | nil=>simp [ByteArray.size] at h
 | cons x r =>
  show (if x=0 then none else (numsL r).map fun ns=>(x.toNat,ns))=if ((x.toNat:Nat):Int)=0 then none else (numsL r).map fun ns=>(x.toNat,ns)
  by_cases hx:x=0
  ·subst hx; rfl
  ·rw [if_neg hx,if_neg (fun e=>hx (by apply UInt8.toNat_inj.1; show x.toNat=0; omega))]
theorem isEmpty_pos (k:ByteArray) (h:0 < k.size):k.toList.isEmpty=false:=by
 rw [ByteArray.toList_eq]
 obtain ⟨⟨l⟩⟩:=k
 cases l with
 | nil=>simp [ByteArray.size] at h
 | cons x r=>rfl
theorem parse_any (k:ByteArray) (hk:k.size < 1000000000000) (w:World):Calls Tryz.prog 87 #[.string k] w (RetParse w (parseK k)):=by
 by_cases h0:k.size=0
 ·have HE:Hid (RetParse w (parseK k) (.returned (.tuple #[.int .i64 0,.slice none 0 0,.bool false])) w):=by
   rw [parseK_zero k h0]; exact ⟨Below.refl _ _,rfl⟩
  obtain rfl:k=⟨#[]⟩:=by
   obtain ⟨⟨l⟩⟩:=k
   cases l with
   | nil=>rfl
   | cons x r=>simp [ByteArray.size] at h0
  generalize RetParse w (parseK ⟨#[]⟩)=R at *
  clear h0 hk
  go_enter Tryz.func87,Tryz.ntmps87
  go_wp2_with fail
  exact HE.out
 ·have hlt:0 < k.size:=by omega
  have he:=isEmpty_pos k hlt
  have hP:=parseK_some k hlt
  by_cases hz:((k[0]'hlt).toNat:Int)=0
  ·have HE:Hid (RetParse w (parseK k) (.returned (.tuple #[.int .i64 0,.slice none 0 0,.bool false])) w):=by
    rw [hP,if_pos hz]; exact ⟨Below.refl _ _,rfl⟩
   have hzb:(((k[0]'hlt).toNat:Int) == 0)=true:=by rw [beq_iff_eq]; exact hz
   generalize RetParse w (parseK k)=R at *
   clear hP
   go_enter Tryz.func87,Tryz.ntmps87
   go_wp2_with fail
   exact HE.out
  ·have hzb:(((k[0]'hlt).toNat:Int) == 0)=false:=by rw [beq_eq_false_iff_ne]; exact hz
   rw [if_neg hz] at hP
   have HC:Hid (Calls Tryz.prog 160 #[.string (k.extract 1 k.size)] w fun e w'=>∃ v b,e = .returned (.tuple #[v,.bool b])∧(b=true→RetParse w (parseK k) (.returned (.tuple #[.int .i64 (wrap64 (k[0]'hlt).toNat),v,.bool true])) w')∧(b=false→RetParse w (parseK k) (.returned (.tuple #[.int .i64 0,.slice none 0 0,.bool false])) w')):=by
    have hw:wrap64 ((k[0]'hlt).toNat:Int)=((k[0]'hlt).toNat:Int):=by
     have:=UInt8.toNat_lt (k[0]'hlt)
     unfold wrap64; omega
    rw [hw]
    refine (nums_any (k.extract 1 k.size) (by rw [ByteArray.size_extract]; omega) w).mono fun e w' ⟨hb,hR⟩ => ?_
    rw [hP]
    cases hx:numsL (k.extract 1 k.size).data.toList with
    | none =>
     rw [hx] at hR
     have hR':e = .returned (.tuple #[.slice none 0 0,.bool false]):=hR
     exact ⟨.slice none 0 0,false,hR',fun h=>(by cases h),fun _=>⟨hb,rfl⟩⟩
    | some ns =>
     rw [hx] at hR
     obtain ⟨v,he,ho,hg⟩:=hR
     exact ⟨v,true,he,fun _=>⟨hb,v,rfl,ho,hg⟩,fun h=>(by cases h)⟩
   generalize RetParse w (parseK k)=R at *
   clear hP hz h0 hk
   go_enter Tryz.func87,Tryz.ntmps87
   go_wp2_with fail
   refine Calls.mono HC.out ?_
   rintro e w' ⟨v,b,rfl,hT,hF⟩
   cases b with
   | true =>
    have HT:=Lib.hid (hT rfl)
    clear hT hF HC
    go_wp2_with fail
    exact HT.out
   | false =>
    have HF:=Lib.hid (hF rfl)
    clear hT hF HC
    go_wp2_with fail
    exact HF.out
end Go.Proofs.YtpojljieakdgiaaGreat
namespace Go.Proofs.YtpojljieakdgiaaGreat
open Go.RowKit Go.Shelf
theorem filterMap_step {α β:Type} (f:α→Option β) (l:List α) (i:Nat) (x:α) (h:l[i]? = some x):(l.take (i+1)).filterMap f=(l.take i).filterMap f ++ (f x).toList:=by
 rw [take_one_more l i x h,List.filterMap_append]
 cases hf:f x <;> simp [hf]
theorem filterMap_len {α β:Type} (f:α→Option β) (l:List α):(l.filterMap f).length≤l.length:=List.length_filterMap_le ..
def KpR (n₀:Nat) (A B:World):Prop:=Below n₀ A B∧∀ (k:Nat) (cs:Array Value) (t:TypeId) f,A.heap[k]? = some (Obj.cells cs t f)→t≠3→t≠69→B.heap[k]? = A.heap[k]?
theorem KpR.refl (n₀:Nat) (A:World):KpR n₀ A A:=⟨Below.refl _ _,fun _ _ _ _ _ _ _=>rfl⟩
theorem KpR.trans {n₀:Nat} {A B C:World} (h:KpR n₀ A B) (k:KpR n₀ B C):KpR n₀ A C :=
 ⟨h.1.trans k.1,fun j cs t f hj h1 h2=>(k.2 j cs t f (by rw [h.2 j cs t f hj h1 h2]; exact hj) h1 h2).trans (h.2 j cs t f hj h1 h2)⟩
theorem KpR.turn {n₀:Nat} {w:World} (hn:n₀≤w.heap.size) (W:World) (l:Nat) (o o':Obj) (hl:w.heap.size≤l) (h:W.heap[l]? = some o) (hc:o.isCells=false) (hw:o.isWalk=false):KpR n₀ W (W.putObj l o') :=
 ⟨belowK_b hn W l o o' hl h hc hw,fun k cs t f hk _ _=>by
  refine World.putObj_heap_other fun e => ?_
  subst e
  rw [h] at hk
  cases hk
  cases hc⟩
theorem KpR.of_below {n₀:Nat} {A B:World} (h:Below A.heap.size A B) (hn:n₀≤A.heap.size):KpR n₀ A B :=
 ⟨h.mono hn,fun k _ _ _ hk _ _=>h.block k (Array.getElem?_eq_some_iff.1 hk).1⟩
theorem KpR.own {n₀:Nat} {A B:World} (h:KpR n₀ A B) {e size:Nat} {v:Value} {n:Nat} {xs:List Value} (ho:Own A e size v n xs) (h1:e≠3) (h2:e≠69):Own B e size v n xs:=by
 refine ⟨ho.1,?_⟩
 rcases ho.2 with h0 | ⟨g,cap,cur,hv,hg,hr⟩
 ·exact .inl h0
 ·exact .inr ⟨g,cap,cur,hv,by rw [h.2 g _ _ _ hg h1 h2]; exact hg,hr⟩
end Go.Proofs.YtpojljieakdgiaaGreat
namespace Go.Proofs.YtpojljieakdgiaaGreat
open Go.RowKit
def IntsOut (w2:World) (f:List Int) (v:Value) (wr:World):Prop:=Own wr 3 1 v f.length (f.map fun n=>Value.int .i64 n)∧(∀ g,v.ownBlock=some g→w2.heap.size≤g)∧Below w2.heap.size w2 wr
theorem IntsOut.below {w2 wr w':World} {f:List Int} {v:Value} (h:IntsOut w2 f v wr) (hb:Below wr.heap.size wr w'):IntsOut w2 f v w' :=
 ⟨h.1.frame fun k hk=>hb.block k (h.1.lt k hk),h.2.1,h.2.2.trans (hb.mono h.2.2.size)⟩
theorem IntsOut.push {w2 w3 w':World} {f:List Int} {v v':Value} (h:IntsOut w2 f v w3) {o:Obj} {n:Int} (hA:Appended (w3.alloc o) 3 1 v f.length 1 (f.map fun n=>Value.int .i64 n) [.int .i64 n] v' w'):IntsOut w2 (f ++ [n]) v' w':=by
 have h0:=h.below ((Below.refl _ w3).alloc (Nat.le_refl _) o)
 refine ⟨by rw [List.map_append,List.length_append]; exact hA.own,fun g hg => ?_,h0.2.2.grown hA.grown h0.2.2.size h0.2.1⟩
 rcases hA.block g hg with h1 | h1
 ·exact h0.2.1 g h1
 ·exact Nat.le_trans h0.2.2.size h1
theorem IntsOut.form {w2 wr:World} {f:List Int} {v:Value} (h:IntsOut w2 f v wr):∃ a c,v = .slice a f.length c:=by
 obtain ⟨a,c,e,_⟩:=h.1.form
 exact ⟨a,c,e⟩
structure IntsLie (w:World) (a:Option Addr) (l:List Int):Prop where
 at0:∀ k x,l[k]? = some x→∃ g,a=some ⟨g,0,none⟩∧w.cell? ⟨g,k,none⟩=some (.int .i64 x)
theorem IntsLie.below {w w':World} {a:Option Addr} {l:List Int} (h:IntsLie w a l) (hb:Below w.heap.size w w'):IntsLie w' a l :=
 ⟨fun k x hk=>by
  obtain ⟨g,h1,h2⟩:=h.at0 k x hk
  exact ⟨g,h1,by rw [hb.cell (p:=⟨g,k,none⟩) (World.block_lt_of_cell? w _ h2)]; exact h2⟩⟩
end Go.Proofs.YtpojljieakdgiaaGreat
