/- What is proved here: no made store: what it has. a store that is read: made, or not. No condition but sizes. small general facts on worlds that have more below, on short rows of ints, on results that lie in cells. No condition. -/
import Derived.Test.YtpojljieakdgiaaGreatEUnder
import Derived.Test.YtpojljieakdgiaaGreatECell
import Derived.Laws.ResultCell
import Derived.Laws.Rows
set_option maxRecDepth 100000
set_option maxHeartbeats 16000000
namespace Go.Proofs.YtpojljieakdgiaaGreat
open Go.RowKit
def NoStore (w:World) (q:Option Addr):Prop:=q=none∨∃ b,q=some ⟨b,0,none⟩∧b < w.heap.size∧w.cell? ⟨b,0,none⟩=some (.bool false)
theorem NoStore.get {w:World} {q:Option Addr} (h:NoStore w q) (k:ByteArray):GetIs w q k emptyB false:=by
 rcases h with rfl | ⟨b,rfl,_,hc⟩
 ·exact get_nil w k
 ·exact get_zero w b k hc
theorem NoStore.made {w:World} {q:Option Addr} (h:NoStore w q):Calls Tryz.prog 95 #[.pointer q] w fun e w'=>e = .returned (.bool false)∧w=w':=by
 rcases h with rfl | ⟨b,rfl,_,hc⟩
 ·exact made_nil w
 ·exact made_at w b false hc
theorem NoStore.below {w w':World} {q:Option Addr} (h:NoStore w q) (hb:Below w.heap.size w w'):NoStore w' q:=by
 rcases h with rfl | ⟨b,rfl,hl,hc⟩
 ·exact .inl rfl
 ·exact .inr ⟨b,rfl,Nat.lt_of_lt_of_le hl hb.size,by rw [hb.cell hl]; exact hc⟩
theorem under_not (w:World) (q:Option Addr) (p:ByteArray) (h:NoStore w q):Calls Tryz.prog 85 #[.pointer q,.string p] w (RetPairs w []):=by
 have HI:Hid (Calls Tryz.prog 123 #[.pointer q] w fun e w'=>e = .returned (.bool false)∧w=w'):=by
  rcases h with rfl | ⟨b,rfl,_,hc⟩
  ·exact is_nil w
  ·exact is_at w b false hc
 clear h
 go_enter Tryz.func85,Tryz.ntmps85
 go_wp2_with (go_at_call 123; refine HI.out.mono ?_; rintro e w' ⟨rfl,rfl⟩)
 go_ret
 exact ⟨_,rfl,OutAt.start w⟩
def ReadAt (n:Nat) (w:World) (q:Option Addr) (s:St):Prop :=
 (∃ b L,q=some ⟨b,0,none⟩∧SRep w b s L∧s.size < 1000000000000∧(∀ k,(s.val k).size < 1000000000000)∧∀ k∈L,k < n)∨(NoStore w q∧(∀ a,q=some a→a.block < n)∧s=⟨[],[]⟩)
theorem ReadAt.int {n:Nat} {w:World} {q:Option Addr} {s:St} (h:ReadAt n w q s) (k:ByteArray):Calls Tryz.prog 97 #[.pointer q,.string k] w (RetInt w (s.int k)):=by
 rcases h with ⟨b,L,rfl,h,_,hv,_⟩ | ⟨h,_,rfl⟩
 ·exact int_at w b s L k h (hv k)
 ·exact (int_none w q k (h.get k)).mono fun e w' ⟨he,hw⟩=>⟨he,by subst hw; exact Below.refl _ _⟩
theorem ReadAt.below {n:Nat} {w w':World} {q:Option Addr} {s:St} (h:ReadAt n w q s) (hb:Below n w w'):ReadAt n w' q s:=by
 rcases h with ⟨b,L,rfl,h,hz,hv,hl⟩ | ⟨h,hl,rfl⟩
 ·exact .inl ⟨b,L,rfl,h.frame fun k hk=>hb.block k (hl k hk),hz,hv,hl⟩
 ·refine .inr ⟨?_,hl,rfl⟩
  rcases h with rfl | ⟨b,rfl,hlt,hc⟩
  ·exact .inl rfl
  ·exact .inr ⟨b,rfl,Nat.lt_of_lt_of_le hlt hb.size,by rw [hb.cell (hl _ rfl)]; exact hc⟩
theorem ReadAt.made {w:World} {b:Nat} {s:St} {L:List Nat} {m:Nat} (h:SRep w b s L) (hf:s.Fit m) (hm:m < 100000000000):ReadAt w.heap.size w (some ⟨b,0,none⟩) s :=
 .inl ⟨b,L,rfl,h,by have:=hf.size; omega,fun k=>hf.val' k,h.lt⟩
theorem ReadAt.not {w:World} {q:Option Addr} (h:NoStore w q):ReadAt w.heap.size w q ⟨[],[]⟩:=by
 refine .inr ⟨h,fun a ha => ?_,rfl⟩
 rcases h with rfl | ⟨b,rfl,hl,_⟩
 ·cases ha
 ·cases ha; exact hl
theorem intsAt_cells {w:World} {g:Nat} {l:List Int} (h:∀ j x,l[j]? = some x→w.cell? ⟨g,j,none⟩=some (.int .i64 x)):IntsAt w (.slice (some ⟨g,0,none⟩) l.length l.length) l :=
 .inr ⟨_,_,rfl,fun j x hj=>by rw [Addr.add_lit,Nat.zero_add]; exact h j x hj⟩
theorem bl_alloc {w W:World} (h:Below w.heap.size w W) (o:Obj):Below w.heap.size w (W.alloc o):=h.alloc h.size o
theorem bl_drew {w W:World} (h:Below w.heap.size w W):Below w.heap.size w W.drew:=⟨h.os,h.tape,h.output,h.size,h.block⟩
theorem bl_then {w W W':World} (h:Below w.heap.size w W) (hb:Below W.heap.size W W'):Below w.heap.size w W':=h.trans (hb.mono h.size)
theorem bl_cell {W W':World} (hb:Below W.heap.size W W') {p:Addr} {v:Value} (h:W.cell? p=some v):W'.cell? p=some v:=by
 rw [hb.cell (World.block_lt_of_cell? W _ h)]; exact h
def NoE (s:St):Prop:=s.val emptyB=emptyB
theorem NoE.put {s:St} (h:NoE s) (hs:Sorted s.ents) {k v:ByteArray} (hk:k≠emptyB):NoE (s.put k v):=by
 unfold NoE
 rw [val_put s hs k v emptyB hk,if_neg hk]; exact h
theorem keyL_some (t:Nat) {l:List Int} (h:∀ x∈l,0≤x):keyL t l≠emptyB:=fun e=>by
 have:=congrArg ByteArray.size e
 rw [keyL_pos (by intro x hx; have:=h x hx; omega)] at this
 have h1:(⟨(keyBytes t l).toArray⟩:ByteArray).size=1+8*l.length:=by
  show (keyBytes t l).toArray.size=_
  rw [List.size_toArray,keyBytes_len]
 rw [h1] at this
 have h2:emptyB.size=0:=rfl
 omega
theorem two_ints (W:World) (x y:Int):IntsAt (W.alloc (.cells #[.int .i64 x,.int .i64 y] 3)) (.slice (some ⟨W.heap.size,0,none⟩) 2 2) [x,y] :=
 intsAt_cells (l:=[x,y]) fun j z hj=>by
  rw [cell_of_row _ _ _ _ _ _ (heap_alloc_new W _)]
  match j,hj with
  | 0,hj=>cases hj; rfl
  | 1,hj=>cases hj; rfl
theorem results_cell_row2 {P:Program} {fn:Func} {p u:Tmp} {ty:TypeId} (h:fn.results = #[.cell p ty,.tmp u]) (tmps:Array Value) (w:World) (g:Nat) (t:TypeId) (cs:Array Value) (fr:Nat × Nat) (d:TypeDesc)
  (hp:tmps.getD p undef = .pointer (some ⟨g,0,none⟩)) (hg:w.heap[g]? = some (.cells cs t fr))
  (hu:P.underlying ty=some d) (hd:(match d with | .struct _ | .array _ _=>true | _=>false)=true) (hi:(P.info? ty).map (·.size)=some cs.size) :
  (results fn tmps).run P w = .ok (.tuple #[.agg cs,tmps.getD u undef]) w:=by
 rw [results_cell_tmp h,hp]
 simp [asAddr,Result.andThen,run_loadVar_row w g t ty cs fr d hg hu hd hi]
theorem setCell_row {w:World} {b off:Nat} {cs:Array Value} {t:TypeId} {fr:Nat × Nat} (v:Value) (h:w.heap[b]? = some (.cells cs t fr)):(w.setCell ⟨b,off,none⟩ v).heap[b]? = some (.cells (cs.setIfInBounds off v) t fr):=by
 rw [setCell_eq_setRow w b off _ _ _ v h]; exact setRow_heap w b _ _ _ _ h
end Go.Proofs.YtpojljieakdgiaaGreat
