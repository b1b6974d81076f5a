/- What is proved here: package factor of the program: Good, Worth, factor, Grow, Move. Their condition: words below 2^64. factor's own factor of the program. Its condition: an amount of shares, a fraction as the magnitude. -/
import Derived.Test.YtnkilceibkkjlaaGreatIMUp
set_option maxRecDepth 100000
set_option maxHeartbeats 16000000
namespace Go.Proofs.YtnkilceibkkjlaaGreat
open Go.RowKit
theorem uCmp_le0 {x y:W4}:uCmp x y≤0↔uN x≤uN y:=by
 unfold uCmp
 split
 ·omega
 ·split <;> omega
theorem VP.p0 {w wr:World} {l:List W4} {n:Nat} {g:Nat} {x:W4} {ps:List (Nat × W4)} (h:VP w l n ((g,x) :: ps) wr):wr.heap[g]? = some (.cells (uL x) 24 (0,0)):=(h.p g x (by simp)).2
theorem VP.p1 {w wr:World} {l:List W4} {n:Nat} {g g':Nat} {x x':W4} {ps:List (Nat × W4)} (h:VP w l n ((g',x') :: (g,x) :: ps) wr):wr.heap[g]? = some (.cells (uL x) 24 (0,0)):=(h.p g x (by simp)).2
theorem sq_nat:uN sqW=1000000000000000000000000000000000000:=uN_of (by decide)
def goodB (d f m:W4):Bool:=decide (uN d < M128) && (decide (uN f≤1000000000000000000000000000000000000) && decide (uN m≤1000000000000000000))
def worthN (d f m:W4):Nat:=uN d*uN f*uN m / 1000000000000000000000000000000000000
def facN (w d m:W4):Nat:=uN w*1000000000000000000000000000000000000 / (uN d*uN m)
def facB (w d m:W4):Bool:=decide (0 < facN w d m) && decide (facN w d m≤1000000000000000000000000000000000000)
def facW (w d m:W4):W4:=if facB w d m then uOf (facN w d m) else (0,0,0,0)
abbrev bRow (b:Bool):Obj:=.cells #[.bool b] 4
structure FcAt (w:World) (l:List W4) (wr:World):Prop where
 v:VP w l 3 [] wr
 t:wr.heap[w.heap.size+4]? = some (bRow true)
theorem FcAt.below {w wr w':World} {l:List W4} (h:FcAt w l wr) (hb:Below wr.heap.size wr w'):FcAt w l w':=⟨h.v.below hb,(hb.block _ (lt_of_at h.t)).trans h.t⟩
theorem FcAt.keep {w wr:World} {l:List W4} {q:W4} {g:Nat} (h:FcAt w l wr) (hg:w.heap.size+5≤g):FcAt w l (wr.setRow g (uL q)) :=
 ⟨⟨h.v.vr.keep (by omega),fun _ _ hx=>by cases hx⟩,(setRow_other _ _ _ _ (by omega)).trans h.t⟩
theorem FcAt.lt {w wr:World} {l:List W4} (h:FcAt w l wr):w.heap.size+4 < wr.heap.size:=lt_of_at h.t
theorem FcAt.start {w wr:World} {x y m:W4} (h:VP w [x,y,m] 3 [] wr) (hs:wr.heap.size=w.heap.size+4):FcAt w [x,y,m] (wr.alloc (bRow true)):=by
 refine ⟨h.below (bl_alloc (Below.refl _ _) _),?_⟩
 rw [← hs]; exact heap_alloc_new wr _
structure FcQ (w:World) (l:List W4) (g:Nat) (f:W4) (wr:World):Prop where
 v:VP w l 3 [(g,f)] wr
 t:wr.heap[w.heap.size+4]? = some (bRow true)
theorem FcQ.below {w wr w':World} {l:List W4} {g:Nat} {f:W4} (h:FcQ w l g f wr) (hb:Below wr.heap.size wr w'):FcQ w l g f w':=⟨h.v.below hb,(hb.block _ (lt_of_at h.t)).trans h.t⟩
theorem FcQ.p {w wr:World} {l:List W4} {g:Nat} {f:W4} (h:FcQ w l g f wr):wr.heap[g]? = some (.cells (uL f) 24 (0,0)):=h.v.p0
end Go.Proofs.YtnkilceibkkjlaaGreat
