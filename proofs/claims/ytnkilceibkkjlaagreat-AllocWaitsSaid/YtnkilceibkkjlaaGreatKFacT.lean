/- What is proved here: package factor of the program: Good, -/
import Derived.Test.YtnkilceibkkjlaaGreatKMUp
set_option maxRecDepth 100000
set_option maxHeartbeats 16000000
namespace Go.Proofs.YtnkilceibkkjlaaGreat
open Go.RowKit
theorem zlc{x y:W4}:uCmp x y<=0↔uN x<=uN y:=by
 unfold uCmp;split
 ·omega
 ·split<;>omega
def q07(d f m:W4):Bool:=decide (uN d<M128)&&(decide (uN f<=1000000000000000000000000000000000000)&&decide (uN m<=1000000000000000000))
def zuh(d f m:W4):Nat:=uN d*uN f*uN m/1000000000000000000000000000000000000
def facN(w d m:W4):Nat:=uN w*1000000000000000000000000000000000000/(uN d*uN m)
def facB(w d m:W4):Bool:=decide (0<facN w d m)&&decide (facN w d m<=1000000000000000000000000000000000000)
def facW(w d m:W4):W4:=if facB w d m then uOf (facN w d m)else(0,0,0,0)
abbrev bRow(b:Bool):Obj:=.cells #[.bool b] 4
structure FcAt (w:World) (l:List W4) (wr:World):Prop where
 v:VP w l 3 [] wr
 t:wr.heap[w.heap.size+4]?=some (bRow true)
structure FcQ (w:World) (l:List W4) (g:Nat) (f:W4) (wr:World):Prop where
 v:VP w l 3 [(g,f)] wr
 t:wr.heap[w.heap.size+4]?=some (bRow true)
end Go.Proofs.YtnkilceibkkjlaaGreat
