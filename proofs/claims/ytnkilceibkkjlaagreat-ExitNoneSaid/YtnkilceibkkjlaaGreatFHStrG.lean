/- What is proved here: Strategies of the program: a holder's strategies, in the order of the keys. Its conditions: numbers below 2^63, sizes. Strategies of the reference: a holder's strategies, in the order of the keys. Its conditions: numbers below 2^63, sizes. -/
import Derived.Test.YtnkilceibkkjlaaGreatFHoldB
import Derived.Test.YtnkilceibkkjlaaGreatFKpR
set_option maxRecDepth 100000
set_option maxHeartbeats 16000000
namespace Go.Proofs.YtnkilceibkkjlaaGreat
open Go.RowKit
theorem one_ints (W:World) (x:Int):IntsAt (W.alloc (.cells #[.int .i64 x] 3)) (.slice (some ⟨W.heap.size,0,none⟩) 1 1) [x] :=
 intsAt_cells (l:=[x]) fun j z hj=>by
  rw [cell_of_row _ _ _ _ _ _ (heap_alloc_new W _)]
  match j,hj with
  | 0,hj=>cases hj; rfl
theorem under_q (w:World) (h:Hand) (s:St) (p:ByteArray) (hq:QSt w h s) (hz:s.size < 1000000000000):Calls Tryz.prog 101 #[.pointer h.ptr,.string p] w (RetPairs w (underE p s.ents)):=by
 rcases hq with ⟨_,b,hp,hS⟩ | ⟨_,hN,hs,_⟩
 ·rw [hp]; exact under_any w b s h.L p hS hz
 ·subst hs; exact under_not w h.ptr p hN
end Go.Proofs.YtnkilceibkkjlaaGreat
