/- What is proved here: the reference's rounded parts Down and Up. Their condition: words below 2^64. the reference's rounded part Up. Its condition: words below 2^64. the reference's Down and Up of any numbers, in one sentence each; the program's quotient in the same words. Their condition: words below 2^64. the reference's Mul of numbers of 256 bits. Its condition: words below 2^64. the reference's Add of numbers of 25 -/
import Derived.Test.YtnkilceibkkjlaaGreatIRQuo
import Derived.Test.YtnkilceibkkjlaaGreatIDivP
import Derived.Test.YtnkilceibkkjlaaGreatIMQuo
set_option maxRecDepth 100000
set_option maxHeartbeats 16000000
namespace Go.Proofs.YtnkilceibkkjlaaGreat
open Go.RowKit
def dnW (x y z:W4):W4:=if uN z=0 then (0,0,0,0) else toW (uN x*uN y / uN z)
def dnB (x y z:W4):Bool:=decide (uN z≠0) && toB (uN x*uN y / uN z)
def upN (x y z:W4):Nat:=uN x*uN y / uN z+if uN x*uN y % uN z=0 then 0 else 1
def upW (x y z:W4):W4:=if uN z=0 then (0,0,0,0) else toW (upN x y z)
def upB (x y z:W4):Bool:=decide (uN z≠0) && toB (upN x y z)
structure N3 (w:World) (x y z:W4) (wr:World):Prop where
 b:Below w.heap.size w wr
 hx:wr.heap[w.heap.size]? = some (.cells (uL x) 24 (0,0))
 hy:wr.heap[w.heap.size+1]? = some (.cells (uL y) 24 (0,0))
 hz:wr.heap[w.heap.size+2]? = some (.cells (uL z) 24 (0,0))
 hr:wr.heap[w.heap.size+3]? = some (.cells (uL (0,0,0,0)) 24 (0,0))
abbrev w3r (w:World) (x y z:W4):World:=(((w.alloc (.cells (uL x) 24)).alloc (.cells (uL y) 24)).alloc (.cells (uL z) 24)).alloc (.cells #[.int .u64 0,.int .u64 0,.int .u64 0,.int .u64 0] 24)
theorem N3.start (w:World) (x y z:W4):N3 w x y z (w3r w x y z):=by
 refine ⟨bl_alloc (bl_alloc (bl_alloc (bl_alloc (Below.refl _ _) _) _) _) _,?_,?_,?_,?_⟩
 ·rw [heap_alloc_old _ _ (by first | (simp; done) | (simp; omega)),heap_alloc_old _ _ (by first | (simp; done) | (simp; omega)),heap_alloc_old _ _ (by simp)]; exact heap_alloc_new w _
 ·rw [heap_alloc_old _ _ (by first | (simp; done) | (simp; omega)),heap_alloc_old _ _ (by simp)]
  have:=heap_alloc_new (w.alloc (.cells (uL x) 24)) (.cells (uL y) 24)
  rwa [World.size_alloc] at this
 ·rw [heap_alloc_old _ _ (by simp)]
  have:=heap_alloc_new ((w.alloc (.cells (uL x) 24)).alloc (.cells (uL y) 24)) (.cells (uL z) 24)
  rwa [World.size_alloc,World.size_alloc] at this
 ·have:=heap_alloc_new (((w.alloc (.cells (uL x) 24)).alloc (.cells (uL y) 24)).alloc (.cells (uL z) 24)) (.cells #[.int .u64 0,.int .u64 0,.int .u64 0,.int .u64 0] 24)
  rwa [World.size_alloc,World.size_alloc,World.size_alloc] at this
theorem N3.below {w wr w':World} {x y z:W4} (h:N3 w x y z wr) (hb:Below wr.heap.size wr w'):N3 w x y z w' :=
 ⟨bl_then h.b hb,(hb.block _ (lt_of_at h.hx)).trans h.hx,(hb.block _ (lt_of_at h.hy)).trans h.hy,(hb.block _ (lt_of_at h.hz)).trans h.hz,(hb.block _ (lt_of_at h.hr)).trans h.hr⟩
abbrev C3 (w:World) (x y z:W4) (w':World):Prop:=Cel4 w.heap.size x w'∧Cel4 (w.heap.size+1) y w'∧Cel4 (w.heap.size+2) z w'
theorem N3.cel {w wr:World} {x y z:W4} (h:N3 w x y z wr):C3 w x y z wr:=⟨cel4_row h.hx,cel4_row h.hy,cel4_row h.hz⟩
end Go.Proofs.YtnkilceibkkjlaaGreat
namespace Go.Proofs.YtnkilceibkkjlaaGreat
open Go.RowKit
theorem md_dn (x y d:W4):mdQ x y d=dnW x y d∧mdB x y d=dnB x y d:=by
 unfold mdQ mdB dnW dnB toW toB W256
 by_cases h0:uN d=0
 ·rw [h0]; simp
 ·have hd:0 < uN d:=Nat.pos_of_ne_zero h0
  have he:(uN x*uN y / 115792089237316195423570985008687907853269984665640564039457584007913129639936 < uN d)=(uN x*uN y / uN d < 115792089237316195423570985008687907853269984665640564039457584007913129639936):=by
   rw [Nat.div_lt_iff_lt_mul (by decide),Nat.div_lt_iff_lt_mul hd,Nat.mul_comm (uN d)]
  rw [if_neg h0,decide_eq_true h0,Bool.true_and]
  simp only [he,and_self]
theorem dnW_ok (x y d:W4):(dnW x y d).Ok:=by
 unfold dnW toW
 split
 ·exact u0_ok
 ·split
  ·exact uOf_ok _
  ·exact u0_ok
theorem up_of_md (x y d:W4) (hdk:d.Ok):(mdB x y d=false→mdQ x y d=upW x y d∧upB x y d=false)∧(mdB x y d=true→mdR x y d=(0,0,0,0)→mdQ x y d=upW x y d∧upB x y d=true) ∧
  (mdB x y d=true→mdR x y d≠(0,0,0,0)→(if uAddC (mdQ x y d) (1,0,0,0)=0 then uAddS (mdQ x y d) (1,0,0,0) else (0,0,0,0))=upW x y d∧(uAddC (mdQ x y d) (1,0,0,0) == 0)=upB x y d):=by
 by_cases h0:uN d=0
 ·unfold mdB mdQ mdR upW upB; rw [h0]; simp
 ·have hd:0 < uN d:=Nat.pos_of_ne_zero h0
  have he:(uN x*uN y / 115792089237316195423570985008687907853269984665640564039457584007913129639936 < uN d)=(uN x*uN y / uN d < 115792089237316195423570985008687907853269984665640564039457584007913129639936):=by
   rw [Nat.div_lt_iff_lt_mul (by decide),Nat.div_lt_iff_lt_mul hd,Nat.mul_comm (uN d)]
  unfold mdB mdQ mdR upW upB upN toW toB W256
  simp only [he,if_neg h0,decide_eq_true h0,Bool.true_and,decide_eq_false_iff_not,decide_eq_true_eq]
  have hrl:=Nat.mod_lt (uN x*uN y) hd
  have hdl:=uN_lt hdk
  generalize hq:uN x*uN y / uN d=q at *
  generalize hr:uN x*uN y % uN d=r at *
  refine ⟨fun h => ?_,fun h hr0 => ?_,fun h hr0 => ?_⟩
  ·rw [if_neg h]
   have:¬ q+(if r=0 then 0 else 1) < 115792089237316195423570985008687907853269984665640564039457584007913129639936:=by omega
   rw [if_neg this]; exact ⟨rfl,by simpa using this⟩
  ·rw [if_pos h] at hr0
   have hr1:=u0_iff.1 hr0
   rw [uN_of (by omega)] at hr1
   rw [if_pos hr1,Nat.add_zero,if_pos h]; exact ⟨rfl,by simpa using h⟩
  ·rw [if_pos h] at hr0
   have hr1:r≠0:=fun e=>hr0 (by rw [e]; rfl)
   rw [if_neg hr1,if_pos h]
   have h1:uN ((1,0,0,0):W4)=1:=rfl
   have hc:uAddC (uOf q) (1,0,0,0)=0↔q+1 < 115792089237316195423570985008687907853269984665640564039457584007913129639936:=by
    rw [uAddC_iff,uN_of h,h1]
   by_cases hq1:q+1 < 115792089237316195423570985008687907853269984665640564039457584007913129639936
   ·rw [if_pos hq1,if_pos (hc.2 hq1),uAddS_of,uN_of h,h1]
    exact ⟨rfl,by simp [hc.2 hq1,hq1]⟩
   ·have hn:¬ uAddC (uOf q) (1,0,0,0)=0:=fun e=>hq1 (hc.1 e)
    rw [if_neg hq1,if_neg hn]
    exact ⟨rfl,by simp [hn,hq1]⟩
end Go.Proofs.YtnkilceibkkjlaaGreat
namespace Go.Proofs.YtnkilceibkkjlaaGreat
open Go.RowKit
end Go.Proofs.YtnkilceibkkjlaaGreat
