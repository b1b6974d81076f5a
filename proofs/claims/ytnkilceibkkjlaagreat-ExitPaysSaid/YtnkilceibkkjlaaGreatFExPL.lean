/- What is proved here: what a withdrawal pays: at most its worth, less at a less magnitude, all of it at its own. Conditions: words below 2^64. -/
import Derived.Test.YtnkilceibkkjlaaGreatFOpenA24
set_option maxRecDepth 100000
set_option maxHeartbeats 16000000
namespace Go.Proofs.YtnkilceibkkjlaaGreat
open Go.RowKit
theorem dn_fit {a t f:W4} (ha:a.Ok) (h:uN t≤uN f) (hf:uN f≠0):uN a*uN t / uN f≤uN a∧uN (dnW a t f)=uN a*uN t / uN f:=by
 have h1:uN a*uN t / uN f≤uN a:=Nat.div_le_of_le_mul (by rw [Nat.mul_comm (uN f)]; exact Nat.mul_le_mul_left _ h)
 have h2:=uN_lt ha
 refine ⟨h1,?_⟩
 unfold dnW toW
 rw [if_neg hf,if_pos (show uN a*uN t / uN f < W256 from Nat.lt_of_le_of_lt h1 h2)]
 exact uN_of (Nat.lt_of_le_of_lt h1 h2)
theorem scW_le {a t f:W4} (ha:a.Ok) (h:uN t≤uN f):uN (scW a t f)≤uN a:=by
 unfold scW; split
 ·exact Nat.zero_le _
 ·rename_i hf
  rw [(dn_fit ha h hf).2]
  exact (dn_fit ha h hf).1
theorem scW_mono {a t u f:W4} (ha:a.Ok) (h:uN t≤uN u) (h2:uN u≤uN f):uN (scW a t f)≤uN (scW a u f):=by
 unfold scW; split
 ·exact Nat.le_refl _
 ·rename_i hf
  rw [(dn_fit ha h2 hf).2,(dn_fit ha (Nat.le_trans h h2) hf).2]
  exact Nat.div_le_div_right (Nat.mul_le_mul_left _ h)
theorem scW_self {a f:W4} (ha:a.Ok) (hf:uN f≠0):scW a f f=a:=by
 refine uN_inj (scW_ok _ _ _) ha ?_
 unfold scW
 rw [if_neg hf,(dn_fit ha (Nat.le_refl _) hf).2]
 exact Nat.mul_div_cancel _ (Nat.pos_of_ne_zero hf)
theorem pays_law (x:Ex) (m n:W4) (hwo:x.wo.Ok) (h1:uN m≤uN n) (h2:uN n≤uN x.mx) :
  uN (paysW x m)≤uN (paysW x n)∧uN (paysW x n)≤uN x.wo∧(x.op=0∨x.mx≠(0,0,0,0)→paysW x x.mx=x.wo)∧(x.op=0→paysW x m=x.wo):=by
 have hp:∀ t,uN t≤uN x.mx→paysW x t=if x.op=0 then x.wo else scW x.wo t x.mx:=fun t ht=>by
  unfold paysW
  rw [if_neg (Nat.not_lt.2 ht)]
 rw [hp m (Nat.le_trans h1 h2),hp n h2,hp x.mx (Nat.le_refl _)]
 by_cases h0:x.op=0
 ·rw [if_pos h0,if_pos h0,if_pos h0]
  exact ⟨Nat.le_refl _,Nat.le_refl _,fun _=>rfl,fun _=>rfl⟩
 ·rw [if_neg h0,if_neg h0,if_neg h0]
  refine ⟨scW_mono hwo h1 h2,scW_le hwo h2,fun h => ?_,fun h=>absurd h h0⟩
  rcases h with h | h
  ·exact absurd h h0
  ·exact scW_self hwo fun e=>h (u0_iff.2 e)
end Go.Proofs.YtnkilceibkkjlaaGreat
