/- What is proved here: plain facts on who is an operator, and who chose whom. No program is named. No condition. -/
import Derived.Test.YtngaogfhijaaaaaGreatCell
import Derived.Test.YtngaogfhijaaaaaGreatRNum
import Derived.Test.YtngaogfhijaaaaaGreatAcc
namespace Go.Proofs.YtngaogfhijaaaaaGreat

def K8 (a : Int) : ByteArray := keyL 8 [a]
def K9 (a : Int) : ByteArray := keyL 9 [a]
def rIs (s : St) (a : Int) : Bool := s.int (K8 a) == 1
def rOf (s : St) (a : Int) : Nat := s.int (K9 a)
def rRegister (s : St) (a : Int) : Int × St := if isB a = false then (2, s) else if rIs s a then (9, s) else if rOf s a ≠ 0 then (10, s) else (0, (s.setInt (K8 a) 1).setInt (K9 a) a)
def rChoose (s : St) (a o : Int) : Int × St := if isB a = false then (2, s) else if rIs s o = false then (8, s) else if rOf s a ≠ 0 then (10, s) else (0, s.setInt (K9 a) o)
def rLeave (s : St) (a : Int) : Int × St := if rOf s a = 0 then (8, s) else if rIs s a then (10, s) else (0, s.del (K9 a))

theorem rRegister_fit {s : St} {m : Nat} (h : s.Fit m) (a : Int) : (rRegister s a).2.Fit (m + 4) := by
  unfold rRegister
  split
  · exact h.mono (by omega)
  · split
    · exact h.mono (by omega)
    · split
      · exact h.mono (by omega)
      · exact (h.setInt _ _).setInt _ _
theorem rChoose_fit {s : St} {m : Nat} (h : s.Fit m) (a o : Int) : (rChoose s a o).2.Fit (m + 4) := by
  unfold rChoose
  split
  · exact h.mono (by omega)
  · split
    · exact h.mono (by omega)
    · split
      · exact h.mono (by omega)
      · exact (h.setInt _ _).mono (by omega)
theorem rLeave_fit {s : St} {m : Nat} (h : s.Fit m) (a : Int) : (rLeave s a).2.Fit (m + 4) := by
  unfold rLeave
  split
  · exact h.mono (by omega)
  · split
    · exact h.mono (by omega)
    · exact (h.del _).mono (by omega)
theorem isB_lt {a : Int} (h : isB a = true) : a < 9223372036854775808 := by
  unfold isB at h
  simp at h
  omega
end Go.Proofs.YtngaogfhijaaaaaGreat
