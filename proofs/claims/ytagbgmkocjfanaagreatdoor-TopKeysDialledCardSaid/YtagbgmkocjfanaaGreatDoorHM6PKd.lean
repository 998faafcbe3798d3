/-
  KeysAreHeard: samples of tones come back.
-/
import Derived.Test.YtagbgmkocjfanaaGreatDoorHM6Pb
namespace Go.Proofs.YtagbgmkocjfanaaGreatDoor
open Go Go.Abs
set_option maxRecDepth 100000
theorem q_k0 : (toneL 0 820).all qok = true := by kernel_rfl
theorem q_k1 : (toneL 1 820).all qok = true := by kernel_rfl
theorem q_k2 : (toneL 2 820).all qok = true := by kernel_rfl
theorem q_k3 : (toneL 3 820).all qok = true := by kernel_rfl
theorem q_k4 : (toneL 4 820).all qok = true := by kernel_rfl
theorem q_k5 : (toneL 5 820).all qok = true := by kernel_rfl
theorem q_k6 : (toneL 6 820).all qok = true := by kernel_rfl
theorem q_k7 : (toneL 7 820).all qok = true := by kernel_rfl
theorem q_k8 : (toneL 8 820).all qok = true := by kernel_rfl
theorem q_k9 : (toneL 9 820).all qok = true := by kernel_rfl
theorem q_k10 : (toneL 10 820).all qok = true := by kernel_rfl
theorem q_k11 : (toneL 11 820).all qok = true := by kernel_rfl
theorem q_k12 : (toneL 12 820).all qok = true := by kernel_rfl
theorem q_k13 : (toneL 13 820).all qok = true := by kernel_rfl
theorem q_k14 : (toneL 14 820).all qok = true := by kernel_rfl
theorem q_k15 : (toneL 15 820).all qok = true := by kernel_rfl
theorem q_is (k : Nat) (hk : k < 16) : (toneL k 820).all qok = true := by
 rcases (by omega : k = 0 ∨ k = 1 ∨ k = 2 ∨ k = 3 ∨ k = 4 ∨ k = 5 ∨ k = 6 ∨ k = 7 ∨ k = 8 ∨ k = 9 ∨ k = 10 ∨ k = 11 ∨ k = 12 ∨ k = 13 ∨ k = 14 ∨ k = 15) with rfl | rfl | rfl | rfl | rfl | rfl | rfl | rfl | rfl | rfl | rfl | rfl | rfl | rfl | rfl | rfl
 ·exact q_k0
 ·exact q_k1
 ·exact q_k2
 ·exact q_k3
 ·exact q_k4
 ·exact q_k5
 ·exact q_k6
 ·exact q_k7
 ·exact q_k8
 ·exact q_k9
 ·exact q_k10
 ·exact q_k11
 ·exact q_k12
 ·exact q_k13
 ·exact q_k14
 ·exact q_k15
end Go.Proofs.YtagbgmkocjfanaaGreatDoor
