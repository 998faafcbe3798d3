/-
  KeysAreHeard: each block of each key is heard: by the kernel, key by key.
-/
import Derived.Test.YtagbgmkocjfanaaGreatDoorHM6Pb
namespace Go.Proofs.YtagbgmkocjfanaaGreatDoor
open Go Go.Abs
set_option maxRecDepth 100000
theorem ok_zero : (clear (rowN.map (strV · (List.replicate 205 0))) && clear (colN.map (strV · (List.replicate 205 0))) && !decide ((rowN.map (strV · (List.replicate 205 0))).getD (bestN (rowN.map (strV · (List.replicate 205 0))) 4) 0 ≥ 4000000)) = true := by kernel_rfl
theorem ok_k0 : (List.range 4).all (okB 0) = true := by kernel_rfl
theorem ok_k1 : (List.range 4).all (okB 1) = true := by kernel_rfl
theorem ok_k2 : (List.range 4).all (okB 2) = true := by kernel_rfl
theorem ok_k3 : (List.range 4).all (okB 3) = true := by kernel_rfl
theorem ok_k4 : (List.range 4).all (okB 4) = true := by kernel_rfl
theorem ok_k5 : (List.range 4).all (okB 5) = true := by kernel_rfl
theorem ok_k6 : (List.range 4).all (okB 6) = true := by kernel_rfl
theorem ok_k7 : (List.range 4).all (okB 7) = true := by kernel_rfl
theorem ok_k8 : (List.range 4).all (okB 8) = true := by kernel_rfl
theorem ok_k9 : (List.range 4).all (okB 9) = true := by kernel_rfl
theorem ok_k10 : (List.range 4).all (okB 10) = true := by kernel_rfl
theorem ok_k11 : (List.range 4).all (okB 11) = true := by kernel_rfl
theorem ok_k12 : (List.range 4).all (okB 12) = true := by kernel_rfl
theorem ok_k13 : (List.range 4).all (okB 13) = true := by kernel_rfl
theorem ok_k14 : (List.range 4).all (okB 14) = true := by kernel_rfl
theorem ok_k15 : (List.range 4).all (okB 15) = true := by kernel_rfl
theorem ok_is (k j : Nat) (hk : k < 16) (hj : j < 4) : okB k j = true := by
 have h := List.mem_range.2 hj;rcases (by omega : k = 0 ∨ k = 1 ∨ k = 2 ∨ k = 3 ∨ k = 4 ∨ k = 5 ∨ k = 6 ∨ k = 7 ∨ k = 8 ∨ k = 9 ∨ k = 10 ∨ k = 11 ∨ k = 12 ∨ k = 13 ∨ k = 14 ∨ k = 15) with rfl | rfl | rfl | rfl | rfl | rfl | rfl | rfl | rfl | rfl | rfl | rfl | rfl | rfl | rfl | rfl
 ·exact List.all_eq_true.1 ok_k0 j h
 ·exact List.all_eq_true.1 ok_k1 j h
 ·exact List.all_eq_true.1 ok_k2 j h
 ·exact List.all_eq_true.1 ok_k3 j h
 ·exact List.all_eq_true.1 ok_k4 j h
 ·exact List.all_eq_true.1 ok_k5 j h
 ·exact List.all_eq_true.1 ok_k6 j h
 ·exact List.all_eq_true.1 ok_k7 j h
 ·exact List.all_eq_true.1 ok_k8 j h
 ·exact List.all_eq_true.1 ok_k9 j h
 ·exact List.all_eq_true.1 ok_k10 j h
 ·exact List.all_eq_true.1 ok_k11 j h
 ·exact List.all_eq_true.1 ok_k12 j h
 ·exact List.all_eq_true.1 ok_k13 j h
 ·exact List.all_eq_true.1 ok_k14 j h
 ·exact List.all_eq_true.1 ok_k15 j h
end Go.Proofs.YtagbgmkocjfanaaGreatDoor
