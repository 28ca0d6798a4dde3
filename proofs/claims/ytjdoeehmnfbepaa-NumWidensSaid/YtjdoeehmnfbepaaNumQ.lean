/-
  The walk of NumWidens.
-/
import Derived.Test.YtjdoeehmnfbepaaNumR
namespace Go.Proofs.Ytjdoeehmnfbepaa.Num
open Go.RowKit
set_option linter.unusedVariables false

set_option maxHeartbeats 1000000 in
theorem widens_walk (a0 : Int) (w0 : (Lit.int .i64 a0).wf = true) (w : World) : Calls Try.prog 9 #[.int .i64 a0] w fun e w' => e = .returned (.bool true) ∧ Below w.heap.size w w' := by
  clear w0
  obtain ⟨A, hA⟩ : ∃ A, wrappedV 2 a0 = A := ⟨_, rfl⟩
  obtain ⟨B, hB⟩ : ∃ B, wrappedV 3 a0 = B := ⟨_, rfl⟩
  have kA : wrapT 2 a0 = A := by rw [← hA]; simp [wrappedV, knownB]
  have kB : wrapT 3 a0 = B := by rw [← hB]; simp [wrappedV, knownB]
  have fA : fitsB 2 A = true := by rw [← kA]; exact wrap_fits rfl _
  have fA3 : fitsB 3 A = true := by rw [fits2] at fA; rw [fits3]; omega
  have fB : fitsB 3 B = true := by rw [← kB]; exact wrap_fits rfl _
  obtain ⟨K, hK⟩ : ∃ K, wrapT 2 B = K := ⟨_, rfl⟩
  have c1 : convV 2 3 A = (A, 0) := by simp [convV, knownB, fA, fits_wrap fA3]
  have c2 : convV 3 2 A = (A, 0) := by simp [convV, knownB, fA3, fits_wrap fA]
  have c3 : convV 3 2 B = (K, 0) := by simp [convV, knownB, fB, hK]
  have c4 : convV 1 2 1 = (0, 40) := by decide +kernel
  have fK : fitsB 2 K = true := by rw [← hK]; exact wrap_fits rfl _
  have m : (Int.tmod (B - K) 65536 == 0) = true := by
    rw [beq_iff_eq]; exact Int.tmod_eq_zero_of_dvd (Int.dvd_of_emod_eq_zero (by rw [← hK, wrap2]; omega))
  have b1 := fits3.1 fB
  have b2 := fits2.1 fK
  obtain ⟨b11, b12⟩ := b1
  obtain ⟨b21, b22⟩ := b2
  clear kA kB fA fA3 fB hK
  go_enter Try.func9, Try.ntmps9
  go_wp2_with fail
  refine (works_any _).mono ?_
  rintro e w1 ⟨rfl, hb⟩
  go_wp2_with fail
  refine (wrapped_at _ hA).mono ?_
  rintro e w' ⟨rfl, rfl⟩
  go_wp2_with fail
  refine (conv_at _ c1).mono ?_
  rintro e w' ⟨rfl, rfl⟩
  go_wp2_with fail
  refine (conv_at _ c2).mono ?_
  rintro e w' ⟨rfl, rfl⟩
  go_wp2_with fail
  refine (wrapped_at _ hB).mono ?_
  rintro e w' ⟨rfl, rfl⟩
  go_wp2_with fail
  refine (conv_at _ c3).mono ?_
  rintro e w' ⟨rfl, rfl⟩
  go_wp2_with fail
  refine (conv_at _ c4).mono ?_
  rintro e w' ⟨rfl, rfl⟩
  go_wp2_with fail
  refine (fits_at _ fK).mono ?_
  rintro e w' ⟨rfl, rfl⟩
  go_wp2
  go_ret
  exact ⟨rfl, hb⟩

end Go.Proofs.Ytjdoeehmnfbepaa.Num
