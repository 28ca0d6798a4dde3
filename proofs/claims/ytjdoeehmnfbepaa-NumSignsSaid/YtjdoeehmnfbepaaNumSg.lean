/-
  The walk of NumSigns.
-/
import Derived.Test.YtjdoeehmnfbepaaNumS
import Derived.Deep.QuietTactic
import Derived.BigQuiet
namespace Go.Proofs.Ytjdoeehmnfbepaa.Num
open Go.RowKit
set_option linter.unusedVariables false

set_option maxRecDepth 100000 in
set_option maxHeartbeats 2000000 in
theorem signs_walk (a0 a10 a11 : Int) (w0 : (Lit.int .i64 a0).wf = true) (w10 : (Lit.int .i64 a10).wf = true) (w11 : (Lit.int .i64 a11).wf = true) (w : World) :
    Calls Try.prog 6 #[.int .i64 a0, .agg #[.int .i64 a10, .int .i64 a11]] w fun e w' => e = .returned (.bool true) ∧ Below w.heap.size w w' := by
  clear w0 w10 w11
  have hk := kind_or a0
  obtain ⟨T, hT⟩ : ∃ T, kindV a0 = T := ⟨_, rfl⟩
  rw [hT] at hk
  obtain ⟨A, hA⟩ : ∃ A, wrappedV T a10 = A := ⟨_, rfl⟩
  obtain ⟨B, hB⟩ : ∃ B, wrappedV T a11 = B := ⟨_, rfl⟩
  have fA : fitsB T A = true := by rw [← hA]; exact wrapped_fits hk _
  have fB : fitsB T B = true := by rw [← hB]; exact wrapped_fits hk _
  obtain ⟨N, hN⟩ : ∃ N, wrapT T (-B) = N := ⟨_, rfl⟩
  have fN : fitsB T N = true := by rw [← hN]; exact wrap_fits (known_or hk) _
  have c1 : doesV 15 T true B B = (N, 0) := by rw [does_15 hk fB, hN]
  have c2 : doesV 15 T true N N = (B, 0) := by
    rw [does_15 hk fN, ← hN]
    obtain ⟨k, hk'⟩ := wrap_add T (-B) hk
    rw [hk', show -(-B + modT T * k) = B + modT T * (-k) from by rw [Int.mul_neg]; omega, wrap_of_add T _ _ hk, fits_wrap fB]
  obtain ⟨S, hS⟩ : ∃ S, wrapT T (A - B) = S := ⟨_, rfl⟩
  have c3 : doesV 2 T false A B = (S, 0) := by rw [does_2 hk fA fB, hS]
  have c4 : doesV 1 T false A N = (S, 0) := by
    rw [does_1 hk fA fN, ← hN, wrap_sum' T _ _ hk, ← hS]; rfl
  obtain ⟨L, hL⟩ : ∃ L, wrapT T (-1 - B) = L := ⟨_, rfl⟩
  have c5 : doesV 16 T true B B = (L, 0) := by rw [does_16 hk fB, hL]
  have f1 : fitsB T 1 = true := by rcases hk with rfl | rfl <;> decide +kernel
  have c6 : doesV 2 T false N 1 = (L, 0) := by
    rw [does_2 hk fN f1, ← hN, ← hL, show wrapT T (-B) - 1 = wrapT T (-B) + -1 from rfl, wrap_sum T _ _ hk, show -B + -1 = -1 - B from by omega]
  clear fA fB hN fN hS hL f1 hk
  have H1 := Lib.hid c1; have H2 := Lib.hid c2; have H3 := Lib.hid c3; have H4 := Lib.hid c4; have H5 := Lib.hid c5; have H6 := Lib.hid c6
  have HT := Lib.hid hT
  clear c1 c2 c3 c4 c5 c6 hT
  go_enter Try.func6, Try.ntmps6
  go_wp2_with fail
  refine (works_any _).mono ?_
  rintro e w1 ⟨rfl, hb⟩
  obtain ⟨hc1, hf1⟩ := bcell hb
  have hz1 : w.heap.size < w1.heap.size := by have := hb.size; simp at this; omega
  go_wp2_with fail
  refine (kind_any _ _).mono ?_
  rintro e w' ⟨rfl, rfl⟩
  rw [HT.out]
  go_wp2_with fail
  go_quiet ((go_at_call 13; (first | exact quiet_left (wrapped_at _ hA) | exact quiet_left (wrapped_at _ hB))))
  go_wp2_with fail
  refine (one_at _ H1.out).mono ?_
  rintro e w2 ⟨rfl, hb2⟩
  go_wp2_with fail
  refine (one_at _ H2.out).mono ?_
  rintro e w3 ⟨rfl, hb3⟩
  go_wp2_with fail
  refine (two_at _ H3.out).mono ?_
  rintro e w4 ⟨rfl, hb4⟩
  go_wp2_with fail
  refine (two_at _ H4.out).mono ?_
  rintro e w5 ⟨rfl, hb5⟩
  go_wp2_with fail
  refine (one_at _ H5.out).mono ?_
  rintro e w6 ⟨rfl, hb6⟩
  go_wp2_with fail
  refine (two_at _ H6.out).mono ?_
  rintro e w7 ⟨rfl, hb7⟩
  go_wp2
  go_ret
  exact ⟨rfl, bnext (bnext (bnext (bnext (bnext (bnext (below_drewN (bnext (below_new1 _ _) hb) _) hb2) hb3) hb4) hb5) hb6) hb7⟩

end Go.Proofs.Ytjdoeehmnfbepaa.Num
