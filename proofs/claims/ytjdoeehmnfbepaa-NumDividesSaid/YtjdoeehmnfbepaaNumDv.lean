/-
  The walk of NumDivides.
-/
import Derived.Test.YtjdoeehmnfbepaaNumS
import Derived.Deep.QuietTactic
import Derived.BigQuiet
namespace Go.Proofs.Ytjdoeehmnfbepaa.Num
open Go.RowKit
set_option linter.unusedVariables false

theorem ret_true {b : Bool} (h : b = true) : Ending.returned (.bool b) = .returned (.bool true) := by rw [h]
theorem tmod_lt (a b : Int) (h : ¬ b = 0) : (a.tmod b).natAbs < b.natAbs := by
  rw [Int.natAbs_tmod]
  exact Nat.mod_lt _ (by omega)
theorem tmod_pos (a b : Int) (h : 0 ≤ a) : 0 ≤ a.tmod b := Int.tmod_nonneg _ h
theorem tmod_neg (a b : Int) (h : a ≤ 0) : a.tmod b ≤ 0 := by
  have := Int.tmod_nonneg b (show 0 ≤ -a by omega)
  rw [Int.neg_tmod] at this
  omega

set_option maxRecDepth 100000 in
set_option maxHeartbeats 2000000 in
theorem divides_zero (a0 a10 a11 T A : Int) (w : World) (HT : Hid (kindV a0 = T)) (HA : Hid (wrappedV T a10 = A)) (HB : Hid (wrappedV T a11 = 0)) (H1 : Hid (doesV 4 T false A 0 = (0, 41))) (H2 : Hid (doesV 5 T false A 0 = (0, 41))) :
    Calls Try.prog 4 #[.int .i64 a0, .agg #[.int .i64 a10, .int .i64 a11]] w fun e w' => e = .returned (.bool true) ∧ Below w.heap.size w w' := by
  go_enter Try.func4, Try.ntmps4
  go_wp2_with fail
  refine (works_any _).mono ?_
  rintro e w1 ⟨rfl, hb⟩
  obtain ⟨hc1, hf1⟩ := bcell hb
  have hz1 : w.heap.size < w1.heap.size := by have := hb.size; simp at this; omega
  go_wp2_with fail
  refine (kind_any _ _).mono ?_
  rintro e w' ⟨rfl, rfl⟩
  rw [HT.out]
  go_wp2_with fail
  go_quiet ((go_at_call 13; (first | exact quiet_left (wrapped_at _ HA.out) | exact quiet_left (wrapped_at _ HB.out))))
  go_wp2_with fail
  refine (two_at _ H1.out).mono ?_
  rintro e w2 ⟨rfl, hb2⟩
  go_wp2_with fail
  refine (two_at _ H2.out).mono ?_
  rintro e w3 ⟨rfl, hb3⟩
  go_wp2
  go_ret
  exact ⟨rfl, bnext (bnext (below_drewN (bnext (below_new1 _ _) hb) _) hb2) hb3⟩

set_option maxRecDepth 100000 in
set_option maxHeartbeats 2000000 in
theorem divides_core (a0 a10 a11 T A B Q R P : Int) (w : World) (HT : Hid (kindV a0 = T)) (HA : Hid (wrappedV T a10 = A)) (HB : Hid (wrappedV T a11 = B)) (H1 : Hid (doesV 4 T false A B = (Q, 0))) (H2 : Hid (doesV 5 T false A B = (R, 0)))
    (H3 : Hid (doesV 3 T false Q B = (P, 0))) (H4 : Hid (doesV 1 T false P R = (A, 0)))
    (h0 : ¬ B = 0) (hA1 : -2147483648 ≤ A) (hA2 : A ≤ 2147483647) (hB1 : -2147483648 ≤ B) (hB2 : B ≤ 2147483647) (hR1 : -2147483648 ≤ R) (hR2 : R ≤ 2147483647)
    (hs : (R = 0 ∧ 0 < B) ∨ (R = 0 ∧ B < 0) ∨ (0 < R ∧ 0 ≤ A ∧ R < B) ∨ (0 < R ∧ 0 ≤ A ∧ B < 0 ∧ R < -B) ∨ (R < 0 ∧ A < 0 ∧ 0 < B ∧ -R < B) ∨ (R < 0 ∧ A < 0 ∧ B < R)) :
    Calls Try.prog 4 #[.int .i64 a0, .agg #[.int .i64 a10, .int .i64 a11]] w fun e w' => e = .returned (.bool true) ∧ Below w.heap.size w w' := by
  have HF : Hid ((R == 0 || decide (R < 0) == decide (A < 0)) = true) := by
    rcases hs with ⟨rfl, _⟩ | ⟨rfl, _⟩ | ⟨h1, h2, _⟩ | ⟨h1, h2, _⟩ | ⟨h1, h2, _⟩ | ⟨h1, h2, _⟩
    · simp [Hid]
    · simp [Hid]
    all_goals (show (R == 0 || decide (R < 0) == decide (A < 0)) = true; rw [Bool.or_eq_true]; right; rw [beq_iff_eq, decide_eq_decide]; omega)
  rcases hs with ⟨rfl, hs⟩ | ⟨rfl, hs⟩ | ⟨hs1, hs2, hs3⟩ | ⟨hs1, hs2, hs3, hs4⟩ | ⟨hs1, hs2, hs3, hs4⟩ | ⟨hs1, hs2, hs3⟩
  all_goals
    go_enter Try.func4, Try.ntmps4
    go_wp2_with fail
    refine (works_any _).mono ?_
    rintro e w1 ⟨rfl, hb⟩
    obtain ⟨hc1, hf1⟩ := bcell hb
    have hz1 : w.heap.size < w1.heap.size := by have := hb.size; simp at this; omega
    go_wp2_with fail
    refine (kind_any _ _).mono ?_
    rintro e w' ⟨rfl, rfl⟩
    rw [HT.out]
    go_wp2_with fail
    go_quiet ((go_at_call 13; (first | exact quiet_left (wrapped_at _ HA.out) | exact quiet_left (wrapped_at _ HB.out))))
    go_wp2_with fail
    refine (two_at _ H1.out).mono ?_
    rintro e w2 ⟨rfl, hb2⟩
    go_wp2_with fail
    refine (two_at _ H2.out).mono ?_
    rintro e w3 ⟨rfl, hb3⟩
    go_wp2_with fail
    refine (two_at _ H3.out).mono ?_
    rintro e w4 ⟨rfl, hb4⟩
    go_wp2_with fail
    refine (two_at _ H4.out).mono ?_
    rintro e w5 ⟨rfl, hb5⟩
    go_wp2
    go_ret
    first | exact ⟨rfl, bnext (bnext (bnext (bnext (below_drewN (bnext (below_new1 _ _) hb) _) hb2) hb3) hb4) hb5⟩ | exact ⟨ret_true HF.out, bnext (bnext (bnext (bnext (below_drewN (bnext (below_new1 _ _) hb) _) hb2) hb3) hb4) hb5⟩

theorem divides_walk (a0 a10 a11 : Int) (w0 : (Lit.int .i64 a0).wf = true) (w10 : (Lit.int .i64 a10).wf = true) (w11 : (Lit.int .i64 a11).wf = true) (w : World) :
    Calls Try.prog 4 #[.int .i64 a0, .agg #[.int .i64 a10, .int .i64 a11]] w fun e w' => e = .returned (.bool true) ∧ Below w.heap.size w w' := by
  have hk := kind_or a0
  obtain ⟨T, hT⟩ : ∃ T, kindV a0 = T := ⟨_, rfl⟩
  rw [hT] at hk
  obtain ⟨A, hA⟩ : ∃ A, wrappedV T a10 = A := ⟨_, rfl⟩
  obtain ⟨B, hB⟩ : ∃ B, wrappedV T a11 = B := ⟨_, rfl⟩
  have fA : fitsB T A = true := by rw [← hA]; exact wrapped_fits hk _
  have fB : fitsB T B = true := by rw [← hB]; exact wrapped_fits hk _
  by_cases h0 : B = 0
  · subst h0
    exact divides_zero a0 a10 a11 T A w hT hA hB (does_40 hk fA).1 (does_40 hk fA).2
  · have bA := fits_bound hk fA
    have bB := fits_bound hk fB
    have hr := tmod_lt A B h0
    have fR : fitsB T (A.tmod B) = true := by
      rcases hk with rfl | rfl
      · have := fits2.1 fB; rw [fits2]; omega
      · have := fits3.1 fB; rw [fits3]; omega
    have fQ : fitsB T (wrapT T (A.tdiv B)) = true := wrap_fits (known_or hk) _
    have c3 := does_3 hk fQ fB
    have fP : fitsB T (wrapT T (wrapT T (A.tdiv B) * B)) = true := wrap_fits (known_or hk) _
    have c4 : doesV 1 T false (wrapT T (wrapT T (A.tdiv B) * B)) (A.tmod B) = (A, 0) := by
      rw [does_1 hk fP fR, wrap_sum T _ _ hk]
      obtain ⟨k, hk'⟩ := wrap_add T (A.tdiv B) hk
      rw [hk', Int.add_mul, Int.mul_assoc, show A.tdiv B * B + modT T * (k * B) + A.tmod B = A + modT T * (k * B) from by have := Int.tdiv_mul_add_tmod A B; omega, wrap_of_add T _ _ hk, fits_wrap fA]
    refine divides_core a0 a10 a11 T A B _ (A.tmod B) _ w hT hA hB (does_4 hk fA fB h0) (by have := does_5 hk fA fB h0; rw [fits_wrap fR] at this; exact this) c3 c4 h0 bA.1 bA.2 bB.1 bB.2 (by omega) (by omega) ?_
    rcases Int.lt_or_le A 0 with hA0 | hA0
    · have := tmod_neg A B (by omega)
      omega
    · have := tmod_pos A B hA0
      omega

end Go.Proofs.Ytjdoeehmnfbepaa.Num
