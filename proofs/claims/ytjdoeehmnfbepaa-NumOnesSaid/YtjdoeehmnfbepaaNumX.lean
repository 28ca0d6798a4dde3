/-
  The walks of the reference of layer 4 (capstanref04): each function comes to what the program's comes to.
-/
import Derived.Test.YtjdoeehmnfbepaaNumR
namespace Go.Proofs.Ytjdoeehmnfbepaa.Num
open Go.RowKit

theorem rtype_any (t : Int) (w : World) : Calls Try.prog 37 #[.int .i64 t] w fun e w' => e = .returned (.bool (knownB t)) ∧ w = w' := by
  by_cases h1 : 1 ≤ t
  · go_enter Try.func37, Try.ntmps37
    go_wp2
    go_ret
    exact ⟨by simp [knownB, h1], rfl⟩
  · go_enter Try.func37, Try.ntmps37
    go_wp2
    go_ret
    exact ⟨by simp [knownB]; omega, rfl⟩

/-- capstanref04.Has -/
def hasV (n t : Int) (one : Bool) : Bool := decide (1 ≤ n ∧ n ≤ 16) && (opOne n == one) && hasB (opK n) t

theorem ret_bool {a b : Bool} (h : a = b) : Ending.returned (.bool a) = .returned (.bool b) := by rw [h]

theorem sixteen {n : Int} (h : 1 ≤ n ∧ n ≤ 16) : n = 1 ∨ n = 2 ∨ n = 3 ∨ n = 4 ∨ n = 5 ∨ n = 6 ∨ n = 7 ∨ n = 8 ∨ n = 9 ∨ n = 10 ∨ n = 11 ∨ n = 12 ∨ n = 13 ∨ n = 14 ∨ n = 15 ∨ n = 16 := by omega
theorem hasV_1_false (n : Int) : hasV n 1 false = decide (6 ≤ n ∧ n ≤ 10) := by
  by_cases h : 1 ≤ n ∧ n ≤ 16
  · rcases sixteen h with rfl | rfl | rfl | rfl | rfl | rfl | rfl | rfl | rfl | rfl | rfl | rfl | rfl | rfl | rfl | rfl <;> decide +kernel
  · have e : hasV n 1 false = false := by simp only [hasV, decide_eq_false h, Bool.false_and]
    rw [e, eq_comm, decide_eq_false_iff_not]; omega
theorem hasV_2_false (n : Int) : hasV n 2 false = decide (1 ≤ n ∧ n ≤ 14) := by
  by_cases h : 1 ≤ n ∧ n ≤ 16
  · rcases sixteen h with rfl | rfl | rfl | rfl | rfl | rfl | rfl | rfl | rfl | rfl | rfl | rfl | rfl | rfl | rfl | rfl <;> decide +kernel
  · have e : hasV n 2 false = false := by simp only [hasV, decide_eq_false h, Bool.false_and]
    rw [e, eq_comm, decide_eq_false_iff_not]; omega
theorem hasV_3_false (n : Int) : hasV n 3 false = decide (1 ≤ n ∧ n ≤ 14) := by
  by_cases h : 1 ≤ n ∧ n ≤ 16
  · rcases sixteen h with rfl | rfl | rfl | rfl | rfl | rfl | rfl | rfl | rfl | rfl | rfl | rfl | rfl | rfl | rfl | rfl <;> decide +kernel
  · have e : hasV n 3 false = false := by simp only [hasV, decide_eq_false h, Bool.false_and]
    rw [e, eq_comm, decide_eq_false_iff_not]; omega
theorem hasV_4_false (n : Int) : hasV n 4 false = decide (n = 1 ∨ n = 2 ∨ (9 ≤ n ∧ n ≤ 14)) := by
  by_cases h : 1 ≤ n ∧ n ≤ 16
  · rcases sixteen h with rfl | rfl | rfl | rfl | rfl | rfl | rfl | rfl | rfl | rfl | rfl | rfl | rfl | rfl | rfl | rfl <;> decide +kernel
  · have e : hasV n 4 false = false := by simp only [hasV, decide_eq_false h, Bool.false_and]
    rw [e, eq_comm, decide_eq_false_iff_not]; omega
theorem hasV_1_true (n : Int) : hasV n 1 true = decide (n = 16) := by
  by_cases h : 1 ≤ n ∧ n ≤ 16
  · rcases sixteen h with rfl | rfl | rfl | rfl | rfl | rfl | rfl | rfl | rfl | rfl | rfl | rfl | rfl | rfl | rfl | rfl <;> decide +kernel
  · have e : hasV n 1 true = false := by simp only [hasV, decide_eq_false h, Bool.false_and]
    rw [e, eq_comm, decide_eq_false_iff_not]; omega
theorem hasV_2_true (n : Int) : hasV n 2 true = decide (n = 15 ∨ n = 16) := by
  by_cases h : 1 ≤ n ∧ n ≤ 16
  · rcases sixteen h with rfl | rfl | rfl | rfl | rfl | rfl | rfl | rfl | rfl | rfl | rfl | rfl | rfl | rfl | rfl | rfl <;> decide +kernel
  · have e : hasV n 2 true = false := by simp only [hasV, decide_eq_false h, Bool.false_and]
    rw [e, eq_comm, decide_eq_false_iff_not]; omega
theorem hasV_3_true (n : Int) : hasV n 3 true = decide (n = 15 ∨ n = 16) := by
  by_cases h : 1 ≤ n ∧ n ≤ 16
  · rcases sixteen h with rfl | rfl | rfl | rfl | rfl | rfl | rfl | rfl | rfl | rfl | rfl | rfl | rfl | rfl | rfl | rfl <;> decide +kernel
  · have e : hasV n 3 true = false := by simp only [hasV, decide_eq_false h, Bool.false_and]
    rw [e, eq_comm, decide_eq_false_iff_not]; omega
theorem hasV_4_true (n : Int) : hasV n 4 true = decide (n = 15) := by
  by_cases h : 1 ≤ n ∧ n ≤ 16
  · rcases sixteen h with rfl | rfl | rfl | rfl | rfl | rfl | rfl | rfl | rfl | rfl | rfl | rfl | rfl | rfl | rfl | rfl <;> decide +kernel
  · have e : hasV n 4 true = false := by simp only [hasV, decide_eq_false h, Bool.false_and]
    rw [e, eq_comm, decide_eq_false_iff_not]; omega

set_option maxHeartbeats 2000000 in
theorem rhas_1_false (n : Int) (w : World) : Calls Try.prog 30 #[.int .i64 n, .int .i64 1, .int .i64 2] w fun e w' => e = .returned (.bool (hasV n 1 false)) ∧ w = w' := by
  have hk : knownB 1 = true := rfl
  go_enter Try.func30, Try.ntmps30
  go_wp2_with (go_at_call 37; refine (rtype_any _ _).mono ?_; rintro e w' ⟨rfl, rfl⟩)
  all_goals go_ret
  all_goals refine ⟨ret_bool ?_, rfl⟩
  all_goals try simp only [beq_iff_eq, beq_eq_false_iff_ne, ne_eq] at *
  all_goals rw [hasV_1_false, Bool.eq_iff_iff]
  all_goals simp
  all_goals omega

set_option maxHeartbeats 2000000 in
theorem rhas_2_false (n : Int) (w : World) : Calls Try.prog 30 #[.int .i64 n, .int .i64 2, .int .i64 2] w fun e w' => e = .returned (.bool (hasV n 2 false)) ∧ w = w' := by
  have hk : knownB 2 = true := rfl
  go_enter Try.func30, Try.ntmps30
  go_wp2_with (go_at_call 37; refine (rtype_any _ _).mono ?_; rintro e w' ⟨rfl, rfl⟩)
  all_goals go_ret
  all_goals refine ⟨ret_bool ?_, rfl⟩
  all_goals try simp only [beq_iff_eq, beq_eq_false_iff_ne, ne_eq] at *
  all_goals rw [hasV_2_false, Bool.eq_iff_iff]
  all_goals simp
  all_goals omega

set_option maxHeartbeats 2000000 in
theorem rhas_3_false (n : Int) (w : World) : Calls Try.prog 30 #[.int .i64 n, .int .i64 3, .int .i64 2] w fun e w' => e = .returned (.bool (hasV n 3 false)) ∧ w = w' := by
  have hk : knownB 3 = true := rfl
  go_enter Try.func30, Try.ntmps30
  go_wp2_with (go_at_call 37; refine (rtype_any _ _).mono ?_; rintro e w' ⟨rfl, rfl⟩)
  all_goals go_ret
  all_goals refine ⟨ret_bool ?_, rfl⟩
  all_goals try simp only [beq_iff_eq, beq_eq_false_iff_ne, ne_eq] at *
  all_goals rw [hasV_3_false, Bool.eq_iff_iff]
  all_goals simp
  all_goals omega

set_option maxHeartbeats 2000000 in
theorem rhas_4_false (n : Int) (w : World) : Calls Try.prog 30 #[.int .i64 n, .int .i64 4, .int .i64 2] w fun e w' => e = .returned (.bool (hasV n 4 false)) ∧ w = w' := by
  have hk : knownB 4 = true := rfl
  go_enter Try.func30, Try.ntmps30
  go_wp2_with (go_at_call 37; refine (rtype_any _ _).mono ?_; rintro e w' ⟨rfl, rfl⟩)
  all_goals go_ret
  all_goals refine ⟨ret_bool ?_, rfl⟩
  all_goals try simp only [beq_iff_eq, beq_eq_false_iff_ne, ne_eq] at *
  all_goals rw [hasV_4_false, Bool.eq_iff_iff]
  all_goals simp
  all_goals omega

set_option maxHeartbeats 2000000 in
theorem rhas_1_true (n : Int) (w : World) : Calls Try.prog 30 #[.int .i64 n, .int .i64 1, .int .i64 1] w fun e w' => e = .returned (.bool (hasV n 1 true)) ∧ w = w' := by
  have hk : knownB 1 = true := rfl
  go_enter Try.func30, Try.ntmps30
  go_wp2_with (go_at_call 37; refine (rtype_any _ _).mono ?_; rintro e w' ⟨rfl, rfl⟩)
  all_goals go_ret
  all_goals refine ⟨ret_bool ?_, rfl⟩
  all_goals try simp only [beq_iff_eq, beq_eq_false_iff_ne, ne_eq] at *
  all_goals rw [hasV_1_true, Bool.eq_iff_iff]
  all_goals simp
  all_goals omega

set_option maxHeartbeats 2000000 in
theorem rhas_2_true (n : Int) (w : World) : Calls Try.prog 30 #[.int .i64 n, .int .i64 2, .int .i64 1] w fun e w' => e = .returned (.bool (hasV n 2 true)) ∧ w = w' := by
  have hk : knownB 2 = true := rfl
  go_enter Try.func30, Try.ntmps30
  go_wp2_with (go_at_call 37; refine (rtype_any _ _).mono ?_; rintro e w' ⟨rfl, rfl⟩)
  all_goals go_ret
  all_goals refine ⟨ret_bool ?_, rfl⟩
  all_goals try simp only [beq_iff_eq, beq_eq_false_iff_ne, ne_eq] at *
  all_goals rw [hasV_2_true, Bool.eq_iff_iff]
  all_goals simp
  all_goals omega

set_option maxHeartbeats 2000000 in
theorem rhas_3_true (n : Int) (w : World) : Calls Try.prog 30 #[.int .i64 n, .int .i64 3, .int .i64 1] w fun e w' => e = .returned (.bool (hasV n 3 true)) ∧ w = w' := by
  have hk : knownB 3 = true := rfl
  go_enter Try.func30, Try.ntmps30
  go_wp2_with (go_at_call 37; refine (rtype_any _ _).mono ?_; rintro e w' ⟨rfl, rfl⟩)
  all_goals go_ret
  all_goals refine ⟨ret_bool ?_, rfl⟩
  all_goals try simp only [beq_iff_eq, beq_eq_false_iff_ne, ne_eq] at *
  all_goals rw [hasV_3_true, Bool.eq_iff_iff]
  all_goals simp
  all_goals omega

set_option maxHeartbeats 2000000 in
theorem rhas_4_true (n : Int) (w : World) : Calls Try.prog 30 #[.int .i64 n, .int .i64 4, .int .i64 1] w fun e w' => e = .returned (.bool (hasV n 4 true)) ∧ w = w' := by
  have hk : knownB 4 = true := rfl
  go_enter Try.func30, Try.ntmps30
  go_wp2_with (go_at_call 37; refine (rtype_any _ _).mono ?_; rintro e w' ⟨rfl, rfl⟩)
  all_goals go_ret
  all_goals refine ⟨ret_bool ?_, rfl⟩
  all_goals try simp only [beq_iff_eq, beq_eq_false_iff_ne, ne_eq] at *
  all_goals rw [hasV_4_true, Bool.eq_iff_iff]
  all_goals simp
  all_goals omega

end Go.Proofs.Ytjdoeehmnfbepaa.Num
