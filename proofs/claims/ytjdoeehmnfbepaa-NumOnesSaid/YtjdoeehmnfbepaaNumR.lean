/-
  Plain facts of layer 4 (num), over whole numbers: what is wrapped fits, and so on. And the contracts of the statements' own small functions.
-/
import Derived.Test.YtjdoeehmnfbepaaNumW
import Derived.Test.YtjdoeehmnfbepaaNumF
import Derived.Laws.Bits64
namespace Go.Proofs.Ytjdoeehmnfbepaa.Num
open Go.RowKit

/-- capstanlaw04.wrapped -/
def wrappedV (t n : Int) : Int := if knownB t = true then wrapT t n else 0
def kindV (n : Int) : Int := if n % 2 = 0 then 2 else 3

theorem wrapped_any (t n : Int) (w : World) : Calls Try.prog 13 #[.int .i64 t, .int .i64 n] w fun e w' => e = .returned (.int .i64 (wrappedV t n)) ∧ w = w' := by
  cases hk : knownB t
  all_goals
    go_enter Try.func13, Try.ntmps13
    go_wp2_with (go_at_call 23; refine (wrapE_any _ _ _).mono ?_; rintro e w' ⟨rfl, rfl⟩)
    go_ret
    exact ⟨by simp [wrappedV, hk], rfl⟩
theorem wrapped_at {t n v : Int} (w : World) (h : wrappedV t n = v) : Calls Try.prog 13 #[.int .i64 t, .int .i64 n] w fun e w' => e = .returned (.int .i64 v) ∧ w = w' :=
  (wrapped_any t n w).mono fun _ _ hx => by rw [h] at hx; exact hx
theorem conv_at {s t n v e : Int} (w : World) (h : convV s t n = (v, e)) : Calls Try.prog 25 #[.int .i64 s, .int .i64 t, .int .i64 n] w fun x w' => x = .returned (.tuple #[.int .i64 v, .int .i64 e]) ∧ w = w' :=
  (conv_any s t n w).mono fun _ _ hx => by rw [h] at hx; exact hx
theorem fits_at {t n : Int} {b : Bool} (w : World) (h : fitsB t n = b) : Calls Try.prog 27 #[.int .i64 t, .int .i64 n] w fun x w' => x = .returned (.bool b) ∧ w = w' :=
  (fits_any t n w).mono fun _ _ hx => by rw [h] at hx; exact hx

theorem ret_int {k : IntKind} {a b : Int} (h : a = b) : Ending.returned (.int k a) = .returned (.int k b) := by rw [h]
theorem u64_tmod (n : Int) (m : Int) : (IntKind.u64.wrap n).tmod m = (n % 18446744073709551616) % m := by
  rw [IntKind.wrap_u64, Int.tmod_eq_emod_of_nonneg (by omega)]
theorem kind_is (n : Int) : wrap64 (2 + wrap64 ((IntKind.u64.wrap n).tmod 2)) = kindV n := by
  rw [u64_tmod]; unfold kindV wrap64; split <;> omega
theorem kind_any (n : Int) (w : World) : Calls Try.prog 12 #[.int .i64 n] w fun e w' => e = .returned (.int .i64 (kindV n)) ∧ w = w' := by
  go_enter Try.func12, Try.ntmps12
  go_wp2
  go_ret
  exact ⟨ret_int (kind_is n), rfl⟩

theorem wrap1 (n : Int) : wrapT 1 n = n % 2 := by simp [wrapT, i64_and1]
theorem wrap2 (n : Int) : wrapT 2 n = (n + 32768) % 65536 - 32768 := by simp [wrapT]
theorem wrap3 (n : Int) : wrapT 3 n = (n + 2147483648) % 4294967296 - 2147483648 := by simp [wrapT, wrap32]
theorem wrap4 (n : Int) : wrapT 4 n = (n + 2147483648) % 4294967296 - 2147483648 := by simp [wrapT, wrap32]
theorem wrap_fits {t : Int} (h : knownB t = true) (n : Int) : fitsB t (wrapT t n) = true := by
  simp only [fitsB, h, Bool.true_and, beq_iff_eq]
  obtain rfl | rfl | rfl | rfl := known_of h
  · simp only [wrap1]; omega
  · simp only [wrap2]; omega
  · simp only [wrap3]; omega
  · simp only [wrap4]; omega
theorem fits1 {n : Int} : fitsB 1 n = true ↔ 0 ≤ n ∧ n ≤ 1 := by simp [fitsB, knownB, wrap1]; omega
theorem fits2 {n : Int} : fitsB 2 n = true ↔ -32768 ≤ n ∧ n ≤ 32767 := by simp [fitsB, knownB, wrap2]; omega
theorem fits3 {n : Int} : fitsB 3 n = true ↔ -2147483648 ≤ n ∧ n ≤ 2147483647 := by simp [fitsB, knownB, wrap3]; omega
theorem fits4 {n : Int} : fitsB 4 n = true ↔ -2147483648 ≤ n ∧ n ≤ 2147483647 := by simp [fitsB, knownB, wrap4]; omega
theorem fits_wrap {t n : Int} (h : fitsB t n = true) : wrapT t n = n := by simp [fitsB] at h; exact h.2
theorem fits_known {t n : Int} (h : fitsB t n = true) : knownB t = true := by simp [fitsB] at h; exact h.1

end Go.Proofs.Ytjdoeehmnfbepaa.Num
