/-
  The walks of layer 4 (num): the small functions, and which operation there is.
-/
import Derived.Test.YtjdoeehmnfbepaaProg
import Derived.WalkKit
import Derived.WalkSpells
import Derived.WalkLawsBesides
import Derived.Deep.QuietTactic
import Derived.BigQuiet
import Derived.Test.YtjdoeehmnfbepaaNumP
namespace Go.Proofs.Ytjdoeehmnfbepaa.Num
open Go.RowKit

set_option maxHeartbeats 400000 in
theorem known_any (t : Int) (w : World) : Calls Try.prog 35 #[.int .i64 t] w fun e w' => e = .returned (.bool (knownB t)) ∧ w = w' := by
  by_cases h1 : 1 ≤ t
  · go_enter Try.func35, Try.ntmps35
    go_wp2
    go_ret
    exact ⟨by simp [knownB, h1], rfl⟩
  · go_enter Try.func35, Try.ntmps35
    go_wp2
    go_ret
    exact ⟨by simp [knownB]; omega, rfl⟩

set_option maxHeartbeats 400000 in
theorem wrap_any (t n : Int) (w : World) : Calls Try.prog 36 #[.int .i64 t, .int .i64 n] w fun e w' => e = .returned (.int .i64 (wrapT t n)) ∧ w = w' := by
  by_cases h1 : t = 1
  · subst h1
    go_enter Try.func36, Try.ntmps36
    go_wp2
    go_ret
    exact ⟨by simp [wrapT], rfl⟩
  · by_cases h2 : t = 2
    · subst h2
      go_enter Try.func36, Try.ntmps36
      go_wp2
      go_ret
      exact ⟨by rw [w64_16]; rfl, rfl⟩
    · go_enter Try.func36, Try.ntmps36
      go_wp2
      go_ret
      exact ⟨by simp [wrapT, h1, h2, w64_32], rfl⟩

set_option maxHeartbeats 400000 in
theorem fits_any (t n : Int) (w : World) : Calls Try.prog 27 #[.int .i64 t, .int .i64 n] w fun e w' => e = .returned (.bool (fitsB t n)) ∧ w = w' := by
  cases hk : knownB t
  · go_enter Try.func27, Try.ntmps27
    go_wp2_with (go_at_call 35; refine (known_any _ _).mono ?_; rintro e w' ⟨rfl, rfl⟩)
    go_ret
    exact ⟨by simp [fitsB, hk], rfl⟩
  · go_enter Try.func27, Try.ntmps27
    go_wp2_with (first | (go_at_call 35; refine (known_any _ _).mono ?_; rintro e w' ⟨rfl, rfl⟩) | (go_at_call 36; refine (wrap_any _ _ _).mono ?_; rintro e w' ⟨rfl, rfl⟩))
    go_ret
    exact ⟨by simp [fitsB, hk], rfl⟩

set_option maxHeartbeats 400000 in
theorem wrapE_any (t n : Int) (w : World) : Calls Try.prog 23 #[.int .i64 t, .int .i64 n] w fun e w' => e = .returned (.tuple #[.int .i64 (if knownB t = true then wrapT t n else 0), .int .i64 (if knownB t = true then 0 else 40)]) ∧ w = w' := by
  cases hk : knownB t
  · go_enter Try.func23, Try.ntmps23
    go_wp2_with (go_at_call 35; refine (known_any _ _).mono ?_; rintro e w' ⟨rfl, rfl⟩)
    go_ret2
    exact ⟨by simp, rfl⟩
  · go_enter Try.func23, Try.ntmps23
    go_wp2_with (first | (go_at_call 35; refine (known_any _ _).mono ?_; rintro e w' ⟨rfl, rfl⟩) | (go_at_call 36; refine (wrap_any _ _ _).mono ?_; rintro e w' ⟨rfl, rfl⟩))
    go_ret2
    exact ⟨by simp, rfl⟩

set_option maxHeartbeats 1000000 in
theorem has_any (k t : Int) (x1 x2 x3 : Value) (w : World) : Calls Try.prog 34 #[.agg #[.int .i64 k, x1, x2, x3], .int .i64 t] w fun e w' => e = .returned (.bool (hasB k t)) ∧ Below w.heap.size w w' := by
  cases hk : knownB t
  · go_enter Try.func34, Try.ntmps34
    go_wp2_with (go_at_call 35; refine (known_any _ _).mono ?_; rintro e w' ⟨rfl, rfl⟩)
    go_ret
    exact ⟨by simp [hasB, hk], (Below.refl _ _).alloc (Nat.le_refl _) _⟩
  · obtain rfl | rfl | rfl | rfl := known_of hk
    all_goals
      go_enter Try.func34, Try.ntmps34
      go_wp2_with (go_at_call 35; refine (known_any _ _).mono ?_; rintro e w' ⟨rfl, rfl⟩)
      go_ret
      exact ⟨by simp [hasB, hk, i64_and1], (Below.refl _ _).alloc (Nat.le_refl _) _⟩

end Go.Proofs.Ytjdoeehmnfbepaa.Num
