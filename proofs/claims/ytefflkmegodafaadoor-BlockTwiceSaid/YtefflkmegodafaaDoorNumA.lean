/-
  The walks of layer 4 (num): the small functions, and which operation there is.
-/
import Derived.Test.YtefflkmegodafaaDoorProg
import Derived.WalkKit
import Derived.WalkSpells
import Derived.WalkLawsBesides
import Derived.Deep.QuietTactic
import Derived.BigQuiet
import Derived.Test.YtefflkmegodafaaDoorNumP
namespace Go.Proofs.YtefflkmegodafaaDoor.Num
open Go.RowKit

set_option maxHeartbeats 400000 in
theorem known_any (t : Int) (w : World) : Calls Tryd.prog 46 #[.int .i64 t] w fun e w' => e = .returned (.bool (knownB t)) ∧ w = w' := by
  by_cases h1 : 1 ≤ t
  · go_enter Tryd.func46, Tryd.ntmps46
    go_wp2
    go_ret
    exact ⟨by simp [knownB, h1], rfl⟩
  · go_enter Tryd.func46, Tryd.ntmps46
    go_wp2
    go_ret
    exact ⟨by simp [knownB]; omega, rfl⟩

set_option maxHeartbeats 400000 in
theorem wrap_any (t n : Int) (w : World) : Calls Tryd.prog 47 #[.int .i64 t, .int .i64 n] w fun e w' => e = .returned (.int .i64 (wrapT t n)) ∧ w = w' := by
  by_cases h1 : t = 1
  · subst h1
    go_enter Tryd.func47, Tryd.ntmps47
    go_wp2
    go_ret
    exact ⟨by simp [wrapT], rfl⟩
  · by_cases h2 : t = 2
    · subst h2
      go_enter Tryd.func47, Tryd.ntmps47
      go_wp2
      go_ret
      exact ⟨by rw [w64_16]; rfl, rfl⟩
    · go_enter Tryd.func47, Tryd.ntmps47
      go_wp2
      go_ret
      exact ⟨by simp [wrapT, h1, h2, w64_32], rfl⟩

set_option maxHeartbeats 400000 in
theorem fits_any (t n : Int) (w : World) : Calls Tryd.prog 29 #[.int .i64 t, .int .i64 n] w fun e w' => e = .returned (.bool (fitsB t n)) ∧ w = w' := by
  cases hk : knownB t
  · go_enter Tryd.func29, Tryd.ntmps29
    go_wp2_with (go_at_call 46; refine (known_any _ _).mono ?_; rintro e w' ⟨rfl, rfl⟩)
    go_ret
    exact ⟨by simp [fitsB, hk], rfl⟩
  · go_enter Tryd.func29, Tryd.ntmps29
    go_wp2_with (first | (go_at_call 46; refine (known_any _ _).mono ?_; rintro e w' ⟨rfl, rfl⟩) | (go_at_call 47; refine (wrap_any _ _ _).mono ?_; rintro e w' ⟨rfl, rfl⟩))
    go_ret
    exact ⟨by simp [fitsB, hk], rfl⟩

set_option maxHeartbeats 1000000 in
theorem has_any (k t : Int) (x1 x2 x3 : Value) (w : World) : Calls Tryd.prog 66 #[.agg #[.int .i64 k, x1, x2, x3], .int .i64 t] w fun e w' => e = .returned (.bool (hasB k t)) ∧ Below w.heap.size w w' := by
  cases hk : knownB t
  · go_enter Tryd.func66, Tryd.ntmps66
    go_wp2_with (go_at_call 46; refine (known_any _ _).mono ?_; rintro e w' ⟨rfl, rfl⟩)
    go_ret
    exact ⟨by simp [hasB, hk], (Below.refl _ _).alloc (Nat.le_refl _) _⟩
  · obtain rfl | rfl | rfl | rfl := known_of hk
    all_goals
      go_enter Tryd.func66, Tryd.ntmps66
      go_wp2_with (go_at_call 46; refine (known_any _ _).mono ?_; rintro e w' ⟨rfl, rfl⟩)
      go_ret
      exact ⟨by simp [hasB, hk, i64_and1], (Below.refl _ _).alloc (Nat.le_refl _) _⟩

end Go.Proofs.YtefflkmegodafaaDoor.Num
