/-
  The contract of num.Convert.
-/
import Derived.Test.YtjdoeehmnfbepaaNumA
import Derived.Lib.Hide
namespace Go.Proofs.Ytjdoeehmnfbepaa.Num
open Go.RowKit

/-- num.Convert -/
def convV (s t n : Int) : Int × Int :=
  if knownB s = false then (0, 40) else if knownB t = false then (0, 40) else if ((s == 1) != (t == 1)) = true then (0, 40)
  else if fitsB s n = false then (0, 1) else (wrapT t n, 0)
def ConvTo (w : World) (v : Int × Int) (e : Ending) (w' : World) : Prop := e = .returned (.tuple #[.int .i64 v.1, .int .i64 v.2]) ∧ w = w'

theorem conv_to {s t n : Int} {w : World} {v : Int × Int} (h : Calls Try.prog 25 #[.int .i64 s, .int .i64 t, .int .i64 n] w (ConvTo w v)) (e : convV s t n = v) :
    Calls Try.prog 25 #[.int .i64 s, .int .i64 t, .int .i64 n] w (ConvTo w (convV s t n)) := by rw [e]; exact h

set_option maxHeartbeats 1000000 in
theorem conv_any (s t n : Int) (w : World) : Calls Try.prog 25 #[.int .i64 s, .int .i64 t, .int .i64 n] w (ConvTo w (convV s t n)) := by
  cases h1 : knownB s
  · refine conv_to (v := (0, 40)) ?_ (by simp [convV, h1])
    go_enter Try.func25, Try.ntmps25
    go_wp2_with (go_at_call 35; refine (known_any _ _).mono ?_; rintro e w' ⟨rfl, rfl⟩)
    go_ret2
    exact ⟨rfl, rfl⟩
  · cases h2 : knownB t
    · refine conv_to (v := (0, 40)) ?_ (by simp [convV, h1, h2])
      go_enter Try.func25, Try.ntmps25
      go_wp2_with (go_at_call 35; refine (known_any _ _).mono ?_; rintro e w' ⟨rfl, rfl⟩)
      go_ret2
      exact ⟨rfl, rfl⟩
    · have fin : ((s == 1) != (t == 1)) = true → Calls Try.prog 25 #[.int .i64 s, .int .i64 t, .int .i64 n] w (ConvTo w (convV s t n)) := by
        intro h3
        refine conv_to (v := (0, 40)) ?_ (by simp only [convV]; rw [if_neg (by simp [h1]), if_neg (by simp [h2]), if_pos h3])
        cases h4 : s == 1
        · cases h5 : t == 1
          · rw [h4, h5] at h3; simp at h3
          · clear h3
            go_enter Try.func25, Try.ntmps25
            go_wp2_with (go_at_call 35; refine (known_any _ _).mono ?_; rintro e w' ⟨rfl, rfl⟩)
            go_ret2
            exact ⟨rfl, rfl⟩
        · cases h5 : t == 1
          · clear h3
            go_enter Try.func25, Try.ntmps25
            go_wp2_with (go_at_call 35; refine (known_any _ _).mono ?_; rintro e w' ⟨rfl, rfl⟩)
            go_ret2
            exact ⟨rfl, rfl⟩
          · rw [h4, h5] at h3; simp at h3
      cases h3 : ((s == 1) != (t == 1))
      · cases h6 : fitsB s n
        · refine conv_to (v := (0, 1)) ?_ (by simp only [convV]; rw [if_neg (by simp [h1]), if_neg (by simp [h2]), if_neg (by simp [h3]), if_pos h6])
          clear fin
          cases h4 : s == 1
          all_goals
            cases h5 : t == 1
            all_goals first
              | (rw [h4, h5] at h3; simp at h3; done)
              | (clear h3
                 go_enter Try.func25, Try.ntmps25
                 go_wp2_with (first | (go_at_call 35; refine (known_any _ _).mono ?_; rintro e w' ⟨rfl, rfl⟩) | (go_at_call 27; refine (fits_any _ _ _).mono ?_; rintro e w' ⟨rfl, rfl⟩))
                 go_ret2
                 exact ⟨rfl, rfl⟩)
        · refine conv_to (v := (wrapT t n, 0)) ?_ (by simp only [convV]; rw [if_neg (by simp [h1]), if_neg (by simp [h2]), if_neg (by simp [h3]), if_neg (by simp [h6])])
          clear fin
          cases h4 : s == 1
          all_goals
            cases h5 : t == 1
            all_goals first
              | (rw [h4, h5] at h3; simp at h3; done)
              | (clear h3
                 go_enter Try.func25, Try.ntmps25
                 go_wp2_with (first | (go_at_call 35; refine (known_any _ _).mono ?_; rintro e w' ⟨rfl, rfl⟩) | (go_at_call 27; refine (fits_any _ _ _).mono ?_; rintro e w' ⟨rfl, rfl⟩) | (go_at_call 36; refine (wrap_any _ _ _).mono ?_; rintro e w' ⟨rfl, rfl⟩))
                 go_ret2
                 exact ⟨rfl, rfl⟩)
      · exact fin h3

end Go.Proofs.Ytjdoeehmnfbepaa.Num
