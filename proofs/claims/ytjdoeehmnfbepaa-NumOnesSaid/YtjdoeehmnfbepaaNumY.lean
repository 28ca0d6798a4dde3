/-
  The walks of the reference of layer 4, more: Fits, Wrapped, Wrap, Convert, pure.
-/
import Derived.Test.YtjdoeehmnfbepaaNumX
import Derived.Test.YtjdoeehmnfbepaaNumS
namespace Go.Proofs.Ytjdoeehmnfbepaa.Num
open Go.RowKit

theorem not_known {t : Int} (h : knownB t = false) (n : Int) : fitsB t n = false := by simp [fitsB, h]

set_option maxHeartbeats 1000000 in
theorem rfits_any (t n : Int) (w : World) : Calls Try.prog 28 #[.int .i64 t, .int .i64 n] w fun e w' => e = .returned (.bool (fitsB t n)) ∧ w = w' := by
  cases hk : knownB t
  · have h1 : (t == 1) = false := by rw [beq_eq_false_iff_ne]; rintro rfl; exact absurd hk (by decide)
    go_enter Try.func28, Try.ntmps28
    go_wp2_with (go_at_call 37; refine (rtype_any _ _).mono ?_; rintro e w' ⟨rfl, rfl⟩)
    go_ret
    exact ⟨ret_bool (not_known hk n).symm, rfl⟩
  · obtain rfl | rfl | rfl | rfl := known_of hk
    · go_enter Try.func28, Try.ntmps28
      go_wp2_with (first | (go_at_call 37; refine (rtype_any _ _).mono ?_; rintro e w' ⟨rfl, rfl⟩) | go_in)
      all_goals go_ret
      all_goals refine ⟨ret_bool ?_, rfl⟩
      all_goals try simp only [beq_iff_eq, beq_eq_false_iff_ne, ne_eq] at *
      all_goals rw [Bool.eq_iff_iff, fits1]
      all_goals simp
      all_goals omega
    · go_enter Try.func28, Try.ntmps28
      go_wp2_with (first | (go_at_call 37; refine (rtype_any _ _).mono ?_; rintro e w' ⟨rfl, rfl⟩) | go_in)
      all_goals go_ret
      all_goals refine ⟨ret_bool ?_, rfl⟩
      all_goals try simp only [beq_iff_eq, beq_eq_false_iff_ne, ne_eq] at *
      all_goals rw [Bool.eq_iff_iff, fits2]
      all_goals simp
      all_goals omega
    · go_enter Try.func28, Try.ntmps28
      go_wp2_with (first | (go_at_call 37; refine (rtype_any _ _).mono ?_; rintro e w' ⟨rfl, rfl⟩) | go_in)
      all_goals go_ret
      all_goals refine ⟨ret_bool ?_, rfl⟩
      all_goals try simp only [beq_iff_eq, beq_eq_false_iff_ne, ne_eq] at *
      all_goals rw [Bool.eq_iff_iff, fits3]
      all_goals simp
      all_goals omega
    · go_enter Try.func28, Try.ntmps28
      go_wp2_with (first | (go_at_call 37; refine (rtype_any _ _).mono ?_; rintro e w' ⟨rfl, rfl⟩) | go_in)
      all_goals go_ret
      all_goals refine ⟨ret_bool ?_, rfl⟩
      all_goals try simp only [beq_iff_eq, beq_eq_false_iff_ne, ne_eq] at *
      all_goals rw [Bool.eq_iff_iff, fits4]
      all_goals simp
      all_goals omega

theorem tmod_part (n m : Int) (hm : 0 < m) : ∃ r q, n.tmod m = r ∧ Hid (n = m * q + r) ∧ -m < r ∧ r < m := by
  refine ⟨n.tmod m, n.tdiv m, rfl, (Int.mul_tdiv_add_tmod n m).symm, ?_, Int.tmod_lt_of_pos n hm⟩
  have h : (n.tmod m).natAbs < m.natAbs := by
    rw [Int.natAbs_tmod]; exact Nat.mod_lt _ (by omega)
  omega

set_option maxHeartbeats 1000000 in
theorem rwrapped_any (t n : Int) (hk : knownB t = true) (w : World) : Calls Try.prog 32 #[.int .i64 t, .int .i64 n] w fun e w' => e = .returned (.int .i64 (wrapT t n)) ∧ w = w' := by
  obtain rfl | rfl | rfl | rfl := known_of hk
  · clear hk
    go_enter Try.func32, Try.ntmps32
    go_wp2_with go_in
    go_ret
    exact ⟨rfl, rfl⟩
  · clear hk
    obtain ⟨r, q, hr, H, h1, h2⟩ := tmod_part n 65536 (by omega)
    go_enter Try.func32, Try.ntmps32
    go_wp2_with go_in
    all_goals go_ret
    all_goals refine ⟨ret_int ?_, rfl⟩
    all_goals have h := H.out
    all_goals rw [wrap2]
    all_goals omega
  · clear hk
    obtain ⟨r, q, hr, H, h1, h2⟩ := tmod_part n 4294967296 (by omega)
    go_enter Try.func32, Try.ntmps32
    go_wp2_with go_in
    all_goals go_ret
    all_goals refine ⟨ret_int ?_, rfl⟩
    all_goals have h := H.out
    all_goals rw [wrap3]
    all_goals omega
  · clear hk
    obtain ⟨r, q, hr, H, h1, h2⟩ := tmod_part n 4294967296 (by omega)
    go_enter Try.func32, Try.ntmps32
    go_wp2_with go_in
    all_goals go_ret
    all_goals refine ⟨ret_int ?_, rfl⟩
    all_goals have h := H.out
    all_goals rw [wrap4]
    all_goals omega

set_option maxHeartbeats 1000000 in
theorem rwrapE_any (t n : Int) (w : World) : Calls Try.prog 24 #[.int .i64 t, .int .i64 n] w fun e w' => e = .returned (.tuple #[.int .i64 (if knownB t = true then wrapT t n else 0), .int .i64 (if knownB t = true then 0 else 40)]) ∧ w = w' := by
  cases hk : knownB t
  · go_enter Try.func24, Try.ntmps24
    go_wp2_with (go_at_call 37; refine (rtype_any _ _).mono ?_; rintro e w' ⟨rfl, rfl⟩)
    go_ret2
    exact ⟨by simp, rfl⟩
  · go_enter Try.func24, Try.ntmps24
    go_wp2_with fail
    refine (rtype_any _ _).mono ?_
    rintro e w' ⟨rfl, rfl⟩
    go_wp2_with fail
    refine (rwrapped_any _ _ hk _).mono ?_
    rintro e w' ⟨rfl, rfl⟩
    go_wp2
    go_ret2
    exact ⟨by simp, rfl⟩

theorem rconv_to {s t n : Int} {w : World} {v : Int × Int} (h : Calls Try.prog 26 #[.int .i64 s, .int .i64 t, .int .i64 n] w (ConvTo w v)) (e : convV s t n = v) :
    Calls Try.prog 26 #[.int .i64 s, .int .i64 t, .int .i64 n] w (ConvTo w (convV s t n)) := by rw [e]; exact h

set_option maxHeartbeats 1000000 in
theorem rconv_any (s t n : Int) (w : World) : Calls Try.prog 26 #[.int .i64 s, .int .i64 t, .int .i64 n] w (ConvTo w (convV s t n)) := by
  cases h1 : knownB s
  · refine rconv_to (v := (0, 40)) ?_ (by simp [convV, h1])
    go_enter Try.func26, Try.ntmps26
    go_wp2_with (go_at_call 37; refine (rtype_any _ _).mono ?_; rintro e w' ⟨rfl, rfl⟩)
    go_ret2
    exact ⟨rfl, rfl⟩
  · cases h2 : knownB t
    · refine rconv_to (v := (0, 40)) ?_ (by simp [convV, h1, h2])
      go_enter Try.func26, Try.ntmps26
      go_wp2_with (go_at_call 37; refine (rtype_any _ _).mono ?_; rintro e w' ⟨rfl, rfl⟩)
      go_ret2
      exact ⟨rfl, rfl⟩
    · cases h3 : ((s == 1) != (t == 1))
      · cases h6 : fitsB s n
        · refine rconv_to (v := (0, 1)) ?_ (by simp only [convV]; rw [if_neg (by simp [h1]), if_neg (by simp [h2]), if_neg (by simp [h3]), if_pos h6])
          cases h4 : s == 1
          all_goals
            cases h5 : t == 1
            all_goals first
              | (rw [h4, h5] at h3; simp at h3; done)
              | (clear h3
                 go_enter Try.func26, Try.ntmps26
                 go_wp2_with (first | (go_at_call 37; refine (rtype_any _ _).mono ?_; rintro e w' ⟨rfl, rfl⟩) | (go_at_call 28; refine (rfits_any _ _ _).mono ?_; rintro e w' ⟨rfl, rfl⟩))
                 go_ret2
                 exact ⟨rfl, rfl⟩)
        · refine rconv_to (v := (wrapT t n, 0)) ?_ (by simp only [convV]; rw [if_neg (by simp [h1]), if_neg (by simp [h2]), if_neg (by simp [h3]), if_neg (by simp [h6])])
          cases h4 : s == 1
          all_goals
            cases h5 : t == 1
            all_goals first
              | (rw [h4, h5] at h3; simp at h3; done)
              | (clear h3
                 go_enter Try.func26, Try.ntmps26
                 go_wp2_with (first | (go_at_call 37; refine (rtype_any _ _).mono ?_; rintro e w' ⟨rfl, rfl⟩) | (go_at_call 28; refine (rfits_any _ _ _).mono ?_; rintro e w' ⟨rfl, rfl⟩) | (go_at_call 32; refine (rwrapped_any _ _ h2 _).mono ?_; rintro e w' ⟨rfl, rfl⟩))
                 go_ret2
                 exact ⟨rfl, rfl⟩)
      · refine rconv_to (v := (0, 40)) ?_ (by simp only [convV]; rw [if_neg (by simp [h1]), if_neg (by simp [h2]), if_pos h3])
        cases h4 : s == 1
        all_goals
          cases h5 : t == 1
          all_goals first
            | (rw [h4, h5] at h3; simp at h3; done)
            | (clear h3
               go_enter Try.func26, Try.ntmps26
               go_wp2_with (go_at_call 37; refine (rtype_any _ _).mono ?_; rintro e w' ⟨rfl, rfl⟩)
               go_ret2
               exact ⟨rfl, rfl⟩)

end Go.Proofs.Ytjdoeehmnfbepaa.Num
