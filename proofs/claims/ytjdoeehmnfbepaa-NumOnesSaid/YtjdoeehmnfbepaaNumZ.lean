/-
  The walks of the reference of layer 4, more: pure, Two, One, Result.
-/
import Derived.Test.YtjdoeehmnfbepaaNumY
import Derived.Test.YtjdoeehmnfbepaaNumE
namespace Go.Proofs.Ytjdoeehmnfbepaa.Num
open Go.RowKit

theorem rflag_any (b : Bool) (w : World) : Calls Try.prog 39 #[.bool b] w fun e w' => e = .returned (.int .i64 (flagI b)) ∧ w = w' := by
  cases b
  all_goals
    go_enter Try.func39, Try.ntmps39
    go_wp2
    go_ret
    exact ⟨rfl, rfl⟩

set_option maxHeartbeats 1000000 in
theorem rpure_1 (a b : Int) (w : World) : Calls Try.prog 31 #[.int .i64 1, .int .i64 a, .int .i64 b] w fun e w' => e = .returned (.int .i64 (opV 1 a b)) ∧ w = w' := by
  go_enter Try.func31, Try.ntmps31
  go_wp2_with (go_at_call 39; refine (rflag_any _ _).mono ?_; rintro e w' ⟨rfl, rfl⟩)
  go_ret
  exact ⟨rfl, rfl⟩
set_option maxHeartbeats 1000000 in
theorem rpure_2 (a b : Int) (w : World) : Calls Try.prog 31 #[.int .i64 2, .int .i64 a, .int .i64 b] w fun e w' => e = .returned (.int .i64 (opV 2 a b)) ∧ w = w' := by
  go_enter Try.func31, Try.ntmps31
  go_wp2_with (go_at_call 39; refine (rflag_any _ _).mono ?_; rintro e w' ⟨rfl, rfl⟩)
  go_ret
  exact ⟨rfl, rfl⟩
set_option maxHeartbeats 1000000 in
theorem rpure_3 (a b : Int) (w : World) : Calls Try.prog 31 #[.int .i64 3, .int .i64 a, .int .i64 b] w fun e w' => e = .returned (.int .i64 (opV 3 a b)) ∧ w = w' := by
  go_enter Try.func31, Try.ntmps31
  go_wp2_with (go_at_call 39; refine (rflag_any _ _).mono ?_; rintro e w' ⟨rfl, rfl⟩)
  go_ret
  exact ⟨rfl, rfl⟩
set_option maxHeartbeats 1000000 in
theorem rpure_4 (a b : Int) (h6 : ¬ b = 0) (w : World) : Calls Try.prog 31 #[.int .i64 4, .int .i64 a, .int .i64 b] w fun e w' => e = .returned (.int .i64 (opV 4 a b)) ∧ w = w' := by
  go_enter Try.func31, Try.ntmps31
  go_wp2_with (go_at_call 39; refine (rflag_any _ _).mono ?_; rintro e w' ⟨rfl, rfl⟩)
  go_ret
  exact ⟨rfl, rfl⟩
set_option maxHeartbeats 1000000 in
theorem rpure_5 (a b : Int) (h6 : ¬ b = 0) (w : World) : Calls Try.prog 31 #[.int .i64 5, .int .i64 a, .int .i64 b] w fun e w' => e = .returned (.int .i64 (opV 5 a b)) ∧ w = w' := by
  go_enter Try.func31, Try.ntmps31
  go_wp2_with (go_at_call 39; refine (rflag_any _ _).mono ?_; rintro e w' ⟨rfl, rfl⟩)
  go_ret
  exact ⟨rfl, rfl⟩
set_option maxHeartbeats 1000000 in
theorem rpure_6 (a b : Int) (w : World) : Calls Try.prog 31 #[.int .i64 6, .int .i64 a, .int .i64 b] w fun e w' => e = .returned (.int .i64 (opV 6 a b)) ∧ w = w' := by
  go_enter Try.func31, Try.ntmps31
  go_wp2_with (go_at_call 39; refine (rflag_any _ _).mono ?_; rintro e w' ⟨rfl, rfl⟩)
  go_ret
  exact ⟨rfl, rfl⟩
set_option maxHeartbeats 1000000 in
theorem rpure_7 (a b : Int) (w : World) : Calls Try.prog 31 #[.int .i64 7, .int .i64 a, .int .i64 b] w fun e w' => e = .returned (.int .i64 (opV 7 a b)) ∧ w = w' := by
  go_enter Try.func31, Try.ntmps31
  go_wp2_with (go_at_call 39; refine (rflag_any _ _).mono ?_; rintro e w' ⟨rfl, rfl⟩)
  go_ret
  exact ⟨rfl, rfl⟩
set_option maxHeartbeats 1000000 in
theorem rpure_8 (a b : Int) (w : World) : Calls Try.prog 31 #[.int .i64 8, .int .i64 a, .int .i64 b] w fun e w' => e = .returned (.int .i64 (opV 8 a b)) ∧ w = w' := by
  go_enter Try.func31, Try.ntmps31
  go_wp2_with (go_at_call 39; refine (rflag_any _ _).mono ?_; rintro e w' ⟨rfl, rfl⟩)
  go_ret
  exact ⟨rfl, rfl⟩
set_option maxHeartbeats 1000000 in
theorem rpure_9 (a b : Int) (w : World) : Calls Try.prog 31 #[.int .i64 9, .int .i64 a, .int .i64 b] w fun e w' => e = .returned (.int .i64 (opV 9 a b)) ∧ w = w' := by
  go_enter Try.func31, Try.ntmps31
  go_wp2_with (go_at_call 39; refine (rflag_any _ _).mono ?_; rintro e w' ⟨rfl, rfl⟩)
  go_ret
  exact ⟨rfl, rfl⟩
set_option maxHeartbeats 1000000 in
theorem rpure_10 (a b : Int) (w : World) : Calls Try.prog 31 #[.int .i64 10, .int .i64 a, .int .i64 b] w fun e w' => e = .returned (.int .i64 (opV 10 a b)) ∧ w = w' := by
  go_enter Try.func31, Try.ntmps31
  go_wp2_with (go_at_call 39; refine (rflag_any _ _).mono ?_; rintro e w' ⟨rfl, rfl⟩)
  go_ret
  exact ⟨rfl, rfl⟩
set_option maxHeartbeats 1000000 in
theorem rpure_11 (a b : Int) (w : World) : Calls Try.prog 31 #[.int .i64 11, .int .i64 a, .int .i64 b] w fun e w' => e = .returned (.int .i64 (opV 11 a b)) ∧ w = w' := by
  go_enter Try.func31, Try.ntmps31
  go_wp2_with (go_at_call 39; refine (rflag_any _ _).mono ?_; rintro e w' ⟨rfl, rfl⟩)
  go_ret
  exact ⟨rfl, rfl⟩
set_option maxHeartbeats 1000000 in
theorem rpure_12 (a b : Int) (w : World) : Calls Try.prog 31 #[.int .i64 12, .int .i64 a, .int .i64 b] w fun e w' => e = .returned (.int .i64 (opV 12 a b)) ∧ w = w' := by
  go_enter Try.func31, Try.ntmps31
  go_wp2_with (go_at_call 39; refine (rflag_any _ _).mono ?_; rintro e w' ⟨rfl, rfl⟩)
  go_ret
  exact ⟨rfl, rfl⟩
set_option maxHeartbeats 1000000 in
theorem rpure_13 (a b : Int) (w : World) : Calls Try.prog 31 #[.int .i64 13, .int .i64 a, .int .i64 b] w fun e w' => e = .returned (.int .i64 (opV 13 a b)) ∧ w = w' := by
  go_enter Try.func31, Try.ntmps31
  go_wp2_with (go_at_call 39; refine (rflag_any _ _).mono ?_; rintro e w' ⟨rfl, rfl⟩)
  go_ret
  exact ⟨rfl, rfl⟩
set_option maxHeartbeats 1000000 in
theorem rpure_14 (a b : Int) (w : World) : Calls Try.prog 31 #[.int .i64 14, .int .i64 a, .int .i64 b] w fun e w' => e = .returned (.int .i64 (opV 14 a b)) ∧ w = w' := by
  go_enter Try.func31, Try.ntmps31
  go_wp2_with (go_at_call 39; refine (rflag_any _ _).mono ?_; rintro e w' ⟨rfl, rfl⟩)
  go_ret
  exact ⟨rfl, rfl⟩

theorem rpure_any (n a b : Int) (h : 1 ≤ n ∧ n ≤ 14) (h6 : ¬ ((n = 4 ∨ n = 5) ∧ b = 0)) (w : World) : Calls Try.prog 31 #[.int .i64 n, .int .i64 a, .int .i64 b] w fun e w' => e = .returned (.int .i64 (opV n a b)) ∧ w = w' := by
  have hn : n = 1 ∨ n = 2 ∨ n = 3 ∨ n = 4 ∨ n = 5 ∨ n = 6 ∨ n = 7 ∨ n = 8 ∨ n = 9 ∨ n = 10 ∨ n = 11 ∨ n = 12 ∨ n = 13 ∨ n = 14 := by omega
  rcases hn with rfl | rfl | rfl | rfl | rfl | rfl | rfl | rfl | rfl | rfl | rfl | rfl | rfl | rfl
  · exact rpure_1 a b w
  · exact rpure_2 a b w
  · exact rpure_3 a b w
  · exact rpure_4 a b (by omega) w
  · exact rpure_5 a b (by omega) w
  · exact rpure_6 a b w
  · exact rpure_7 a b w
  · exact rpure_8 a b w
  · exact rpure_9 a b w
  · exact rpure_10 a b w
  · exact rpure_11 a b w
  · exact rpure_12 a b w
  · exact rpure_13 a b w
  · exact rpure_14 a b w

theorem rhas_two (n t : Int) (w : World) : Calls Try.prog 30 #[.int .i64 n, .int .i64 t, .int .i64 2] w fun e w' => e = .returned (.bool (hasV n t false)) ∧ w = w' := by
  cases hk : knownB t
  · have e : hasV n t false = false := by simp [hasV, hasB, hk]
    go_enter Try.func30, Try.ntmps30
    go_wp2_with (go_at_call 37; refine (rtype_any _ _).mono ?_; rintro e w' ⟨rfl, rfl⟩)
    go_ret
    exact ⟨ret_bool e.symm, rfl⟩
  · obtain rfl | rfl | rfl | rfl := known_of hk
    · exact rhas_1_false n w
    · exact rhas_2_false n w
    · exact rhas_3_false n w
    · exact rhas_4_false n w
theorem rhas_one (n t : Int) (w : World) : Calls Try.prog 30 #[.int .i64 n, .int .i64 t, .int .i64 1] w fun e w' => e = .returned (.bool (hasV n t true)) ∧ w = w' := by
  cases hk : knownB t
  · have e : hasV n t true = false := by simp [hasV, hasB, hk]
    go_enter Try.func30, Try.ntmps30
    go_wp2_with (go_at_call 37; refine (rtype_any _ _).mono ?_; rintro e w' ⟨rfl, rfl⟩)
    go_ret
    exact ⟨ret_bool e.symm, rfl⟩
  · obtain rfl | rfl | rfl | rfl := known_of hk
    · exact rhas_1_true n w
    · exact rhas_2_true n w
    · exact rhas_3_true n w
    · exact rhas_4_true n w

theorem does_has {n t a b : Int} {one : Bool} (h : hasV n t one = false) : doesV n t one a b = (0, 40) := by
  simp only [hasV, Bool.and_eq_false_iff, decide_eq_false_iff_not] at h
  unfold doesV
  by_cases h1 : 1 ≤ n ∧ n ≤ 16
  · rw [if_neg (by omega)]
    by_cases h2 : opOne n = one
    · rw [if_neg (by simp [h2])]
      rw [if_pos]
      rcases h with (h | h) | h
      · exact absurd h1 h
      · simp [h2] at h
      · exact h
    · rw [if_pos (by simp [h2])]
  · rw [if_pos h1]
theorem has_all {n t : Int} {one : Bool} (h : hasV n t one = true) : (1 ≤ n ∧ n ≤ 16) ∧ opOne n = one ∧ hasB (opK n) t = true ∧ knownB t = true := by
  simp only [hasV, Bool.and_eq_true, decide_eq_true_eq, beq_iff_eq] at h
  refine ⟨h.1.1, h.1.2, h.2, ?_⟩
  have := h.2
  simp only [hasB, Bool.and_eq_true] at this
  exact this.1

/-- capstanref04.Two, One -/
theorem rtwo_to {n t a b : Int} {w : World} {v : Int × Int} (h : Calls Try.prog 18 #[.int .i64 n, .int .i64 t, .int .i64 a, .int .i64 b] w (ConvTo w v)) (e : doesV n t false a b = v) :
    Calls Try.prog 18 #[.int .i64 n, .int .i64 t, .int .i64 a, .int .i64 b] w (ConvTo w (doesV n t false a b)) := by rw [e]; exact h
theorem rone_to {n t a : Int} {w : World} {v : Int × Int} (h : Calls Try.prog 22 #[.int .i64 n, .int .i64 t, .int .i64 a] w (ConvTo w v)) (e : doesV n t true a a = v) :
    Calls Try.prog 22 #[.int .i64 n, .int .i64 t, .int .i64 a] w (ConvTo w (doesV n t true a a)) := by rw [e]; exact h

set_option maxHeartbeats 2000000 in
theorem rtwo_any (n t a b : Int) (w : World) : Calls Try.prog 18 #[.int .i64 n, .int .i64 t, .int .i64 a, .int .i64 b] w (ConvTo w (doesV n t false a b)) := by
  cases hh : hasV n t false
  · refine rtwo_to (v := (0, 40)) ?_ (does_has hh)
    go_enter Try.func18, Try.ntmps18
    go_wp2_with (go_at_call 30; refine (rhas_two _ _ _).mono ?_; rintro e w' ⟨rfl, rfl⟩)
    go_ret2
    exact ⟨rfl, rfl⟩
  · obtain ⟨h1, h2, h3, h4⟩ := has_all hh
    have h1' : 1 ≤ n ∧ n ≤ 14 := by simp [opOne] at h2; omega
    cases ha : fitsB t a
    · refine rtwo_to (v := (0, 1)) ?_ (by simp only [doesV]; rw [if_neg (by omega), if_neg (by simp [h2]), if_neg (by simp [h3]), if_pos ha])
      clear h1 h2 h3 h4 h1'
      go_enter Try.func18, Try.ntmps18
      go_wp2_with (first | (go_at_call 30; refine (rhas_two _ _ _).mono ?_; rintro e w' ⟨rfl, rfl⟩) | (go_at_call 28; refine (rfits_any _ _ _).mono ?_; rintro e w' ⟨rfl, rfl⟩))
      go_ret2
      exact ⟨rfl, rfl⟩
    · cases hb : fitsB t b
      · refine rtwo_to (v := (0, 1)) ?_ (by simp only [doesV]; rw [if_neg (by omega), if_neg (by simp [h2]), if_neg (by simp [h3]), if_neg (by simp [ha]), if_pos hb])
        clear h1 h2 h3 h4 h1'
        go_enter Try.func18, Try.ntmps18
        go_wp2_with (first | (go_at_call 30; refine (rhas_two _ _ _).mono ?_; rintro e w' ⟨rfl, rfl⟩) | (go_at_call 28; refine (rfits_any _ _ _).mono ?_; rintro e w' ⟨rfl, rfl⟩))
        go_ret2
        exact ⟨rfl, rfl⟩
      · by_cases h6 : (n = 4 ∨ n = 5) ∧ b = 0
        · refine rtwo_to (v := (0, 41)) ?_ (by simp only [doesV]; rw [if_neg (by omega), if_neg (by simp [h2]), if_neg (by simp [h3]), if_neg (by simp [ha]), if_neg (by simp [hb]), if_pos h6])
          obtain ⟨h7, rfl⟩ := h6
          clear h1 h2 h3 h4 h1'
          rcases h7 with rfl | rfl
          all_goals
            go_enter Try.func18, Try.ntmps18
            go_wp2_with (first | (go_at_call 30; refine (rhas_two _ _ _).mono ?_; rintro e w' ⟨rfl, rfl⟩) | (go_at_call 28; refine (rfits_any _ _ _).mono ?_; rintro e w' ⟨rfl, rfl⟩))
            go_ret2
            exact ⟨rfl, rfl⟩
        · have H6 := Lib.hid h6
          by_cases h9 : 9 ≤ n
          · have ht : opTruth n = true := by simp [opTruth]; omega
            refine rtwo_to (v := (opV n a b, 0)) ?_ (by simp only [doesV]; rw [if_neg (by omega), if_neg (by simp [h2]), if_neg (by simp [h3]), if_neg (by simp [ha]), if_neg (by simp [hb]), if_neg h6, if_pos ht])
            have e4 : (n == 4) = false := by rw [beq_eq_false_iff_ne]; omega
            have e5 : (n == 5) = false := by rw [beq_eq_false_iff_ne]; omega
            clear h1 h2 h3 h4 h6 ht
            go_enter Try.func18, Try.ntmps18
            go_wp2_with (first | (go_at_call 30; refine (rhas_two _ _ _).mono ?_; rintro e w' ⟨rfl, rfl⟩) | (go_at_call 28; refine (rfits_any _ _ _).mono ?_; rintro e w' ⟨rfl, rfl⟩) | (go_at_call 31; refine (rpure_any _ _ _ h1' H6.out _).mono ?_; rintro e w' ⟨rfl, rfl⟩))
            go_ret2
            exact ⟨rfl, rfl⟩
          · have ht : opTruth n = false := by simp [opTruth]; omega
            refine rtwo_to (v := (wrapT t (opV n a b), 0)) ?_ (by simp only [doesV]; rw [if_neg (by omega), if_neg (by simp [h2]), if_neg (by simp [h3]), if_neg (by simp [ha]), if_neg (by simp [hb]), if_neg h6, if_neg (by simp [ht])])
            have hb0 : b = 0 ∨ ¬ b = 0 := by omega
            have hn : n = 4 ∨ n = 5 ∨ (¬ n = 4 ∧ ¬ n = 5) := by omega
            clear h1 h2 h3 h6 ht
            rcases hn with rfl | rfl | ⟨g1, g2⟩
            · have g : ¬ b = 0 := by have := H6.out; omega
              clear hb0
              go_enter Try.func18, Try.ntmps18
              go_wp2_with (first | (go_at_call 30; refine (rhas_two _ _ _).mono ?_; rintro e w' ⟨rfl, rfl⟩) | (go_at_call 28; refine (rfits_any _ _ _).mono ?_; rintro e w' ⟨rfl, rfl⟩) | (go_at_call 31; refine (rpure_4 _ _ g _).mono ?_; rintro e w' ⟨rfl, rfl⟩) | (go_at_call 32; refine (rwrapped_any _ _ h4 _).mono ?_; rintro e w' ⟨rfl, rfl⟩))
              go_ret2
              exact ⟨rfl, rfl⟩
            · have g : ¬ b = 0 := by have := H6.out; omega
              clear hb0
              go_enter Try.func18, Try.ntmps18
              go_wp2_with (first | (go_at_call 30; refine (rhas_two _ _ _).mono ?_; rintro e w' ⟨rfl, rfl⟩) | (go_at_call 28; refine (rfits_any _ _ _).mono ?_; rintro e w' ⟨rfl, rfl⟩) | (go_at_call 31; refine (rpure_5 _ _ g _).mono ?_; rintro e w' ⟨rfl, rfl⟩) | (go_at_call 32; refine (rwrapped_any _ _ h4 _).mono ?_; rintro e w' ⟨rfl, rfl⟩))
              go_ret2
              exact ⟨rfl, rfl⟩
            · have e4 : (n == 4) = false := by rw [beq_eq_false_iff_ne]; exact g1
              have e5 : (n == 5) = false := by rw [beq_eq_false_iff_ne]; exact g2
              clear hb0
              go_enter Try.func18, Try.ntmps18
              go_wp2_with (first | (go_at_call 30; refine (rhas_two _ _ _).mono ?_; rintro e w' ⟨rfl, rfl⟩) | (go_at_call 28; refine (rfits_any _ _ _).mono ?_; rintro e w' ⟨rfl, rfl⟩) | (go_at_call 31; refine (rpure_any _ _ _ h1' H6.out _).mono ?_; rintro e w' ⟨rfl, rfl⟩) | (go_at_call 32; refine (rwrapped_any _ _ h4 _).mono ?_; rintro e w' ⟨rfl, rfl⟩))
              go_ret2
              exact ⟨rfl, rfl⟩

set_option maxHeartbeats 2000000 in
theorem rone_any (n t a : Int) (ha64 : -9223372036854775808 ≤ a ∧ a ≤ 9223372036854775807) (w : World) : Calls Try.prog 22 #[.int .i64 n, .int .i64 t, .int .i64 a] w (ConvTo w (doesV n t true a a)) := by
  cases hh : hasV n t true
  · refine rone_to (v := (0, 40)) ?_ (does_has hh)
    clear ha64
    go_enter Try.func22, Try.ntmps22
    go_wp2_with (go_at_call 30; refine (rhas_one _ _ _).mono ?_; rintro e w' ⟨rfl, rfl⟩)
    go_ret2
    exact ⟨rfl, rfl⟩
  · obtain ⟨h1, h2, h3, h4⟩ := has_all hh
    have hn : n = 15 ∨ n = 16 := by simp [opOne] at h2; omega
    cases ha : fitsB t a
    · refine rone_to (v := (0, 1)) ?_ (by simp only [doesV]; rw [if_neg (by omega), if_neg (by simp [h2]), if_neg (by simp [h3]), if_pos ha])
      clear h1 h2 h3 h4 hn ha64
      go_enter Try.func22, Try.ntmps22
      go_wp2_with (first | (go_at_call 30; refine (rhas_one _ _ _).mono ?_; rintro e w' ⟨rfl, rfl⟩) | (go_at_call 28; refine (rfits_any _ _ _).mono ?_; rintro e w' ⟨rfl, rfl⟩))
      go_ret2
      exact ⟨rfl, rfl⟩
    · rcases hn with rfl | rfl
      · refine rone_to (v := (wrapT t (wrap64 (-a)), 0)) ?_ (by simp [doesV, h2, h3, ha, opTruth, opV])
        clear h1 h2 h3 ha64
        go_enter Try.func22, Try.ntmps22
        go_wp2_with (first | (go_at_call 30; refine (rhas_one _ _ _).mono ?_; rintro e w' ⟨rfl, rfl⟩) | (go_at_call 28; refine (rfits_any _ _ _).mono ?_; rintro e w' ⟨rfl, rfl⟩) | (go_at_call 32; refine (rwrapped_any _ _ h4 _).mono ?_; rintro e w' ⟨rfl, rfl⟩))
        go_ret2
        exact ⟨rfl, rfl⟩
      · have hx : bits .xor .i64 (-1) a = -1 - a := not_i64 a ha64.1 ha64.2
        by_cases ht : t = 1
        · subst ht
          have f := fits1.1 ha
          refine rone_to (v := (1 - a, 0)) ?_ (by simp only [doesV, opV]; rw [if_neg (by omega), if_neg (by simp [h2]), if_neg (by simp [h3]), if_neg (by simp [ha]), if_neg (by simp [ha]), if_neg (by omega), if_neg (by simp [opTruth])]; simp [hx, wrap1]; omega)
          clear h1 h2 h3 hx ha64
          obtain ⟨f1, f2⟩ := f
          go_enter Try.func22, Try.ntmps22
          go_wp2_with (first | (go_at_call 30; refine (rhas_one _ _ _).mono ?_; rintro e w' ⟨rfl, rfl⟩) | (go_at_call 28; refine (rfits_any _ _ _).mono ?_; rintro e w' ⟨rfl, rfl⟩))
          go_ret2
          exact ⟨rfl, rfl⟩
        · refine rone_to (v := (wrapT t (-1 - a), 0)) ?_ (by simp [doesV, h2, h3, ha, opTruth, opV, hx])
          have e1 : (t == 1) = false := by rw [beq_eq_false_iff_ne]; exact ht
          obtain ⟨f1, f2⟩ := ha64
          clear h1 h2 h3 hx ht
          go_enter Try.func22, Try.ntmps22
          go_wp2_with (first | (go_at_call 30; refine (rhas_one _ _ _).mono ?_; rintro e w' ⟨rfl, rfl⟩) | (go_at_call 28; refine (rfits_any _ _ _).mono ?_; rintro e w' ⟨rfl, rfl⟩) | (go_at_call 32; refine (rwrapped_any _ _ h4 _).mono ?_; rintro e w' ⟨rfl, rfl⟩))
          go_ret2
          exact ⟨rfl, rfl⟩

theorem rresult_to {n t : Int} {w : World} {v : Int × Int} (h : Calls Try.prog 20 #[.int .i64 n, .int .i64 t] w (ConvTo w v)) (e : resultV n t = v) :
    Calls Try.prog 20 #[.int .i64 n, .int .i64 t] w (ConvTo w (resultV n t)) := by rw [e]; exact h

theorem has_cases (n t : Int) : (hasV n t true = true ∧ hasV n t false = false ∧ 1 ≤ n ∧ n ≤ 16 ∧ 15 ≤ n ∧ hasB (opK n) t = true) ∨ (hasV n t true = false ∧ hasV n t false = true ∧ 1 ≤ n ∧ n < 15 ∧ hasB (opK n) t = true) ∨
    (hasV n t true = false ∧ hasV n t false = false ∧ (¬ (1 ≤ n ∧ n ≤ 16) ∨ hasB (opK n) t = false)) := by
  by_cases h : 1 ≤ n ∧ n ≤ 16
  · cases hb : hasB (opK n) t
    · right; right; simp [hasV, hb]
    · by_cases h15 : 15 ≤ n
      · left; simp [hasV, hb, opOne, h15]; omega
      · right; left; simp [hasV, hb, opOne, h15]; omega
  · right; right
    refine ⟨?_, ?_, .inl h⟩ <;> simp only [hasV, decide_eq_false h, Bool.false_and]

set_option maxHeartbeats 2000000 in
theorem rresult_any (n t : Int) (w : World) : Calls Try.prog 20 #[.int .i64 n, .int .i64 t] w (ConvTo w (resultV n t)) := by
  rcases has_cases n t with ⟨a1, a2, a3, a4, a5, a6⟩ | ⟨a1, a2, a3, a4, a5⟩ | ⟨a1, a2, a3⟩
  · refine rresult_to (v := (t, 0)) ?_ (by simp only [resultV]; rw [if_neg (by omega), if_neg (by simp [a6]), if_neg (by simp [opTruth]; omega)])
    clear a3 a4 a6
    go_enter Try.func20, Try.ntmps20
    go_wp2_with (go_at_call 30; (first | (with_reducible refine (rhas_two _ _ _).mono ?_) | (with_reducible refine (rhas_one _ _ _).mono ?_)); rintro e w' ⟨rfl, rfl⟩)
    go_ret2
    exact ⟨rfl, rfl⟩
  · by_cases h9 : 9 ≤ n
    · refine rresult_to (v := (1, 0)) ?_ (by simp only [resultV]; rw [if_neg (by omega), if_neg (by simp [a5]), if_pos (by simp [opTruth]; omega)])
      clear a3 a5
      go_enter Try.func20, Try.ntmps20
      go_wp2_with (go_at_call 30; (first | (with_reducible refine (rhas_two _ _ _).mono ?_) | (with_reducible refine (rhas_one _ _ _).mono ?_)); rintro e w' ⟨rfl, rfl⟩)
      go_ret2
      exact ⟨rfl, rfl⟩
    · refine rresult_to (v := (t, 0)) ?_ (by simp only [resultV]; rw [if_neg (by omega), if_neg (by simp [a5]), if_neg (by simp [opTruth]; omega)])
      clear a3 a5
      go_enter Try.func20, Try.ntmps20
      go_wp2_with (go_at_call 30; (first | (with_reducible refine (rhas_two _ _ _).mono ?_) | (with_reducible refine (rhas_one _ _ _).mono ?_)); rintro e w' ⟨rfl, rfl⟩)
      go_ret2
      exact ⟨rfl, rfl⟩
  · refine rresult_to (v := (0, 40)) ?_ (by unfold resultV; rcases a3 with h | h; exact if_pos h; simp [h])
    clear a3
    go_enter Try.func20, Try.ntmps20
    go_wp2_with (go_at_call 30; (first | (with_reducible refine (rhas_two _ _ _).mono ?_) | (with_reducible refine (rhas_one _ _ _).mono ?_)); rintro e w' ⟨rfl, rfl⟩)
    go_ret2
    exact ⟨rfl, rfl⟩

theorem names_any (w : World) : Calls Try.prog 21 #[] w fun e w' => e = .returned (.bool true) ∧ w = w' := by
  go_enter Try.func21, Try.ntmps21
  go_wp2
  go_ret
  exact ⟨rfl, rfl⟩

end Go.Proofs.Ytjdoeehmnfbepaa.Num
