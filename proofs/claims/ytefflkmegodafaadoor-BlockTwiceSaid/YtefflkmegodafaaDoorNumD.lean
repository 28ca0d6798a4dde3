/-
  The walk of num.does, where it does the operation: one theorem an operation; then the contract of num.does, num.Two, num.One, num.Result, num.Convert.
-/
import Derived.Test.YtefflkmegodafaaDoorNumC
namespace Go.Proofs.YtefflkmegodafaaDoor.Num
open Go.RowKit

set_option maxRecDepth 100000 in
set_option maxHeartbeats 1000000 in
theorem does_G1 (t a b : Int) (w : World) (h3 : hasB (opK 1) t = true) (h4 : fitsB t a = true) (h5 : fitsB t b = true) : Calls Tryd.prog 60 #[.int .i64 1, .int .i64 t, .bool false, .int .i64 a, .int .i64 b] w (DoesTo w (wrapT t (opV 1 a b), 0)) := by
  have hF : opF 1 = 69 := rfl
  have hO : opOne 1 = false := rfl
  have hT : opTruth 1 = false := rfl
  go_enter Tryd.func60, Tryd.ntmps60
  go_wp2_with fail
  refine (find_yes 1 (by decide) (by decide) _).mono ?_
  rintro e w1 ⟨rfl, hb⟩
  go_wp2_with fail
  refine (has_at _ _ _ _ _ _).mono ?_
  rintro e w' ⟨rfl, rfl⟩
  go_wp2_with fail
  refine (fits_any _ _ _).mono ?_
  rintro e w' ⟨rfl, rfl⟩
  go_wp2_with fail
  refine (fits_any _ _ _).mono ?_
  rintro e w' ⟨rfl, rfl⟩
  go_wp2_with (first | (go_at_call 47; refine (wrap_any _ _ _).mono ?_; rintro e w' ⟨rfl, rfl⟩) | go_in)
  go_ret2
  exact ⟨rfl, (hb.alloc hb.size _).alloc (by simp; have := hb.size; omega) _⟩

set_option maxRecDepth 100000 in
set_option maxHeartbeats 1000000 in
theorem does_G2 (t a b : Int) (w : World) (h3 : hasB (opK 2) t = true) (h4 : fitsB t a = true) (h5 : fitsB t b = true) : Calls Tryd.prog 60 #[.int .i64 2, .int .i64 t, .bool false, .int .i64 a, .int .i64 b] w (DoesTo w (wrapT t (opV 2 a b), 0)) := by
  have hF : opF 2 = 70 := rfl
  have hO : opOne 2 = false := rfl
  have hT : opTruth 2 = false := rfl
  go_enter Tryd.func60, Tryd.ntmps60
  go_wp2_with fail
  refine (find_yes 2 (by decide) (by decide) _).mono ?_
  rintro e w1 ⟨rfl, hb⟩
  go_wp2_with fail
  refine (has_at _ _ _ _ _ _).mono ?_
  rintro e w' ⟨rfl, rfl⟩
  go_wp2_with fail
  refine (fits_any _ _ _).mono ?_
  rintro e w' ⟨rfl, rfl⟩
  go_wp2_with fail
  refine (fits_any _ _ _).mono ?_
  rintro e w' ⟨rfl, rfl⟩
  go_wp2_with (first | (go_at_call 47; refine (wrap_any _ _ _).mono ?_; rintro e w' ⟨rfl, rfl⟩) | go_in)
  go_ret2
  exact ⟨rfl, (hb.alloc hb.size _).alloc (by simp; have := hb.size; omega) _⟩

set_option maxRecDepth 100000 in
set_option maxHeartbeats 1000000 in
theorem does_G3 (t a b : Int) (w : World) (h3 : hasB (opK 3) t = true) (h4 : fitsB t a = true) (h5 : fitsB t b = true) : Calls Tryd.prog 60 #[.int .i64 3, .int .i64 t, .bool false, .int .i64 a, .int .i64 b] w (DoesTo w (wrapT t (opV 3 a b), 0)) := by
  have hF : opF 3 = 71 := rfl
  have hO : opOne 3 = false := rfl
  have hT : opTruth 3 = false := rfl
  go_enter Tryd.func60, Tryd.ntmps60
  go_wp2_with fail
  refine (find_yes 3 (by decide) (by decide) _).mono ?_
  rintro e w1 ⟨rfl, hb⟩
  go_wp2_with fail
  refine (has_at _ _ _ _ _ _).mono ?_
  rintro e w' ⟨rfl, rfl⟩
  go_wp2_with fail
  refine (fits_any _ _ _).mono ?_
  rintro e w' ⟨rfl, rfl⟩
  go_wp2_with fail
  refine (fits_any _ _ _).mono ?_
  rintro e w' ⟨rfl, rfl⟩
  go_wp2_with (first | (go_at_call 47; refine (wrap_any _ _ _).mono ?_; rintro e w' ⟨rfl, rfl⟩) | go_in)
  go_ret2
  exact ⟨rfl, (hb.alloc hb.size _).alloc (by simp; have := hb.size; omega) _⟩

set_option maxRecDepth 100000 in
set_option maxHeartbeats 1000000 in
theorem does_G4 (t a b : Int) (w : World) (h3 : hasB (opK 4) t = true) (h4 : fitsB t a = true) (h5 : fitsB t b = true) (h6 : ¬ b = 0) : Calls Tryd.prog 60 #[.int .i64 4, .int .i64 t, .bool false, .int .i64 a, .int .i64 b] w (DoesTo w (wrapT t (opV 4 a b), 0)) := by
  have hF : opF 4 = 72 := rfl
  have hO : opOne 4 = false := rfl
  have hT : opTruth 4 = false := rfl
  go_enter Tryd.func60, Tryd.ntmps60
  go_wp2_with fail
  refine (find_yes 4 (by decide) (by decide) _).mono ?_
  rintro e w1 ⟨rfl, hb⟩
  go_wp2_with fail
  refine (has_at _ _ _ _ _ _).mono ?_
  rintro e w' ⟨rfl, rfl⟩
  go_wp2_with fail
  refine (fits_any _ _ _).mono ?_
  rintro e w' ⟨rfl, rfl⟩
  go_wp2_with fail
  refine (fits_any _ _ _).mono ?_
  rintro e w' ⟨rfl, rfl⟩
  go_wp2_with (first | (go_at_call 47; refine (wrap_any _ _ _).mono ?_; rintro e w' ⟨rfl, rfl⟩) | go_in)
  go_ret2
  exact ⟨rfl, (hb.alloc hb.size _).alloc (by simp; have := hb.size; omega) _⟩

set_option maxRecDepth 100000 in
set_option maxHeartbeats 1000000 in
theorem does_G5 (t a b : Int) (w : World) (h3 : hasB (opK 5) t = true) (h4 : fitsB t a = true) (h5 : fitsB t b = true) (h6 : ¬ b = 0) : Calls Tryd.prog 60 #[.int .i64 5, .int .i64 t, .bool false, .int .i64 a, .int .i64 b] w (DoesTo w (wrapT t (opV 5 a b), 0)) := by
  have hF : opF 5 = 73 := rfl
  have hO : opOne 5 = false := rfl
  have hT : opTruth 5 = false := rfl
  go_enter Tryd.func60, Tryd.ntmps60
  go_wp2_with fail
  refine (find_yes 5 (by decide) (by decide) _).mono ?_
  rintro e w1 ⟨rfl, hb⟩
  go_wp2_with fail
  refine (has_at _ _ _ _ _ _).mono ?_
  rintro e w' ⟨rfl, rfl⟩
  go_wp2_with fail
  refine (fits_any _ _ _).mono ?_
  rintro e w' ⟨rfl, rfl⟩
  go_wp2_with fail
  refine (fits_any _ _ _).mono ?_
  rintro e w' ⟨rfl, rfl⟩
  go_wp2_with (first | (go_at_call 47; refine (wrap_any _ _ _).mono ?_; rintro e w' ⟨rfl, rfl⟩) | go_in)
  go_ret2
  exact ⟨rfl, (hb.alloc hb.size _).alloc (by simp; have := hb.size; omega) _⟩

set_option maxRecDepth 100000 in
set_option maxHeartbeats 1000000 in
theorem does_G6 (t a b : Int) (w : World) (h3 : hasB (opK 6) t = true) (h4 : fitsB t a = true) (h5 : fitsB t b = true) : Calls Tryd.prog 60 #[.int .i64 6, .int .i64 t, .bool false, .int .i64 a, .int .i64 b] w (DoesTo w (wrapT t (opV 6 a b), 0)) := by
  have hF : opF 6 = 74 := rfl
  have hO : opOne 6 = false := rfl
  have hT : opTruth 6 = false := rfl
  go_enter Tryd.func60, Tryd.ntmps60
  go_wp2_with fail
  refine (find_yes 6 (by decide) (by decide) _).mono ?_
  rintro e w1 ⟨rfl, hb⟩
  go_wp2_with fail
  refine (has_at _ _ _ _ _ _).mono ?_
  rintro e w' ⟨rfl, rfl⟩
  go_wp2_with fail
  refine (fits_any _ _ _).mono ?_
  rintro e w' ⟨rfl, rfl⟩
  go_wp2_with fail
  refine (fits_any _ _ _).mono ?_
  rintro e w' ⟨rfl, rfl⟩
  go_wp2_with (first | (go_at_call 47; refine (wrap_any _ _ _).mono ?_; rintro e w' ⟨rfl, rfl⟩) | go_in)
  go_ret2
  exact ⟨rfl, (hb.alloc hb.size _).alloc (by simp; have := hb.size; omega) _⟩

set_option maxRecDepth 100000 in
set_option maxHeartbeats 1000000 in
theorem does_G7 (t a b : Int) (w : World) (h3 : hasB (opK 7) t = true) (h4 : fitsB t a = true) (h5 : fitsB t b = true) : Calls Tryd.prog 60 #[.int .i64 7, .int .i64 t, .bool false, .int .i64 a, .int .i64 b] w (DoesTo w (wrapT t (opV 7 a b), 0)) := by
  have hF : opF 7 = 75 := rfl
  have hO : opOne 7 = false := rfl
  have hT : opTruth 7 = false := rfl
  go_enter Tryd.func60, Tryd.ntmps60
  go_wp2_with fail
  refine (find_yes 7 (by decide) (by decide) _).mono ?_
  rintro e w1 ⟨rfl, hb⟩
  go_wp2_with fail
  refine (has_at _ _ _ _ _ _).mono ?_
  rintro e w' ⟨rfl, rfl⟩
  go_wp2_with fail
  refine (fits_any _ _ _).mono ?_
  rintro e w' ⟨rfl, rfl⟩
  go_wp2_with fail
  refine (fits_any _ _ _).mono ?_
  rintro e w' ⟨rfl, rfl⟩
  go_wp2_with (first | (go_at_call 47; refine (wrap_any _ _ _).mono ?_; rintro e w' ⟨rfl, rfl⟩) | go_in)
  go_ret2
  exact ⟨rfl, (hb.alloc hb.size _).alloc (by simp; have := hb.size; omega) _⟩

set_option maxRecDepth 100000 in
set_option maxHeartbeats 1000000 in
theorem does_G8 (t a b : Int) (w : World) (h3 : hasB (opK 8) t = true) (h4 : fitsB t a = true) (h5 : fitsB t b = true) : Calls Tryd.prog 60 #[.int .i64 8, .int .i64 t, .bool false, .int .i64 a, .int .i64 b] w (DoesTo w (wrapT t (opV 8 a b), 0)) := by
  have hF : opF 8 = 76 := rfl
  have hO : opOne 8 = false := rfl
  have hT : opTruth 8 = false := rfl
  go_enter Tryd.func60, Tryd.ntmps60
  go_wp2_with fail
  refine (find_yes 8 (by decide) (by decide) _).mono ?_
  rintro e w1 ⟨rfl, hb⟩
  go_wp2_with fail
  refine (has_at _ _ _ _ _ _).mono ?_
  rintro e w' ⟨rfl, rfl⟩
  go_wp2_with fail
  refine (fits_any _ _ _).mono ?_
  rintro e w' ⟨rfl, rfl⟩
  go_wp2_with fail
  refine (fits_any _ _ _).mono ?_
  rintro e w' ⟨rfl, rfl⟩
  go_wp2_with (first | (go_at_call 47; refine (wrap_any _ _ _).mono ?_; rintro e w' ⟨rfl, rfl⟩) | go_in)
  go_ret2
  exact ⟨rfl, (hb.alloc hb.size _).alloc (by simp; have := hb.size; omega) _⟩

set_option maxRecDepth 100000 in
set_option maxHeartbeats 1000000 in
theorem does_G9 (t a b : Int) (w : World) (h3 : hasB (opK 9) t = true) (h4 : fitsB t a = true) (h5 : fitsB t b = true) : Calls Tryd.prog 60 #[.int .i64 9, .int .i64 t, .bool false, .int .i64 a, .int .i64 b] w (DoesTo w (opV 9 a b, 0)) := by
  have hF : opF 9 = 77 := rfl
  have hO : opOne 9 = false := rfl
  have hT : opTruth 9 = true := rfl
  go_enter Tryd.func60, Tryd.ntmps60
  go_wp2_with fail
  refine (find_yes 9 (by decide) (by decide) _).mono ?_
  rintro e w1 ⟨rfl, hb⟩
  go_wp2_with fail
  refine (has_at _ _ _ _ _ _).mono ?_
  rintro e w' ⟨rfl, rfl⟩
  go_wp2_with fail
  refine (fits_any _ _ _).mono ?_
  rintro e w' ⟨rfl, rfl⟩
  go_wp2_with fail
  refine (fits_any _ _ _).mono ?_
  rintro e w' ⟨rfl, rfl⟩
  go_wp2
  all_goals go_ret2
  all_goals exact ⟨by simp [opV, flagI, *], (hb.alloc hb.size _).alloc (by simp; have := hb.size; omega) _⟩

set_option maxRecDepth 100000 in
set_option maxHeartbeats 1000000 in
theorem does_G10 (t a b : Int) (w : World) (h3 : hasB (opK 10) t = true) (h4 : fitsB t a = true) (h5 : fitsB t b = true) : Calls Tryd.prog 60 #[.int .i64 10, .int .i64 t, .bool false, .int .i64 a, .int .i64 b] w (DoesTo w (opV 10 a b, 0)) := by
  have hF : opF 10 = 79 := rfl
  have hO : opOne 10 = false := rfl
  have hT : opTruth 10 = true := rfl
  go_enter Tryd.func60, Tryd.ntmps60
  go_wp2_with fail
  refine (find_yes 10 (by decide) (by decide) _).mono ?_
  rintro e w1 ⟨rfl, hb⟩
  go_wp2_with fail
  refine (has_at _ _ _ _ _ _).mono ?_
  rintro e w' ⟨rfl, rfl⟩
  go_wp2_with fail
  refine (fits_any _ _ _).mono ?_
  rintro e w' ⟨rfl, rfl⟩
  go_wp2_with fail
  refine (fits_any _ _ _).mono ?_
  rintro e w' ⟨rfl, rfl⟩
  go_wp2
  all_goals go_ret2
  all_goals exact ⟨by simp [opV, flagI, *], (hb.alloc hb.size _).alloc (by simp; have := hb.size; omega) _⟩

set_option maxRecDepth 100000 in
set_option maxHeartbeats 1000000 in
theorem does_G11 (t a b : Int) (w : World) (h3 : hasB (opK 11) t = true) (h4 : fitsB t a = true) (h5 : fitsB t b = true) : Calls Tryd.prog 60 #[.int .i64 11, .int .i64 t, .bool false, .int .i64 a, .int .i64 b] w (DoesTo w (opV 11 a b, 0)) := by
  have hF : opF 11 = 80 := rfl
  have hO : opOne 11 = false := rfl
  have hT : opTruth 11 = true := rfl
  go_enter Tryd.func60, Tryd.ntmps60
  go_wp2_with fail
  refine (find_yes 11 (by decide) (by decide) _).mono ?_
  rintro e w1 ⟨rfl, hb⟩
  go_wp2_with fail
  refine (has_at _ _ _ _ _ _).mono ?_
  rintro e w' ⟨rfl, rfl⟩
  go_wp2_with fail
  refine (fits_any _ _ _).mono ?_
  rintro e w' ⟨rfl, rfl⟩
  go_wp2_with fail
  refine (fits_any _ _ _).mono ?_
  rintro e w' ⟨rfl, rfl⟩
  go_wp2
  all_goals go_ret2
  all_goals exact ⟨by simp [opV, flagI, *], (hb.alloc hb.size _).alloc (by simp; have := hb.size; omega) _⟩

set_option maxRecDepth 100000 in
set_option maxHeartbeats 1000000 in
theorem does_G12 (t a b : Int) (w : World) (h3 : hasB (opK 12) t = true) (h4 : fitsB t a = true) (h5 : fitsB t b = true) : Calls Tryd.prog 60 #[.int .i64 12, .int .i64 t, .bool false, .int .i64 a, .int .i64 b] w (DoesTo w (opV 12 a b, 0)) := by
  have hF : opF 12 = 81 := rfl
  have hO : opOne 12 = false := rfl
  have hT : opTruth 12 = true := rfl
  go_enter Tryd.func60, Tryd.ntmps60
  go_wp2_with fail
  refine (find_yes 12 (by decide) (by decide) _).mono ?_
  rintro e w1 ⟨rfl, hb⟩
  go_wp2_with fail
  refine (has_at _ _ _ _ _ _).mono ?_
  rintro e w' ⟨rfl, rfl⟩
  go_wp2_with fail
  refine (fits_any _ _ _).mono ?_
  rintro e w' ⟨rfl, rfl⟩
  go_wp2_with fail
  refine (fits_any _ _ _).mono ?_
  rintro e w' ⟨rfl, rfl⟩
  go_wp2
  all_goals go_ret2
  all_goals exact ⟨by simp [opV, flagI, *], (hb.alloc hb.size _).alloc (by simp; have := hb.size; omega) _⟩

set_option maxRecDepth 100000 in
set_option maxHeartbeats 1000000 in
theorem does_G13 (t a b : Int) (w : World) (h3 : hasB (opK 13) t = true) (h4 : fitsB t a = true) (h5 : fitsB t b = true) : Calls Tryd.prog 60 #[.int .i64 13, .int .i64 t, .bool false, .int .i64 a, .int .i64 b] w (DoesTo w (opV 13 a b, 0)) := by
  have hF : opF 13 = 82 := rfl
  have hO : opOne 13 = false := rfl
  have hT : opTruth 13 = true := rfl
  go_enter Tryd.func60, Tryd.ntmps60
  go_wp2_with fail
  refine (find_yes 13 (by decide) (by decide) _).mono ?_
  rintro e w1 ⟨rfl, hb⟩
  go_wp2_with fail
  refine (has_at _ _ _ _ _ _).mono ?_
  rintro e w' ⟨rfl, rfl⟩
  go_wp2_with fail
  refine (fits_any _ _ _).mono ?_
  rintro e w' ⟨rfl, rfl⟩
  go_wp2_with fail
  refine (fits_any _ _ _).mono ?_
  rintro e w' ⟨rfl, rfl⟩
  go_wp2
  all_goals go_ret2
  all_goals exact ⟨by simp [opV, flagI, *], (hb.alloc hb.size _).alloc (by simp; have := hb.size; omega) _⟩

set_option maxRecDepth 100000 in
set_option maxHeartbeats 1000000 in
theorem does_G14 (t a b : Int) (w : World) (h3 : hasB (opK 14) t = true) (h4 : fitsB t a = true) (h5 : fitsB t b = true) : Calls Tryd.prog 60 #[.int .i64 14, .int .i64 t, .bool false, .int .i64 a, .int .i64 b] w (DoesTo w (opV 14 a b, 0)) := by
  have hF : opF 14 = 83 := rfl
  have hO : opOne 14 = false := rfl
  have hT : opTruth 14 = true := rfl
  go_enter Tryd.func60, Tryd.ntmps60
  go_wp2_with fail
  refine (find_yes 14 (by decide) (by decide) _).mono ?_
  rintro e w1 ⟨rfl, hb⟩
  go_wp2_with fail
  refine (has_at _ _ _ _ _ _).mono ?_
  rintro e w' ⟨rfl, rfl⟩
  go_wp2_with fail
  refine (fits_any _ _ _).mono ?_
  rintro e w' ⟨rfl, rfl⟩
  go_wp2_with fail
  refine (fits_any _ _ _).mono ?_
  rintro e w' ⟨rfl, rfl⟩
  go_wp2
  all_goals go_ret2
  all_goals exact ⟨by simp [opV, flagI, *], (hb.alloc hb.size _).alloc (by simp; have := hb.size; omega) _⟩

set_option maxRecDepth 100000 in
set_option maxHeartbeats 1000000 in
theorem does_G15 (t a b : Int) (w : World) (h3 : hasB (opK 15) t = true) (h4 : fitsB t a = true) (h5 : fitsB t b = true) : Calls Tryd.prog 60 #[.int .i64 15, .int .i64 t, .bool true, .int .i64 a, .int .i64 b] w (DoesTo w (wrapT t (opV 15 a b), 0)) := by
  have hF : opF 15 = 84 := rfl
  have hO : opOne 15 = true := rfl
  have hT : opTruth 15 = false := rfl
  go_enter Tryd.func60, Tryd.ntmps60
  go_wp2_with fail
  refine (find_yes 15 (by decide) (by decide) _).mono ?_
  rintro e w1 ⟨rfl, hb⟩
  go_wp2_with fail
  refine (has_at _ _ _ _ _ _).mono ?_
  rintro e w' ⟨rfl, rfl⟩
  go_wp2_with fail
  refine (fits_any _ _ _).mono ?_
  rintro e w' ⟨rfl, rfl⟩
  go_wp2_with fail
  refine (fits_any _ _ _).mono ?_
  rintro e w' ⟨rfl, rfl⟩
  go_wp2_with (first | (go_at_call 47; refine (wrap_any _ _ _).mono ?_; rintro e w' ⟨rfl, rfl⟩) | go_in)
  go_ret2
  exact ⟨rfl, (hb.alloc hb.size _).alloc (by simp; have := hb.size; omega) _⟩

set_option maxRecDepth 100000 in
set_option maxHeartbeats 1000000 in
theorem does_G16 (t a b : Int) (w : World) (h3 : hasB (opK 16) t = true) (h4 : fitsB t a = true) (h5 : fitsB t b = true) : Calls Tryd.prog 60 #[.int .i64 16, .int .i64 t, .bool true, .int .i64 a, .int .i64 b] w (DoesTo w (wrapT t (opV 16 a b), 0)) := by
  have hF : opF 16 = 85 := rfl
  have hO : opOne 16 = true := rfl
  have hT : opTruth 16 = false := rfl
  go_enter Tryd.func60, Tryd.ntmps60
  go_wp2_with fail
  refine (find_yes 16 (by decide) (by decide) _).mono ?_
  rintro e w1 ⟨rfl, hb⟩
  go_wp2_with fail
  refine (has_at _ _ _ _ _ _).mono ?_
  rintro e w' ⟨rfl, rfl⟩
  go_wp2_with fail
  refine (fits_any _ _ _).mono ?_
  rintro e w' ⟨rfl, rfl⟩
  go_wp2_with fail
  refine (fits_any _ _ _).mono ?_
  rintro e w' ⟨rfl, rfl⟩
  go_wp2_with (first | (go_at_call 47; refine (wrap_any _ _ _).mono ?_; rintro e w' ⟨rfl, rfl⟩) | go_in)
  go_ret2
  exact ⟨rfl, (hb.alloc hb.size _).alloc (by simp; have := hb.size; omega) _⟩

end Go.Proofs.YtefflkmegodafaaDoor.Num
