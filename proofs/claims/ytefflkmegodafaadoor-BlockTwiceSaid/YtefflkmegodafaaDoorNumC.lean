/-
  The walk of num.does: an operation of one value, or two.
-/
import Derived.Test.YtefflkmegodafaaDoorNumB
import Derived.Lib.Hide
namespace Go.Proofs.YtefflkmegodafaaDoor.Num
open Go.RowKit

theorem has_at (k t : Int) (x1 x2 x3 : Value) (w : World) : Calls Tryd.prog 66 #[.agg #[.int .i64 k, x1, x2, x3], .int .i64 t] w fun e w' => e = .returned (.bool (hasB k t)) ∧ w.alloc (.cells #[.int .i64 k, x1, x2, x3] 98) = w' := by
  cases hk : knownB t
  · go_enter Tryd.func66, Tryd.ntmps66
    go_wp2_with (go_at_call 46; refine (known_any _ _).mono ?_; rintro e w' ⟨rfl, rfl⟩)
    go_ret
    exact ⟨by simp [hasB, hk], rfl⟩
  · obtain rfl | rfl | rfl | rfl := known_of hk
    all_goals
      go_enter Tryd.func66, Tryd.ntmps66
      go_wp2_with (go_at_call 46; refine (known_any _ _).mono ?_; rintro e w' ⟨rfl, rfl⟩)
      go_ret
      exact ⟨by simp [hasB, hk, i64_and1], rfl⟩

/-- what num.does comes to, v and the error e -/
def DoesTo (w : World) (v : Int × Int) (e : Ending) (w' : World) : Prop := e = .returned (.tuple #[.int .i64 v.1, .int .i64 v.2]) ∧ Below w.heap.size w w'

set_option maxRecDepth 100000 in
set_option maxHeartbeats 1000000 in
theorem does_A (n t a b : Int) (one : Bool) (w : World) (h : ¬ (1 ≤ n ∧ n ≤ 16)) : Calls Tryd.prog 60 #[.int .i64 n, .int .i64 t, .bool one, .int .i64 a, .int .i64 b] w (DoesTo w (0, 40)) := by
  have H := Lib.hid h
  clear h
  go_enter Tryd.func60, Tryd.ntmps60
  go_wp2_with fail
  refine (find_no n H.out _).mono ?_
  rintro e w1 ⟨rfl, hb⟩
  go_wp2
  go_ret2
  exact ⟨rfl, hb.alloc hb.size _⟩

set_option maxRecDepth 100000 in
set_option maxHeartbeats 1000000 in
theorem does_B (n t a b : Int) (one : Bool) (w : World) (h1 : 1 ≤ n) (h2 : n ≤ 16) (h : ¬ opOne n = one) : Calls Tryd.prog 60 #[.int .i64 n, .int .i64 t, .bool one, .int .i64 a, .int .i64 b] w (DoesTo w (0, 40)) := by
  go_enter Tryd.func60, Tryd.ntmps60
  go_wp2_with fail
  refine (find_yes n h1 h2 _).mono ?_
  rintro e w1 ⟨rfl, hb⟩
  go_wp2
  go_ret2
  exact ⟨rfl, hb.alloc hb.size _⟩

set_option maxRecDepth 100000 in
set_option maxHeartbeats 1000000 in
theorem does_C (n t a b : Int) (w : World) (h1 : 1 ≤ n) (h2 : n ≤ 16) (h3 : hasB (opK n) t = false) : Calls Tryd.prog 60 #[.int .i64 n, .int .i64 t, .bool (opOne n), .int .i64 a, .int .i64 b] w (DoesTo w (0, 40)) := by
  go_enter Tryd.func60, Tryd.ntmps60
  go_wp2_with fail
  refine (find_yes n h1 h2 _).mono ?_
  rintro e w1 ⟨rfl, hb⟩
  go_wp2_with fail
  refine (has_at _ _ _ _ _ _).mono ?_
  rintro e w' ⟨rfl, rfl⟩
  go_wp2
  go_ret2
  exact ⟨rfl, (hb.alloc hb.size _).alloc (by simp; have := hb.size; omega) _⟩

set_option maxRecDepth 100000 in
set_option maxHeartbeats 1000000 in
theorem does_D (n t a b : Int) (w : World) (h1 : 1 ≤ n) (h2 : n ≤ 16) (h3 : hasB (opK n) t = true) (h4 : fitsB t a = false) : Calls Tryd.prog 60 #[.int .i64 n, .int .i64 t, .bool (opOne n), .int .i64 a, .int .i64 b] w (DoesTo w (0, 1)) := by
  go_enter Tryd.func60, Tryd.ntmps60
  go_wp2_with fail
  refine (find_yes n h1 h2 _).mono ?_
  rintro e w1 ⟨rfl, hb⟩
  go_wp2_with fail
  refine (has_at _ _ _ _ _ _).mono ?_
  rintro e w' ⟨rfl, rfl⟩
  go_wp2_with fail
  refine (fits_any _ _ _).mono ?_
  rintro e w' ⟨rfl, rfl⟩
  go_wp2
  go_ret2
  exact ⟨rfl, (hb.alloc hb.size _).alloc (by simp; have := hb.size; omega) _⟩

set_option maxRecDepth 100000 in
set_option maxHeartbeats 1000000 in
theorem does_E (n t a b : Int) (w : World) (h1 : 1 ≤ n) (h2 : n ≤ 16) (h3 : hasB (opK n) t = true) (h4 : fitsB t a = true) (h5 : fitsB t b = false) : Calls Tryd.prog 60 #[.int .i64 n, .int .i64 t, .bool (opOne n), .int .i64 a, .int .i64 b] w (DoesTo w (0, 1)) := by
  go_enter Tryd.func60, Tryd.ntmps60
  go_wp2_with fail
  refine (find_yes n h1 h2 _).mono ?_
  rintro e w1 ⟨rfl, hb⟩
  go_wp2_with fail
  refine (has_at _ _ _ _ _ _).mono ?_
  rintro e w' ⟨rfl, rfl⟩
  go_wp2_with fail
  refine (fits_any _ _ _).mono ?_
  rintro e w' ⟨rfl, rfl⟩
  go_wp2_with fail
  refine (fits_any _ _ _).mono ?_
  rintro e w' ⟨rfl, rfl⟩
  go_wp2
  go_ret2
  exact ⟨rfl, (hb.alloc hb.size _).alloc (by simp; have := hb.size; omega) _⟩

set_option maxRecDepth 100000 in
set_option maxHeartbeats 1000000 in
theorem does_F4 (t a : Int) (w : World) (h3 : hasB (opK 4) t = true) (h4 : fitsB t a = true) (h5 : fitsB t 0 = true) : Calls Tryd.prog 60 #[(.int .i64 4), .int .i64 t, .bool (opOne 4), .int .i64 a, .int .i64 0] w (DoesTo w (0, 41)) := by
  go_enter Tryd.func60, Tryd.ntmps60
  go_wp2_with fail
  refine (find_yes 4 (by decide) (by decide) _).mono ?_
  rintro e w1 ⟨rfl, hb⟩
  go_wp2_with fail
  refine (has_at _ _ _ _ _ _).mono ?_
  rintro e w' ⟨rfl, rfl⟩
  go_wp2_with fail
  refine (fits_any _ _ _).mono ?_
  rintro e w' ⟨rfl, rfl⟩
  go_wp2_with fail
  refine (fits_any _ _ _).mono ?_
  rintro e w' ⟨rfl, rfl⟩
  go_wp2
  go_ret2
  exact ⟨rfl, (hb.alloc hb.size _).alloc (by simp; have := hb.size; omega) _⟩

set_option maxRecDepth 100000 in
set_option maxHeartbeats 1000000 in
theorem does_F5 (t a : Int) (w : World) (h3 : hasB (opK 5) t = true) (h4 : fitsB t a = true) (h5 : fitsB t 0 = true) : Calls Tryd.prog 60 #[(.int .i64 5), .int .i64 t, .bool (opOne 5), .int .i64 a, .int .i64 0] w (DoesTo w (0, 41)) := by
  go_enter Tryd.func60, Tryd.ntmps60
  go_wp2_with fail
  refine (find_yes 5 (by decide) (by decide) _).mono ?_
  rintro e w1 ⟨rfl, hb⟩
  go_wp2_with fail
  refine (has_at _ _ _ _ _ _).mono ?_
  rintro e w' ⟨rfl, rfl⟩
  go_wp2_with fail
  refine (fits_any _ _ _).mono ?_
  rintro e w' ⟨rfl, rfl⟩
  go_wp2_with fail
  refine (fits_any _ _ _).mono ?_
  rintro e w' ⟨rfl, rfl⟩
  go_wp2
  go_ret2
  exact ⟨rfl, (hb.alloc hb.size _).alloc (by simp; have := hb.size; omega) _⟩

end Go.Proofs.YtefflkmegodafaaDoor.Num
