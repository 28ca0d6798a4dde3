/-
  The walk of layer 12: (cells).do of the flag SR.
-/
import Derived.Test.YtefflkmegodafaaDoorBlockKeepsBlS
namespace Go.Proofs.YtefflkmegodafaaDoor.PBlockKeeps
open Go.RowKit Go.Proofs.YtefflkmegodafaaDoorW.PrintWords Go.Proofs.YtefflkmegodafaaDoorW.PrintLast Go.Proofs.YtefflkmegodafaaDoorW.PrintMore
attribute [local go_sem] Oper.semAt_some
theorem is_at {l : List Int} {b : Bool} (now i : Int) (A : Option Addr) (c : Nat) (w0 w : World) {P : Nat → Prop} (hr : Kd.R kI 2 w w0.heap.size P (.slice A l.length c) l) (h0 : 0 ≤ i) (h1 : i < l.length) (hb : (rd l i == 1) = b) :
    Calls Tryd.prog 36 #[.agg #[.slice A l.length c, .int .i64 now], .int .i64 i] w fun e w' => e = .returned (.bool b) ∧ Below w.heap.size w w' := by
  have h := Kd.R_reads' hr
  subst hb
  exact is_any l now i A c w h.2.2 h.2.1 h0 h1
theorem box_kept {B : Nat} {w w' : World} {x y : Value} (hz : B < w.heap.size) (hb : Below w.heap.size w w') (h : w.cell? ⟨B, 0, none⟩ = some x ∧ w.cell? ⟨B, 1, none⟩ = some y) : w'.cell? ⟨B, 0, none⟩ = some x ∧ w'.cell? ⟨B, 1, none⟩ = some y :=
  ⟨(hb.cell (p := ⟨B, 0, none⟩) hz).trans h.1, (hb.cell (p := ⟨B, 1, none⟩) hz).trans h.2⟩

set_option maxRecDepth 100000 in
theorem do_sr1 (r q : Int) (now : Int) (A : Option Addr) (c : Nat) (w0 w : World) (hB : Below w0.heap.size w0 w) (ho : Kd.R kI 2 w w0.heap.size (fun _ => True) (.slice A 3 c) [1, r, q]) :
    Calls Tryd.prog 20 #[.agg #[.slice A 3 c, .int .i64 now], .int .i64 8] w fun e w' => e = .returned (.tuple #[]) ∧ Kd.R kI 2 w' w0.heap.size (fun _ => True) (.slice A 3 c) [1, r, 1] ∧ Below w0.heap.size w0 w' ∧ Kept w w' (Own (.slice A 3 c)) := by
  have HO := Lib.hid ho
  have HB := Lib.hid hB
  clear ho hB
  go_enter Tryd.func20, Tryd.ntmps20
  go_wp2_with fail
  have cA : (w.alloc (.cells #[.slice A 3 c, .int .i64 now] 47)).cell? ⟨w.heap.size, 0, none⟩ = some (.slice A 3 c) := by simp [go_sem]
  have cN : (w.alloc (.cells #[.slice A 3 c, .int .i64 now] 47)).cell? ⟨w.heap.size, 1, none⟩ = some (.int .i64 now) := by simp [go_sem]
  refine start_ (n := 13) (S := fun w' => w'.cell? ⟨w.heap.size, 0, none⟩ = some (.slice A 3 c) ∧ w'.cell? ⟨w.heap.size, 1, none⟩ = some (.int .i64 now)) (ds := [12]) #[false, false, false, false, false, false, false, false, false, false, false, false, false] (by kernel_rfl) rfl rfl ⟨cA, cN⟩ (fun hHeld => ?_)
  have ho1 : Kd.R kI 2 (w.alloc (.cells #[.slice A 3 c, .int .i64 now] 47)).drew w0.heap.size (fun _ => True) (.slice A 3 c) [1, r, q] := Kd.R_drew (Kd.R_alloc HO.out _)
  have hB1 : Below w0.heap.size w0 (w.alloc (.cells #[.slice A 3 c, .int .i64 now] 47)).drew := (HB.out.alloc HB.out.size _).drew
  have hz1 : w.heap.size < (w.alloc (.cells #[.slice A 3 c, .int .i64 now] 47)).drew.heap.size := by show _ < (w.alloc _).heap.size; simp
  have hW1 : Below w.heap.size w (w.alloc (.cells #[.slice A 3 c, .int .i64 now] 47)).drew := ((Below.refl _ _).alloc (Nat.le_refl _) _).drew
  generalize (w.alloc (.cells #[.slice A 3 c, .int .i64 now] 47)).drew = w1 at ho1 hB1 hz1 hW1 hHeld ⊢
  clear cA cN
  refine take_ (i := 0) (N := some 68) (v := ?_) (a' := ?_) #[true, false, false, false, false, false, false, false, false, false, false, false, false] rfl rfl (by kernel_rfl) (fun _ _ _ h => h) (Or.inl ⟨by rfl, ?_⟩) hHeld ?_ ?_
  rotate_left
  · rintro w' ⟨s0, s1⟩
    go_simp
    with_reducible rfl
  rotate_left
  · simp only [Act.put, List.setIfInBounds_toArray, List.set_cons_zero, List.set_cons_succ]
    rfl
  refine take_ (i := 1) (N := some 69) (v := ?_) (a' := ?_) #[true, true, false, false, false, false, false, false, false, false, false, false, false] rfl rfl (by kernel_rfl) (fun _ _ _ h => h) (Or.inl ⟨by rfl, ?_⟩) hHeld ?_ ?_
  rotate_left
  · rintro w' ⟨s0, s1⟩
    go_simp
    with_reducible rfl
  rotate_left
  · simp only [Act.put, List.setIfInBounds_toArray, List.set_cons_zero, List.set_cons_succ]
    rfl
  refine one_ (i := 2) (N := some 70) #[true, true, true, false, false, false, false, false, false, false, false, false, false] rfl rfl (by kernel_rfl) (by decide) (fun K hK => ?_)
  refine goes_ Tryd.func36 (by kernel_rfl) rfl #[.agg #[.slice A 3 c, .int .i64 now], .int .i64 0] (by rfl) rfl rfl (by first | (go_simp; done) | simp [Act.eval]) ?_
  refine (is_at (l := [1, r, q]) (b := true) now 0 A c w0 w1 ho1 (by decide) (by simp) (by rfl)).mono ?_
  rintro e w2 ⟨rfl, hb⟩
  have ho2 := Kd.R_below ho1 hb
  have hS := box_kept hz1 hb hHeld
  have hz2 := Nat.lt_of_lt_of_le hz1 hb.size
  have hB2 := hB1.trans (hb.mono hB1.size)
  have hW2 := hW1.trans (hb.mono hW1.size)
  clear hHeld hb ho1 hB1 hz1 hW1
  refine ⟨_, rfl, hK.out _ _ hS (fun hHeld => ?_)⟩
  clear hK K hS
  refine norm_ (a' := ?_) ?_ ?_
  rotate_left
  · show Act.put _ (some 70) _ = _
    simp only [Act.put, List.setIfInBounds_toArray, List.set_cons_zero, List.set_cons_succ]
    rfl
  refine pure_ (i := 3) (N := some 71) (v := ?_) (a' := ?_) #[true, true, true, true, false, false, false, false, false, false, false, false, false] rfl rfl (by kernel_rfl) (fun _ _ _ h => h) (Or.inl ⟨by rfl, ?_⟩) ?_ ?_
  rotate_left
  · intro w'
    go_simp
    with_reducible rfl
  rotate_left
  · simp only [Act.put, List.setIfInBounds_toArray, List.set_cons_zero, List.set_cons_succ]
    rfl
  refine pure_ (i := 4) (N := some 72) (v := undef) (a' := ?_) #[true, true, true, true, true, false, false, false, false, false, false, false, false] rfl rfl (by kernel_rfl) (fun _ _ _ h => h) (Or.inr ⟨by rfl, rfl⟩) ?_ ?_
  rotate_left
  · simp only [Act.put, List.setIfInBounds_toArray, List.set_cons_zero, List.set_cons_succ]
    rfl
  refine pure_ (i := 5) (N := some 73) (v := undef) (a' := ?_) #[true, true, true, true, true, true, false, false, false, false, false, false, false] rfl rfl (by kernel_rfl) (fun _ _ _ h => h) (Or.inr ⟨by rfl, rfl⟩) ?_ ?_
  rotate_left
  · simp only [Act.put, List.setIfInBounds_toArray, List.set_cons_zero, List.set_cons_succ]
    rfl
  refine pure_ (i := 6) (N := some 74) (v := undef) (a' := ?_) #[true, true, true, true, true, true, true, false, false, false, false, false, false] rfl rfl (by kernel_rfl) (fun _ _ _ h => h) (Or.inr ⟨by rfl, rfl⟩) ?_ ?_
  rotate_left
  · simp only [Act.put, List.setIfInBounds_toArray, List.set_cons_zero, List.set_cons_succ]
    rfl
  refine pure_ (i := 7) (N := some 75) (v := undef) (a' := ?_) #[true, true, true, true, true, true, true, true, false, false, false, false, false] rfl rfl (by kernel_rfl) (fun _ _ _ h => h) (Or.inr ⟨by rfl, rfl⟩) ?_ ?_
  rotate_left
  · simp only [Act.put, List.setIfInBounds_toArray, List.set_cons_zero, List.set_cons_succ]
    rfl
  refine pure_ (i := 8) (N := some 76) (v := undef) (a' := ?_) #[true, true, true, true, true, true, true, true, true, false, false, false, false] rfl rfl (by kernel_rfl) (fun _ _ _ h => h) (Or.inr ⟨by rfl, rfl⟩) ?_ ?_
  rotate_left
  · simp only [Act.put, List.setIfInBounds_toArray, List.set_cons_zero, List.set_cons_succ]
    rfl
  refine pure_ (i := 9) (N := some 77) (v := undef) (a' := ?_) #[true, true, true, true, true, true, true, true, true, true, false, false, false] rfl rfl (by kernel_rfl) (fun _ _ _ h => h) (Or.inr ⟨by rfl, rfl⟩) ?_ ?_
  rotate_left
  · simp only [Act.put, List.setIfInBounds_toArray, List.set_cons_zero, List.set_cons_succ]
    rfl
  refine pure_ (i := 10) (N := some 78) (v := undef) (a' := ?_) #[true, true, true, true, true, true, true, true, true, true, true, false, false] rfl rfl (by kernel_rfl) (fun _ _ _ h => h) (Or.inr ⟨by rfl, rfl⟩) ?_ ?_
  rotate_left
  · simp only [Act.put, List.setIfInBounds_toArray, List.set_cons_zero, List.set_cons_succ]
    rfl
  refine pure_ (i := 11) (N := some 79) (v := ?_) (a' := ?_) #[true, true, true, true, true, true, true, true, true, true, true, true, false] rfl rfl (by kernel_rfl) (fun _ _ _ h => h) (Or.inl ⟨by rfl, ?_⟩) ?_ ?_
  rotate_left
  · intro w'
    go_simp
    with_reducible rfl
  rotate_left
  · simp only [Act.put, List.setIfInBounds_toArray, List.set_cons_zero, List.set_cons_succ]
    rfl
  refine last_ (i := 12) (N := some 80) #[true, true, true, true, true, true, true, true, true, true, true, true, true] rfl rfl (by kernel_rfl) (by decide) (fun K hK => ?_)
  refine goes_ Tryd.func35 (by kernel_rfl) rfl #[.agg #[.slice A 3 c, .int .i64 now], .int .i64 2, .bool true] (by rfl) rfl rfl (by first | (go_simp; done) | simp [Act.eval]) ?_
  refine (set_any [1, r, q] now 2 true _ w0 w2 hB2 ho2 (by decide) (by simp)).mono ?_
  rintro e w3 ⟨rfl, hr, hb, hk⟩
  refine ⟨_, rfl, hK.out _ _ ?_⟩
  clear hK K
  refine norm_ (a' := ?_) ?_ ?_
  rotate_left
  · show Act.put _ (some 80) _ = _
    simp only [Act.put, List.setIfInBounds_toArray, List.set_cons_zero, List.set_cons_succ]
    rfl
  refine done_ (by kernel_rfl) ?_
  go_wp2
  go_end0
  exact ⟨rfl, hr, hb, (Kept.of_below hW2 _).then_ hk (fun _ h => .inl h)⟩

set_option maxRecDepth 100000 in
theorem do_sr01 (q : Int) (now : Int) (A : Option Addr) (c : Nat) (w0 w : World) (hB : Below w0.heap.size w0 w) (ho : Kd.R kI 2 w w0.heap.size (fun _ => True) (.slice A 3 c) [0, 1, q]) :
    Calls Tryd.prog 20 #[.agg #[.slice A 3 c, .int .i64 now], .int .i64 8] w fun e w' => e = .returned (.tuple #[]) ∧ Kd.R kI 2 w' w0.heap.size (fun _ => True) (.slice A 3 c) [0, 1, 0] ∧ Below w0.heap.size w0 w' ∧ Kept w w' (Own (.slice A 3 c)) := by
  have HO := Lib.hid ho
  have HB := Lib.hid hB
  clear ho hB
  go_enter Tryd.func20, Tryd.ntmps20
  go_wp2_with fail
  have cA : (w.alloc (.cells #[.slice A 3 c, .int .i64 now] 47)).cell? ⟨w.heap.size, 0, none⟩ = some (.slice A 3 c) := by simp [go_sem]
  have cN : (w.alloc (.cells #[.slice A 3 c, .int .i64 now] 47)).cell? ⟨w.heap.size, 1, none⟩ = some (.int .i64 now) := by simp [go_sem]
  refine start_ (n := 13) (S := fun w' => w'.cell? ⟨w.heap.size, 0, none⟩ = some (.slice A 3 c) ∧ w'.cell? ⟨w.heap.size, 1, none⟩ = some (.int .i64 now)) (ds := [12]) #[false, false, false, false, false, false, false, false, false, false, false, false, false] (by kernel_rfl) rfl rfl ⟨cA, cN⟩ (fun hHeld => ?_)
  have ho1 : Kd.R kI 2 (w.alloc (.cells #[.slice A 3 c, .int .i64 now] 47)).drew w0.heap.size (fun _ => True) (.slice A 3 c) [0, 1, q] := Kd.R_drew (Kd.R_alloc HO.out _)
  have hB1 : Below w0.heap.size w0 (w.alloc (.cells #[.slice A 3 c, .int .i64 now] 47)).drew := (HB.out.alloc HB.out.size _).drew
  have hz1 : w.heap.size < (w.alloc (.cells #[.slice A 3 c, .int .i64 now] 47)).drew.heap.size := by show _ < (w.alloc _).heap.size; simp
  have hW1 : Below w.heap.size w (w.alloc (.cells #[.slice A 3 c, .int .i64 now] 47)).drew := ((Below.refl _ _).alloc (Nat.le_refl _) _).drew
  generalize (w.alloc (.cells #[.slice A 3 c, .int .i64 now] 47)).drew = w1 at ho1 hB1 hz1 hW1 hHeld ⊢
  clear cA cN
  refine take_ (i := 0) (N := some 68) (v := ?_) (a' := ?_) #[true, false, false, false, false, false, false, false, false, false, false, false, false] rfl rfl (by kernel_rfl) (fun _ _ _ h => h) (Or.inl ⟨by rfl, ?_⟩) hHeld ?_ ?_
  rotate_left
  · rintro w' ⟨s0, s1⟩
    go_simp
    with_reducible rfl
  rotate_left
  · simp only [Act.put, List.setIfInBounds_toArray, List.set_cons_zero, List.set_cons_succ]
    rfl
  refine take_ (i := 1) (N := some 69) (v := ?_) (a' := ?_) #[true, true, false, false, false, false, false, false, false, false, false, false, false] rfl rfl (by kernel_rfl) (fun _ _ _ h => h) (Or.inl ⟨by rfl, ?_⟩) hHeld ?_ ?_
  rotate_left
  · rintro w' ⟨s0, s1⟩
    go_simp
    with_reducible rfl
  rotate_left
  · simp only [Act.put, List.setIfInBounds_toArray, List.set_cons_zero, List.set_cons_succ]
    rfl
  refine one_ (i := 2) (N := some 70) #[true, true, true, false, false, false, false, false, false, false, false, false, false] rfl rfl (by kernel_rfl) (by decide) (fun K hK => ?_)
  refine goes_ Tryd.func36 (by kernel_rfl) rfl #[.agg #[.slice A 3 c, .int .i64 now], .int .i64 0] (by rfl) rfl rfl (by first | (go_simp; done) | simp [Act.eval]) ?_
  refine (is_at (l := [0, 1, q]) (b := false) now 0 A c w0 w1 ho1 (by decide) (by simp) (by rfl)).mono ?_
  rintro e w2 ⟨rfl, hb⟩
  have ho2 := Kd.R_below ho1 hb
  have hS := box_kept hz1 hb hHeld
  have hz2 := Nat.lt_of_lt_of_le hz1 hb.size
  have hB2 := hB1.trans (hb.mono hB1.size)
  have hW2 := hW1.trans (hb.mono hW1.size)
  clear hHeld hb ho1 hB1 hz1 hW1
  refine ⟨_, rfl, hK.out _ _ hS (fun hHeld => ?_)⟩
  clear hK K hS
  refine norm_ (a' := ?_) ?_ ?_
  rotate_left
  · show Act.put _ (some 70) _ = _
    simp only [Act.put, List.setIfInBounds_toArray, List.set_cons_zero, List.set_cons_succ]
    rfl
  refine pure_ (i := 3) (N := some 71) (v := ?_) (a' := ?_) #[true, true, true, true, false, false, false, false, false, false, false, false, false] rfl rfl (by kernel_rfl) (fun _ _ _ h => h) (Or.inl ⟨by rfl, ?_⟩) ?_ ?_
  rotate_left
  · intro w'
    go_simp
    with_reducible rfl
  rotate_left
  · simp only [Act.put, List.setIfInBounds_toArray, List.set_cons_zero, List.set_cons_succ]
    rfl
  refine take_ (i := 4) (N := some 72) (v := ?_) (a' := ?_) #[true, true, true, true, true, false, false, false, false, false, false, false, false] rfl rfl (by kernel_rfl) (fun _ _ _ h => h) (Or.inl ⟨by rfl, ?_⟩) hHeld ?_ ?_
  rotate_left
  · rintro w' ⟨s0, s1⟩
    go_simp
    with_reducible rfl
  rotate_left
  · simp only [Act.put, List.setIfInBounds_toArray, List.set_cons_zero, List.set_cons_succ]
    rfl
  refine one_ (i := 5) (N := some 73) #[true, true, true, true, true, true, false, false, false, false, false, false, false] rfl rfl (by kernel_rfl) (by decide) (fun K hK => ?_)
  refine goes_ Tryd.func36 (by kernel_rfl) rfl #[.agg #[.slice A 3 c, .int .i64 now], .int .i64 1] (by rfl) rfl rfl (by first | (go_simp; done) | simp [Act.eval]) ?_
  refine (is_at (l := [0, 1, q]) (b := true) now 1 A c w0 w2 ho2 (by decide) (by simp) (by rfl)).mono ?_
  rintro e w3 ⟨rfl, hb⟩
  have ho3 := Kd.R_below ho2 hb
  have hS := box_kept hz2 hb hHeld
  have hz3 := Nat.lt_of_lt_of_le hz2 hb.size
  have hB3 := hB2.trans (hb.mono hB2.size)
  have hW3 := hW2.trans (hb.mono hW2.size)
  clear hHeld hb ho2 hB2 hz2 hW2
  refine ⟨_, rfl, hK.out _ _ hS (fun hHeld => ?_)⟩
  clear hK K hS
  refine norm_ (a' := ?_) ?_ ?_
  rotate_left
  · show Act.put _ (some 73) _ = _
    simp only [Act.put, List.setIfInBounds_toArray, List.set_cons_zero, List.set_cons_succ]
    rfl
  refine pure_ (i := 6) (N := some 74) (v := ?_) (a' := ?_) #[true, true, true, true, true, true, true, false, false, false, false, false, false] rfl rfl (by kernel_rfl) (fun _ _ _ h => h) (Or.inl ⟨by rfl, ?_⟩) ?_ ?_
  rotate_left
  · intro w'
    go_simp
    with_reducible rfl
  rotate_left
  · simp only [Act.put, List.setIfInBounds_toArray, List.set_cons_zero, List.set_cons_succ]
    rfl
  refine pure_ (i := 7) (N := some 75) (v := ?_) (a' := ?_) #[true, true, true, true, true, true, true, true, false, false, false, false, false] rfl rfl (by kernel_rfl) (fun _ _ _ h => h) (Or.inl ⟨by rfl, ?_⟩) ?_ ?_
  rotate_left
  · intro w'
    go_simp
    with_reducible rfl
  rotate_left
  · simp only [Act.put, List.setIfInBounds_toArray, List.set_cons_zero, List.set_cons_succ]
    rfl
  refine pure_ (i := 8) (N := some 76) (v := undef) (a' := ?_) #[true, true, true, true, true, true, true, true, true, false, false, false, false] rfl rfl (by kernel_rfl) (fun _ _ _ h => h) (Or.inr ⟨by rfl, rfl⟩) ?_ ?_
  rotate_left
  · simp only [Act.put, List.setIfInBounds_toArray, List.set_cons_zero, List.set_cons_succ]
    rfl
  refine pure_ (i := 9) (N := some 77) (v := undef) (a' := ?_) #[true, true, true, true, true, true, true, true, true, true, false, false, false] rfl rfl (by kernel_rfl) (fun _ _ _ h => h) (Or.inr ⟨by rfl, rfl⟩) ?_ ?_
  rotate_left
  · simp only [Act.put, List.setIfInBounds_toArray, List.set_cons_zero, List.set_cons_succ]
    rfl
  refine pure_ (i := 10) (N := some 78) (v := ?_) (a' := ?_) #[true, true, true, true, true, true, true, true, true, true, true, false, false] rfl rfl (by kernel_rfl) (fun _ _ _ h => h) (Or.inl ⟨by rfl, ?_⟩) ?_ ?_
  rotate_left
  · intro w'
    go_simp
    with_reducible rfl
  rotate_left
  · simp only [Act.put, List.setIfInBounds_toArray, List.set_cons_zero, List.set_cons_succ]
    rfl
  refine pure_ (i := 11) (N := some 79) (v := ?_) (a' := ?_) #[true, true, true, true, true, true, true, true, true, true, true, true, false] rfl rfl (by kernel_rfl) (fun _ _ _ h => h) (Or.inl ⟨by rfl, ?_⟩) ?_ ?_
  rotate_left
  · intro w'
    go_simp
    with_reducible rfl
  rotate_left
  · simp only [Act.put, List.setIfInBounds_toArray, List.set_cons_zero, List.set_cons_succ]
    rfl
  refine last_ (i := 12) (N := some 80) #[true, true, true, true, true, true, true, true, true, true, true, true, true] rfl rfl (by kernel_rfl) (by decide) (fun K hK => ?_)
  refine goes_ Tryd.func35 (by kernel_rfl) rfl #[.agg #[.slice A 3 c, .int .i64 now], .int .i64 2, .bool false] (by rfl) rfl rfl (by first | (go_simp; done) | simp [Act.eval]) ?_
  refine (set_any [0, 1, q] now 2 false _ w0 w3 hB3 ho3 (by decide) (by simp)).mono ?_
  rintro e w4 ⟨rfl, hr, hb, hk⟩
  refine ⟨_, rfl, hK.out _ _ ?_⟩
  clear hK K
  refine norm_ (a' := ?_) ?_ ?_
  rotate_left
  · show Act.put _ (some 80) _ = _
    simp only [Act.put, List.setIfInBounds_toArray, List.set_cons_zero, List.set_cons_succ]
    rfl
  refine done_ (by kernel_rfl) ?_
  go_wp2
  go_end0
  exact ⟨rfl, hr, hb, (Kept.of_below hW3 _).then_ hk (fun _ h => .inl h)⟩

set_option maxRecDepth 100000 in
theorem do_sr000 (now : Int) (A : Option Addr) (c : Nat) (w0 w : World) (hB : Below w0.heap.size w0 w) (ho : Kd.R kI 2 w w0.heap.size (fun _ => True) (.slice A 3 c) [0, 0, 0]) :
    Calls Tryd.prog 20 #[.agg #[.slice A 3 c, .int .i64 now], .int .i64 8] w fun e w' => e = .returned (.tuple #[]) ∧ Kd.R kI 2 w' w0.heap.size (fun _ => True) (.slice A 3 c) [0, 0, 0] ∧ Below w0.heap.size w0 w' ∧ Kept w w' (Own (.slice A 3 c)) := by
  have HO := Lib.hid ho
  have HB := Lib.hid hB
  clear ho hB
  go_enter Tryd.func20, Tryd.ntmps20
  go_wp2_with fail
  have cA : (w.alloc (.cells #[.slice A 3 c, .int .i64 now] 47)).cell? ⟨w.heap.size, 0, none⟩ = some (.slice A 3 c) := by simp [go_sem]
  have cN : (w.alloc (.cells #[.slice A 3 c, .int .i64 now] 47)).cell? ⟨w.heap.size, 1, none⟩ = some (.int .i64 now) := by simp [go_sem]
  refine start_ (n := 13) (S := fun w' => w'.cell? ⟨w.heap.size, 0, none⟩ = some (.slice A 3 c) ∧ w'.cell? ⟨w.heap.size, 1, none⟩ = some (.int .i64 now)) (ds := [12]) #[false, false, false, false, false, false, false, false, false, false, false, false, false] (by kernel_rfl) rfl rfl ⟨cA, cN⟩ (fun hHeld => ?_)
  have ho1 : Kd.R kI 2 (w.alloc (.cells #[.slice A 3 c, .int .i64 now] 47)).drew w0.heap.size (fun _ => True) (.slice A 3 c) [0, 0, 0] := Kd.R_drew (Kd.R_alloc HO.out _)
  have hB1 : Below w0.heap.size w0 (w.alloc (.cells #[.slice A 3 c, .int .i64 now] 47)).drew := (HB.out.alloc HB.out.size _).drew
  have hz1 : w.heap.size < (w.alloc (.cells #[.slice A 3 c, .int .i64 now] 47)).drew.heap.size := by show _ < (w.alloc _).heap.size; simp
  have hW1 : Below w.heap.size w (w.alloc (.cells #[.slice A 3 c, .int .i64 now] 47)).drew := ((Below.refl _ _).alloc (Nat.le_refl _) _).drew
  generalize (w.alloc (.cells #[.slice A 3 c, .int .i64 now] 47)).drew = w1 at ho1 hB1 hz1 hW1 hHeld ⊢
  clear cA cN
  refine take_ (i := 0) (N := some 68) (v := ?_) (a' := ?_) #[true, false, false, false, false, false, false, false, false, false, false, false, false] rfl rfl (by kernel_rfl) (fun _ _ _ h => h) (Or.inl ⟨by rfl, ?_⟩) hHeld ?_ ?_
  rotate_left
  · rintro w' ⟨s0, s1⟩
    go_simp
    with_reducible rfl
  rotate_left
  · simp only [Act.put, List.setIfInBounds_toArray, List.set_cons_zero, List.set_cons_succ]
    rfl
  refine take_ (i := 1) (N := some 69) (v := ?_) (a' := ?_) #[true, true, false, false, false, false, false, false, false, false, false, false, false] rfl rfl (by kernel_rfl) (fun _ _ _ h => h) (Or.inl ⟨by rfl, ?_⟩) hHeld ?_ ?_
  rotate_left
  · rintro w' ⟨s0, s1⟩
    go_simp
    with_reducible rfl
  rotate_left
  · simp only [Act.put, List.setIfInBounds_toArray, List.set_cons_zero, List.set_cons_succ]
    rfl
  refine one_ (i := 2) (N := some 70) #[true, true, true, false, false, false, false, false, false, false, false, false, false] rfl rfl (by kernel_rfl) (by decide) (fun K hK => ?_)
  refine goes_ Tryd.func36 (by kernel_rfl) rfl #[.agg #[.slice A 3 c, .int .i64 now], .int .i64 0] (by rfl) rfl rfl (by first | (go_simp; done) | simp [Act.eval]) ?_
  refine (is_at (l := [0, 0, 0]) (b := false) now 0 A c w0 w1 ho1 (by decide) (by simp) (by rfl)).mono ?_
  rintro e w2 ⟨rfl, hb⟩
  have ho2 := Kd.R_below ho1 hb
  have hS := box_kept hz1 hb hHeld
  have hz2 := Nat.lt_of_lt_of_le hz1 hb.size
  have hB2 := hB1.trans (hb.mono hB1.size)
  have hW2 := hW1.trans (hb.mono hW1.size)
  clear hHeld hb ho1 hB1 hz1 hW1
  refine ⟨_, rfl, hK.out _ _ hS (fun hHeld => ?_)⟩
  clear hK K hS
  refine norm_ (a' := ?_) ?_ ?_
  rotate_left
  · show Act.put _ (some 70) _ = _
    simp only [Act.put, List.setIfInBounds_toArray, List.set_cons_zero, List.set_cons_succ]
    rfl
  refine pure_ (i := 3) (N := some 71) (v := ?_) (a' := ?_) #[true, true, true, true, false, false, false, false, false, false, false, false, false] rfl rfl (by kernel_rfl) (fun _ _ _ h => h) (Or.inl ⟨by rfl, ?_⟩) ?_ ?_
  rotate_left
  · intro w'
    go_simp
    with_reducible rfl
  rotate_left
  · simp only [Act.put, List.setIfInBounds_toArray, List.set_cons_zero, List.set_cons_succ]
    rfl
  refine take_ (i := 4) (N := some 72) (v := ?_) (a' := ?_) #[true, true, true, true, true, false, false, false, false, false, false, false, false] rfl rfl (by kernel_rfl) (fun _ _ _ h => h) (Or.inl ⟨by rfl, ?_⟩) hHeld ?_ ?_
  rotate_left
  · rintro w' ⟨s0, s1⟩
    go_simp
    with_reducible rfl
  rotate_left
  · simp only [Act.put, List.setIfInBounds_toArray, List.set_cons_zero, List.set_cons_succ]
    rfl
  refine one_ (i := 5) (N := some 73) #[true, true, true, true, true, true, false, false, false, false, false, false, false] rfl rfl (by kernel_rfl) (by decide) (fun K hK => ?_)
  refine goes_ Tryd.func36 (by kernel_rfl) rfl #[.agg #[.slice A 3 c, .int .i64 now], .int .i64 1] (by rfl) rfl rfl (by first | (go_simp; done) | simp [Act.eval]) ?_
  refine (is_at (l := [0, 0, 0]) (b := false) now 1 A c w0 w2 ho2 (by decide) (by simp) (by rfl)).mono ?_
  rintro e w3 ⟨rfl, hb⟩
  have ho3 := Kd.R_below ho2 hb
  have hS := box_kept hz2 hb hHeld
  have hz3 := Nat.lt_of_lt_of_le hz2 hb.size
  have hB3 := hB2.trans (hb.mono hB2.size)
  have hW3 := hW2.trans (hb.mono hW2.size)
  clear hHeld hb ho2 hB2 hz2 hW2
  refine ⟨_, rfl, hK.out _ _ hS (fun hHeld => ?_)⟩
  clear hK K hS
  refine norm_ (a' := ?_) ?_ ?_
  rotate_left
  · show Act.put _ (some 73) _ = _
    simp only [Act.put, List.setIfInBounds_toArray, List.set_cons_zero, List.set_cons_succ]
    rfl
  refine pure_ (i := 6) (N := some 74) (v := ?_) (a' := ?_) #[true, true, true, true, true, true, true, false, false, false, false, false, false] rfl rfl (by kernel_rfl) (fun _ _ _ h => h) (Or.inl ⟨by rfl, ?_⟩) ?_ ?_
  rotate_left
  · intro w'
    go_simp
    with_reducible rfl
  rotate_left
  · simp only [Act.put, List.setIfInBounds_toArray, List.set_cons_zero, List.set_cons_succ]
    rfl
  refine pure_ (i := 7) (N := some 75) (v := ?_) (a' := ?_) #[true, true, true, true, true, true, true, true, false, false, false, false, false] rfl rfl (by kernel_rfl) (fun _ _ _ h => h) (Or.inl ⟨by rfl, ?_⟩) ?_ ?_
  rotate_left
  · intro w'
    go_simp
    with_reducible rfl
  rotate_left
  · simp only [Act.put, List.setIfInBounds_toArray, List.set_cons_zero, List.set_cons_succ]
    rfl
  refine take_ (i := 8) (N := some 76) (v := ?_) (a' := ?_) #[true, true, true, true, true, true, true, true, true, false, false, false, false] rfl rfl (by kernel_rfl) (fun _ _ _ h => h) (Or.inl ⟨by rfl, ?_⟩) hHeld ?_ ?_
  rotate_left
  · rintro w' ⟨s0, s1⟩
    go_simp
    with_reducible rfl
  rotate_left
  · simp only [Act.put, List.setIfInBounds_toArray, List.set_cons_zero, List.set_cons_succ]
    rfl
  refine one_ (i := 9) (N := some 77) #[true, true, true, true, true, true, true, true, true, true, false, false, false] rfl rfl (by kernel_rfl) (by decide) (fun K hK => ?_)
  refine goes_ Tryd.func36 (by kernel_rfl) rfl #[.agg #[.slice A 3 c, .int .i64 now], .int .i64 2] (by rfl) rfl rfl (by first | (go_simp; done) | simp [Act.eval]) ?_
  refine (is_at (l := [0, 0, 0]) (b := false) now 2 A c w0 w3 ho3 (by decide) (by simp) (by rfl)).mono ?_
  rintro e w4 ⟨rfl, hb⟩
  have ho4 := Kd.R_below ho3 hb
  have hS := box_kept hz3 hb hHeld
  have hz4 := Nat.lt_of_lt_of_le hz3 hb.size
  have hB4 := hB3.trans (hb.mono hB3.size)
  have hW4 := hW3.trans (hb.mono hW3.size)
  clear hHeld hb ho3 hB3 hz3 hW3
  refine ⟨_, rfl, hK.out _ _ hS (fun hHeld => ?_)⟩
  clear hK K hS
  refine norm_ (a' := ?_) ?_ ?_
  rotate_left
  · show Act.put _ (some 77) _ = _
    simp only [Act.put, List.setIfInBounds_toArray, List.set_cons_zero, List.set_cons_succ]
    rfl
  refine pure_ (i := 10) (N := some 78) (v := ?_) (a' := ?_) #[true, true, true, true, true, true, true, true, true, true, true, false, false] rfl rfl (by kernel_rfl) (fun _ _ _ h => h) (Or.inl ⟨by rfl, ?_⟩) ?_ ?_
  rotate_left
  · intro w'
    go_simp
    with_reducible rfl
  rotate_left
  · simp only [Act.put, List.setIfInBounds_toArray, List.set_cons_zero, List.set_cons_succ]
    rfl
  refine pure_ (i := 11) (N := some 79) (v := ?_) (a' := ?_) #[true, true, true, true, true, true, true, true, true, true, true, true, false] rfl rfl (by kernel_rfl) (fun _ _ _ h => h) (Or.inl ⟨by rfl, ?_⟩) ?_ ?_
  rotate_left
  · intro w'
    go_simp
    with_reducible rfl
  rotate_left
  · simp only [Act.put, List.setIfInBounds_toArray, List.set_cons_zero, List.set_cons_succ]
    rfl
  refine last_ (i := 12) (N := some 80) #[true, true, true, true, true, true, true, true, true, true, true, true, true] rfl rfl (by kernel_rfl) (by decide) (fun K hK => ?_)
  refine goes_ Tryd.func35 (by kernel_rfl) rfl #[.agg #[.slice A 3 c, .int .i64 now], .int .i64 2, .bool false] (by rfl) rfl rfl (by first | (go_simp; done) | simp [Act.eval]) ?_
  refine (set_any [0, 0, 0] now 2 false _ w0 w4 hB4 ho4 (by decide) (by simp)).mono ?_
  rintro e w5 ⟨rfl, hr, hb, hk⟩
  refine ⟨_, rfl, hK.out _ _ ?_⟩
  clear hK K
  refine norm_ (a' := ?_) ?_ ?_
  rotate_left
  · show Act.put _ (some 80) _ = _
    simp only [Act.put, List.setIfInBounds_toArray, List.set_cons_zero, List.set_cons_succ]
    rfl
  refine done_ (by kernel_rfl) ?_
  go_wp2
  go_end0
  exact ⟨rfl, hr, hb, (Kept.of_below hW4 _).then_ hk (fun _ h => .inl h)⟩

set_option maxRecDepth 100000 in
theorem do_sr001 (now : Int) (A : Option Addr) (c : Nat) (w0 w : World) (hB : Below w0.heap.size w0 w) (ho : Kd.R kI 2 w w0.heap.size (fun _ => True) (.slice A 3 c) [0, 0, 1]) :
    Calls Tryd.prog 20 #[.agg #[.slice A 3 c, .int .i64 now], .int .i64 8] w fun e w' => e = .returned (.tuple #[]) ∧ Kd.R kI 2 w' w0.heap.size (fun _ => True) (.slice A 3 c) [0, 0, 1] ∧ Below w0.heap.size w0 w' ∧ Kept w w' (Own (.slice A 3 c)) := by
  have HO := Lib.hid ho
  have HB := Lib.hid hB
  clear ho hB
  go_enter Tryd.func20, Tryd.ntmps20
  go_wp2_with fail
  have cA : (w.alloc (.cells #[.slice A 3 c, .int .i64 now] 47)).cell? ⟨w.heap.size, 0, none⟩ = some (.slice A 3 c) := by simp [go_sem]
  have cN : (w.alloc (.cells #[.slice A 3 c, .int .i64 now] 47)).cell? ⟨w.heap.size, 1, none⟩ = some (.int .i64 now) := by simp [go_sem]
  refine start_ (n := 13) (S := fun w' => w'.cell? ⟨w.heap.size, 0, none⟩ = some (.slice A 3 c) ∧ w'.cell? ⟨w.heap.size, 1, none⟩ = some (.int .i64 now)) (ds := [12]) #[false, false, false, false, false, false, false, false, false, false, false, false, false] (by kernel_rfl) rfl rfl ⟨cA, cN⟩ (fun hHeld => ?_)
  have ho1 : Kd.R kI 2 (w.alloc (.cells #[.slice A 3 c, .int .i64 now] 47)).drew w0.heap.size (fun _ => True) (.slice A 3 c) [0, 0, 1] := Kd.R_drew (Kd.R_alloc HO.out _)
  have hB1 : Below w0.heap.size w0 (w.alloc (.cells #[.slice A 3 c, .int .i64 now] 47)).drew := (HB.out.alloc HB.out.size _).drew
  have hz1 : w.heap.size < (w.alloc (.cells #[.slice A 3 c, .int .i64 now] 47)).drew.heap.size := by show _ < (w.alloc _).heap.size; simp
  have hW1 : Below w.heap.size w (w.alloc (.cells #[.slice A 3 c, .int .i64 now] 47)).drew := ((Below.refl _ _).alloc (Nat.le_refl _) _).drew
  generalize (w.alloc (.cells #[.slice A 3 c, .int .i64 now] 47)).drew = w1 at ho1 hB1 hz1 hW1 hHeld ⊢
  clear cA cN
  refine take_ (i := 0) (N := some 68) (v := ?_) (a' := ?_) #[true, false, false, false, false, false, false, false, false, false, false, false, false] rfl rfl (by kernel_rfl) (fun _ _ _ h => h) (Or.inl ⟨by rfl, ?_⟩) hHeld ?_ ?_
  rotate_left
  · rintro w' ⟨s0, s1⟩
    go_simp
    with_reducible rfl
  rotate_left
  · simp only [Act.put, List.setIfInBounds_toArray, List.set_cons_zero, List.set_cons_succ]
    rfl
  refine take_ (i := 1) (N := some 69) (v := ?_) (a' := ?_) #[true, true, false, false, false, false, false, false, false, false, false, false, false] rfl rfl (by kernel_rfl) (fun _ _ _ h => h) (Or.inl ⟨by rfl, ?_⟩) hHeld ?_ ?_
  rotate_left
  · rintro w' ⟨s0, s1⟩
    go_simp
    with_reducible rfl
  rotate_left
  · simp only [Act.put, List.setIfInBounds_toArray, List.set_cons_zero, List.set_cons_succ]
    rfl
  refine one_ (i := 2) (N := some 70) #[true, true, true, false, false, false, false, false, false, false, false, false, false] rfl rfl (by kernel_rfl) (by decide) (fun K hK => ?_)
  refine goes_ Tryd.func36 (by kernel_rfl) rfl #[.agg #[.slice A 3 c, .int .i64 now], .int .i64 0] (by rfl) rfl rfl (by first | (go_simp; done) | simp [Act.eval]) ?_
  refine (is_at (l := [0, 0, 1]) (b := false) now 0 A c w0 w1 ho1 (by decide) (by simp) (by rfl)).mono ?_
  rintro e w2 ⟨rfl, hb⟩
  have ho2 := Kd.R_below ho1 hb
  have hS := box_kept hz1 hb hHeld
  have hz2 := Nat.lt_of_lt_of_le hz1 hb.size
  have hB2 := hB1.trans (hb.mono hB1.size)
  have hW2 := hW1.trans (hb.mono hW1.size)
  clear hHeld hb ho1 hB1 hz1 hW1
  refine ⟨_, rfl, hK.out _ _ hS (fun hHeld => ?_)⟩
  clear hK K hS
  refine norm_ (a' := ?_) ?_ ?_
  rotate_left
  · show Act.put _ (some 70) _ = _
    simp only [Act.put, List.setIfInBounds_toArray, List.set_cons_zero, List.set_cons_succ]
    rfl
  refine pure_ (i := 3) (N := some 71) (v := ?_) (a' := ?_) #[true, true, true, true, false, false, false, false, false, false, false, false, false] rfl rfl (by kernel_rfl) (fun _ _ _ h => h) (Or.inl ⟨by rfl, ?_⟩) ?_ ?_
  rotate_left
  · intro w'
    go_simp
    with_reducible rfl
  rotate_left
  · simp only [Act.put, List.setIfInBounds_toArray, List.set_cons_zero, List.set_cons_succ]
    rfl
  refine take_ (i := 4) (N := some 72) (v := ?_) (a' := ?_) #[true, true, true, true, true, false, false, false, false, false, false, false, false] rfl rfl (by kernel_rfl) (fun _ _ _ h => h) (Or.inl ⟨by rfl, ?_⟩) hHeld ?_ ?_
  rotate_left
  · rintro w' ⟨s0, s1⟩
    go_simp
    with_reducible rfl
  rotate_left
  · simp only [Act.put, List.setIfInBounds_toArray, List.set_cons_zero, List.set_cons_succ]
    rfl
  refine one_ (i := 5) (N := some 73) #[true, true, true, true, true, true, false, false, false, false, false, false, false] rfl rfl (by kernel_rfl) (by decide) (fun K hK => ?_)
  refine goes_ Tryd.func36 (by kernel_rfl) rfl #[.agg #[.slice A 3 c, .int .i64 now], .int .i64 1] (by rfl) rfl rfl (by first | (go_simp; done) | simp [Act.eval]) ?_
  refine (is_at (l := [0, 0, 1]) (b := false) now 1 A c w0 w2 ho2 (by decide) (by simp) (by rfl)).mono ?_
  rintro e w3 ⟨rfl, hb⟩
  have ho3 := Kd.R_below ho2 hb
  have hS := box_kept hz2 hb hHeld
  have hz3 := Nat.lt_of_lt_of_le hz2 hb.size
  have hB3 := hB2.trans (hb.mono hB2.size)
  have hW3 := hW2.trans (hb.mono hW2.size)
  clear hHeld hb ho2 hB2 hz2 hW2
  refine ⟨_, rfl, hK.out _ _ hS (fun hHeld => ?_)⟩
  clear hK K hS
  refine norm_ (a' := ?_) ?_ ?_
  rotate_left
  · show Act.put _ (some 73) _ = _
    simp only [Act.put, List.setIfInBounds_toArray, List.set_cons_zero, List.set_cons_succ]
    rfl
  refine pure_ (i := 6) (N := some 74) (v := ?_) (a' := ?_) #[true, true, true, true, true, true, true, false, false, false, false, false, false] rfl rfl (by kernel_rfl) (fun _ _ _ h => h) (Or.inl ⟨by rfl, ?_⟩) ?_ ?_
  rotate_left
  · intro w'
    go_simp
    with_reducible rfl
  rotate_left
  · simp only [Act.put, List.setIfInBounds_toArray, List.set_cons_zero, List.set_cons_succ]
    rfl
  refine pure_ (i := 7) (N := some 75) (v := ?_) (a' := ?_) #[true, true, true, true, true, true, true, true, false, false, false, false, false] rfl rfl (by kernel_rfl) (fun _ _ _ h => h) (Or.inl ⟨by rfl, ?_⟩) ?_ ?_
  rotate_left
  · intro w'
    go_simp
    with_reducible rfl
  rotate_left
  · simp only [Act.put, List.setIfInBounds_toArray, List.set_cons_zero, List.set_cons_succ]
    rfl
  refine take_ (i := 8) (N := some 76) (v := ?_) (a' := ?_) #[true, true, true, true, true, true, true, true, true, false, false, false, false] rfl rfl (by kernel_rfl) (fun _ _ _ h => h) (Or.inl ⟨by rfl, ?_⟩) hHeld ?_ ?_
  rotate_left
  · rintro w' ⟨s0, s1⟩
    go_simp
    with_reducible rfl
  rotate_left
  · simp only [Act.put, List.setIfInBounds_toArray, List.set_cons_zero, List.set_cons_succ]
    rfl
  refine one_ (i := 9) (N := some 77) #[true, true, true, true, true, true, true, true, true, true, false, false, false] rfl rfl (by kernel_rfl) (by decide) (fun K hK => ?_)
  refine goes_ Tryd.func36 (by kernel_rfl) rfl #[.agg #[.slice A 3 c, .int .i64 now], .int .i64 2] (by rfl) rfl rfl (by first | (go_simp; done) | simp [Act.eval]) ?_
  refine (is_at (l := [0, 0, 1]) (b := true) now 2 A c w0 w3 ho3 (by decide) (by simp) (by rfl)).mono ?_
  rintro e w4 ⟨rfl, hb⟩
  have ho4 := Kd.R_below ho3 hb
  have hS := box_kept hz3 hb hHeld
  have hz4 := Nat.lt_of_lt_of_le hz3 hb.size
  have hB4 := hB3.trans (hb.mono hB3.size)
  have hW4 := hW3.trans (hb.mono hW3.size)
  clear hHeld hb ho3 hB3 hz3 hW3
  refine ⟨_, rfl, hK.out _ _ hS (fun hHeld => ?_)⟩
  clear hK K hS
  refine norm_ (a' := ?_) ?_ ?_
  rotate_left
  · show Act.put _ (some 77) _ = _
    simp only [Act.put, List.setIfInBounds_toArray, List.set_cons_zero, List.set_cons_succ]
    rfl
  refine pure_ (i := 10) (N := some 78) (v := ?_) (a' := ?_) #[true, true, true, true, true, true, true, true, true, true, true, false, false] rfl rfl (by kernel_rfl) (fun _ _ _ h => h) (Or.inl ⟨by rfl, ?_⟩) ?_ ?_
  rotate_left
  · intro w'
    go_simp
    with_reducible rfl
  rotate_left
  · simp only [Act.put, List.setIfInBounds_toArray, List.set_cons_zero, List.set_cons_succ]
    rfl
  refine pure_ (i := 11) (N := some 79) (v := ?_) (a' := ?_) #[true, true, true, true, true, true, true, true, true, true, true, true, false] rfl rfl (by kernel_rfl) (fun _ _ _ h => h) (Or.inl ⟨by rfl, ?_⟩) ?_ ?_
  rotate_left
  · intro w'
    go_simp
    with_reducible rfl
  rotate_left
  · simp only [Act.put, List.setIfInBounds_toArray, List.set_cons_zero, List.set_cons_succ]
    rfl
  refine last_ (i := 12) (N := some 80) #[true, true, true, true, true, true, true, true, true, true, true, true, true] rfl rfl (by kernel_rfl) (by decide) (fun K hK => ?_)
  refine goes_ Tryd.func35 (by kernel_rfl) rfl #[.agg #[.slice A 3 c, .int .i64 now], .int .i64 2, .bool true] (by rfl) rfl rfl (by first | (go_simp; done) | simp [Act.eval]) ?_
  refine (set_any [0, 0, 1] now 2 true _ w0 w4 hB4 ho4 (by decide) (by simp)).mono ?_
  rintro e w5 ⟨rfl, hr, hb, hk⟩
  refine ⟨_, rfl, hK.out _ _ ?_⟩
  clear hK K
  refine norm_ (a' := ?_) ?_ ?_
  rotate_left
  · show Act.put _ (some 80) _ = _
    simp only [Act.put, List.setIfInBounds_toArray, List.set_cons_zero, List.set_cons_succ]
    rfl
  refine done_ (by kernel_rfl) ?_
  go_wp2
  go_end0
  exact ⟨rfl, hr, hb, (Kept.of_below hW4 _).then_ hk (fun _ h => .inl h)⟩

set_option maxRecDepth 100000 in
theorem do_rs1 (s q : Int) (now : Int) (A : Option Addr) (c : Nat) (w0 w : World) (hB : Below w0.heap.size w0 w) (ho : Kd.R kI 2 w w0.heap.size (fun _ => True) (.slice A 3 c) [s, 1, q]) :
    Calls Tryd.prog 20 #[.agg #[.slice A 3 c, .int .i64 now], .int .i64 9] w fun e w' => e = .returned (.tuple #[]) ∧ Kd.R kI 2 w' w0.heap.size (fun _ => True) (.slice A 3 c) [s, 1, 0] ∧ Below w0.heap.size w0 w' ∧ Kept w w' (Own (.slice A 3 c)) := by
  have HO := Lib.hid ho
  have HB := Lib.hid hB
  clear ho hB
  go_enter Tryd.func20, Tryd.ntmps20
  go_wp2_with fail
  have cA : (w.alloc (.cells #[.slice A 3 c, .int .i64 now] 47)).cell? ⟨w.heap.size, 0, none⟩ = some (.slice A 3 c) := by simp [go_sem]
  have cN : (w.alloc (.cells #[.slice A 3 c, .int .i64 now] 47)).cell? ⟨w.heap.size, 1, none⟩ = some (.int .i64 now) := by simp [go_sem]
  refine start_ (n := 13) (S := fun w' => w'.cell? ⟨w.heap.size, 0, none⟩ = some (.slice A 3 c) ∧ w'.cell? ⟨w.heap.size, 1, none⟩ = some (.int .i64 now)) (ds := [12]) #[false, false, false, false, false, false, false, false, false, false, false, false, false] (by kernel_rfl) rfl rfl ⟨cA, cN⟩ (fun hHeld => ?_)
  have ho1 : Kd.R kI 2 (w.alloc (.cells #[.slice A 3 c, .int .i64 now] 47)).drew w0.heap.size (fun _ => True) (.slice A 3 c) [s, 1, q] := Kd.R_drew (Kd.R_alloc HO.out _)
  have hB1 : Below w0.heap.size w0 (w.alloc (.cells #[.slice A 3 c, .int .i64 now] 47)).drew := (HB.out.alloc HB.out.size _).drew
  have hz1 : w.heap.size < (w.alloc (.cells #[.slice A 3 c, .int .i64 now] 47)).drew.heap.size := by show _ < (w.alloc _).heap.size; simp
  have hW1 : Below w.heap.size w (w.alloc (.cells #[.slice A 3 c, .int .i64 now] 47)).drew := ((Below.refl _ _).alloc (Nat.le_refl _) _).drew
  generalize (w.alloc (.cells #[.slice A 3 c, .int .i64 now] 47)).drew = w1 at ho1 hB1 hz1 hW1 hHeld ⊢
  clear cA cN
  refine take_ (i := 0) (N := some 83) (v := ?_) (a' := ?_) #[true, false, false, false, false, false, false, false, false, false, false, false, false] rfl rfl (by kernel_rfl) (fun _ _ _ h => h) (Or.inl ⟨by rfl, ?_⟩) hHeld ?_ ?_
  rotate_left
  · rintro w' ⟨s0, s1⟩
    go_simp
    with_reducible rfl
  rotate_left
  · simp only [Act.put, List.setIfInBounds_toArray, List.set_cons_zero, List.set_cons_succ]
    rfl
  refine take_ (i := 1) (N := some 84) (v := ?_) (a' := ?_) #[true, true, false, false, false, false, false, false, false, false, false, false, false] rfl rfl (by kernel_rfl) (fun _ _ _ h => h) (Or.inl ⟨by rfl, ?_⟩) hHeld ?_ ?_
  rotate_left
  · rintro w' ⟨s0, s1⟩
    go_simp
    with_reducible rfl
  rotate_left
  · simp only [Act.put, List.setIfInBounds_toArray, List.set_cons_zero, List.set_cons_succ]
    rfl
  refine one_ (i := 2) (N := some 85) #[true, true, true, false, false, false, false, false, false, false, false, false, false] rfl rfl (by kernel_rfl) (by decide) (fun K hK => ?_)
  refine goes_ Tryd.func36 (by kernel_rfl) rfl #[.agg #[.slice A 3 c, .int .i64 now], .int .i64 1] (by rfl) rfl rfl (by first | (go_simp; done) | simp [Act.eval]) ?_
  refine (is_at (l := [s, 1, q]) (b := true) now 1 A c w0 w1 ho1 (by decide) (by simp) (by rfl)).mono ?_
  rintro e w2 ⟨rfl, hb⟩
  have ho2 := Kd.R_below ho1 hb
  have hS := box_kept hz1 hb hHeld
  have hz2 := Nat.lt_of_lt_of_le hz1 hb.size
  have hB2 := hB1.trans (hb.mono hB1.size)
  have hW2 := hW1.trans (hb.mono hW1.size)
  clear hHeld hb ho1 hB1 hz1 hW1
  refine ⟨_, rfl, hK.out _ _ hS (fun hHeld => ?_)⟩
  clear hK K hS
  refine norm_ (a' := ?_) ?_ ?_
  rotate_left
  · show Act.put _ (some 85) _ = _
    simp only [Act.put, List.setIfInBounds_toArray, List.set_cons_zero, List.set_cons_succ]
    rfl
  refine pure_ (i := 3) (N := some 86) (v := ?_) (a' := ?_) #[true, true, true, true, false, false, false, false, false, false, false, false, false] rfl rfl (by kernel_rfl) (fun _ _ _ h => h) (Or.inl ⟨by rfl, ?_⟩) ?_ ?_
  rotate_left
  · intro w'
    go_simp
    with_reducible rfl
  rotate_left
  · simp only [Act.put, List.setIfInBounds_toArray, List.set_cons_zero, List.set_cons_succ]
    rfl
  refine pure_ (i := 4) (N := some 87) (v := ?_) (a' := ?_) #[true, true, true, true, true, false, false, false, false, false, false, false, false] rfl rfl (by kernel_rfl) (fun _ _ _ h => h) (Or.inl ⟨by rfl, ?_⟩) ?_ ?_
  rotate_left
  · intro w'
    go_simp
    with_reducible rfl
  rotate_left
  · simp only [Act.put, List.setIfInBounds_toArray, List.set_cons_zero, List.set_cons_succ]
    rfl
  refine pure_ (i := 5) (N := some 88) (v := undef) (a' := ?_) #[true, true, true, true, true, true, false, false, false, false, false, false, false] rfl rfl (by kernel_rfl) (fun _ _ _ h => h) (Or.inr ⟨by rfl, rfl⟩) ?_ ?_
  rotate_left
  · simp only [Act.put, List.setIfInBounds_toArray, List.set_cons_zero, List.set_cons_succ]
    rfl
  refine pure_ (i := 6) (N := some 89) (v := undef) (a' := ?_) #[true, true, true, true, true, true, true, false, false, false, false, false, false] rfl rfl (by kernel_rfl) (fun _ _ _ h => h) (Or.inr ⟨by rfl, rfl⟩) ?_ ?_
  rotate_left
  · simp only [Act.put, List.setIfInBounds_toArray, List.set_cons_zero, List.set_cons_succ]
    rfl
  refine pure_ (i := 7) (N := some 90) (v := undef) (a' := ?_) #[true, true, true, true, true, true, true, true, false, false, false, false, false] rfl rfl (by kernel_rfl) (fun _ _ _ h => h) (Or.inr ⟨by rfl, rfl⟩) ?_ ?_
  rotate_left
  · simp only [Act.put, List.setIfInBounds_toArray, List.set_cons_zero, List.set_cons_succ]
    rfl
  refine pure_ (i := 8) (N := some 91) (v := undef) (a' := ?_) #[true, true, true, true, true, true, true, true, true, false, false, false, false] rfl rfl (by kernel_rfl) (fun _ _ _ h => h) (Or.inr ⟨by rfl, rfl⟩) ?_ ?_
  rotate_left
  · simp only [Act.put, List.setIfInBounds_toArray, List.set_cons_zero, List.set_cons_succ]
    rfl
  refine pure_ (i := 9) (N := some 92) (v := undef) (a' := ?_) #[true, true, true, true, true, true, true, true, true, true, false, false, false] rfl rfl (by kernel_rfl) (fun _ _ _ h => h) (Or.inr ⟨by rfl, rfl⟩) ?_ ?_
  rotate_left
  · simp only [Act.put, List.setIfInBounds_toArray, List.set_cons_zero, List.set_cons_succ]
    rfl
  refine pure_ (i := 10) (N := some 93) (v := undef) (a' := ?_) #[true, true, true, true, true, true, true, true, true, true, true, false, false] rfl rfl (by kernel_rfl) (fun _ _ _ h => h) (Or.inr ⟨by rfl, rfl⟩) ?_ ?_
  rotate_left
  · simp only [Act.put, List.setIfInBounds_toArray, List.set_cons_zero, List.set_cons_succ]
    rfl
  refine pure_ (i := 11) (N := some 94) (v := ?_) (a' := ?_) #[true, true, true, true, true, true, true, true, true, true, true, true, false] rfl rfl (by kernel_rfl) (fun _ _ _ h => h) (Or.inl ⟨by rfl, ?_⟩) ?_ ?_
  rotate_left
  · intro w'
    go_simp
    with_reducible rfl
  rotate_left
  · simp only [Act.put, List.setIfInBounds_toArray, List.set_cons_zero, List.set_cons_succ]
    rfl
  refine last_ (i := 12) (N := some 95) #[true, true, true, true, true, true, true, true, true, true, true, true, true] rfl rfl (by kernel_rfl) (by decide) (fun K hK => ?_)
  refine goes_ Tryd.func35 (by kernel_rfl) rfl #[.agg #[.slice A 3 c, .int .i64 now], .int .i64 2, .bool false] (by rfl) rfl rfl (by first | (go_simp; done) | simp [Act.eval]) ?_
  refine (set_any [s, 1, q] now 2 false _ w0 w2 hB2 ho2 (by decide) (by simp)).mono ?_
  rintro e w3 ⟨rfl, hr, hb, hk⟩
  refine ⟨_, rfl, hK.out _ _ ?_⟩
  clear hK K
  refine norm_ (a' := ?_) ?_ ?_
  rotate_left
  · show Act.put _ (some 95) _ = _
    simp only [Act.put, List.setIfInBounds_toArray, List.set_cons_zero, List.set_cons_succ]
    rfl
  refine done_ (by kernel_rfl) ?_
  go_wp2
  go_end0
  exact ⟨rfl, hr, hb, (Kept.of_below hW2 _).then_ hk (fun _ h => .inl h)⟩

set_option maxRecDepth 100000 in
theorem do_rs01 (q : Int) (now : Int) (A : Option Addr) (c : Nat) (w0 w : World) (hB : Below w0.heap.size w0 w) (ho : Kd.R kI 2 w w0.heap.size (fun _ => True) (.slice A 3 c) [1, 0, q]) :
    Calls Tryd.prog 20 #[.agg #[.slice A 3 c, .int .i64 now], .int .i64 9] w fun e w' => e = .returned (.tuple #[]) ∧ Kd.R kI 2 w' w0.heap.size (fun _ => True) (.slice A 3 c) [1, 0, 1] ∧ Below w0.heap.size w0 w' ∧ Kept w w' (Own (.slice A 3 c)) := by
  have HO := Lib.hid ho
  have HB := Lib.hid hB
  clear ho hB
  go_enter Tryd.func20, Tryd.ntmps20
  go_wp2_with fail
  have cA : (w.alloc (.cells #[.slice A 3 c, .int .i64 now] 47)).cell? ⟨w.heap.size, 0, none⟩ = some (.slice A 3 c) := by simp [go_sem]
  have cN : (w.alloc (.cells #[.slice A 3 c, .int .i64 now] 47)).cell? ⟨w.heap.size, 1, none⟩ = some (.int .i64 now) := by simp [go_sem]
  refine start_ (n := 13) (S := fun w' => w'.cell? ⟨w.heap.size, 0, none⟩ = some (.slice A 3 c) ∧ w'.cell? ⟨w.heap.size, 1, none⟩ = some (.int .i64 now)) (ds := [12]) #[false, false, false, false, false, false, false, false, false, false, false, false, false] (by kernel_rfl) rfl rfl ⟨cA, cN⟩ (fun hHeld => ?_)
  have ho1 : Kd.R kI 2 (w.alloc (.cells #[.slice A 3 c, .int .i64 now] 47)).drew w0.heap.size (fun _ => True) (.slice A 3 c) [1, 0, q] := Kd.R_drew (Kd.R_alloc HO.out _)
  have hB1 : Below w0.heap.size w0 (w.alloc (.cells #[.slice A 3 c, .int .i64 now] 47)).drew := (HB.out.alloc HB.out.size _).drew
  have hz1 : w.heap.size < (w.alloc (.cells #[.slice A 3 c, .int .i64 now] 47)).drew.heap.size := by show _ < (w.alloc _).heap.size; simp
  have hW1 : Below w.heap.size w (w.alloc (.cells #[.slice A 3 c, .int .i64 now] 47)).drew := ((Below.refl _ _).alloc (Nat.le_refl _) _).drew
  generalize (w.alloc (.cells #[.slice A 3 c, .int .i64 now] 47)).drew = w1 at ho1 hB1 hz1 hW1 hHeld ⊢
  clear cA cN
  refine take_ (i := 0) (N := some 83) (v := ?_) (a' := ?_) #[true, false, false, false, false, false, false, false, false, false, false, false, false] rfl rfl (by kernel_rfl) (fun _ _ _ h => h) (Or.inl ⟨by rfl, ?_⟩) hHeld ?_ ?_
  rotate_left
  · rintro w' ⟨s0, s1⟩
    go_simp
    with_reducible rfl
  rotate_left
  · simp only [Act.put, List.setIfInBounds_toArray, List.set_cons_zero, List.set_cons_succ]
    rfl
  refine take_ (i := 1) (N := some 84) (v := ?_) (a' := ?_) #[true, true, false, false, false, false, false, false, false, false, false, false, false] rfl rfl (by kernel_rfl) (fun _ _ _ h => h) (Or.inl ⟨by rfl, ?_⟩) hHeld ?_ ?_
  rotate_left
  · rintro w' ⟨s0, s1⟩
    go_simp
    with_reducible rfl
  rotate_left
  · simp only [Act.put, List.setIfInBounds_toArray, List.set_cons_zero, List.set_cons_succ]
    rfl
  refine one_ (i := 2) (N := some 85) #[true, true, true, false, false, false, false, false, false, false, false, false, false] rfl rfl (by kernel_rfl) (by decide) (fun K hK => ?_)
  refine goes_ Tryd.func36 (by kernel_rfl) rfl #[.agg #[.slice A 3 c, .int .i64 now], .int .i64 1] (by rfl) rfl rfl (by first | (go_simp; done) | simp [Act.eval]) ?_
  refine (is_at (l := [1, 0, q]) (b := false) now 1 A c w0 w1 ho1 (by decide) (by simp) (by rfl)).mono ?_
  rintro e w2 ⟨rfl, hb⟩
  have ho2 := Kd.R_below ho1 hb
  have hS := box_kept hz1 hb hHeld
  have hz2 := Nat.lt_of_lt_of_le hz1 hb.size
  have hB2 := hB1.trans (hb.mono hB1.size)
  have hW2 := hW1.trans (hb.mono hW1.size)
  clear hHeld hb ho1 hB1 hz1 hW1
  refine ⟨_, rfl, hK.out _ _ hS (fun hHeld => ?_)⟩
  clear hK K hS
  refine norm_ (a' := ?_) ?_ ?_
  rotate_left
  · show Act.put _ (some 85) _ = _
    simp only [Act.put, List.setIfInBounds_toArray, List.set_cons_zero, List.set_cons_succ]
    rfl
  refine pure_ (i := 3) (N := some 86) (v := ?_) (a' := ?_) #[true, true, true, true, false, false, false, false, false, false, false, false, false] rfl rfl (by kernel_rfl) (fun _ _ _ h => h) (Or.inl ⟨by rfl, ?_⟩) ?_ ?_
  rotate_left
  · intro w'
    go_simp
    with_reducible rfl
  rotate_left
  · simp only [Act.put, List.setIfInBounds_toArray, List.set_cons_zero, List.set_cons_succ]
    rfl
  refine pure_ (i := 4) (N := some 87) (v := ?_) (a' := ?_) #[true, true, true, true, true, false, false, false, false, false, false, false, false] rfl rfl (by kernel_rfl) (fun _ _ _ h => h) (Or.inl ⟨by rfl, ?_⟩) ?_ ?_
  rotate_left
  · intro w'
    go_simp
    with_reducible rfl
  rotate_left
  · simp only [Act.put, List.setIfInBounds_toArray, List.set_cons_zero, List.set_cons_succ]
    rfl
  refine take_ (i := 5) (N := some 88) (v := ?_) (a' := ?_) #[true, true, true, true, true, true, false, false, false, false, false, false, false] rfl rfl (by kernel_rfl) (fun _ _ _ h => h) (Or.inl ⟨by rfl, ?_⟩) hHeld ?_ ?_
  rotate_left
  · rintro w' ⟨s0, s1⟩
    go_simp
    with_reducible rfl
  rotate_left
  · simp only [Act.put, List.setIfInBounds_toArray, List.set_cons_zero, List.set_cons_succ]
    rfl
  refine one_ (i := 6) (N := some 89) #[true, true, true, true, true, true, true, false, false, false, false, false, false] rfl rfl (by kernel_rfl) (by decide) (fun K hK => ?_)
  refine goes_ Tryd.func36 (by kernel_rfl) rfl #[.agg #[.slice A 3 c, .int .i64 now], .int .i64 0] (by rfl) rfl rfl (by first | (go_simp; done) | simp [Act.eval]) ?_
  refine (is_at (l := [1, 0, q]) (b := true) now 0 A c w0 w2 ho2 (by decide) (by simp) (by rfl)).mono ?_
  rintro e w3 ⟨rfl, hb⟩
  have ho3 := Kd.R_below ho2 hb
  have hS := box_kept hz2 hb hHeld
  have hz3 := Nat.lt_of_lt_of_le hz2 hb.size
  have hB3 := hB2.trans (hb.mono hB2.size)
  have hW3 := hW2.trans (hb.mono hW2.size)
  clear hHeld hb ho2 hB2 hz2 hW2
  refine ⟨_, rfl, hK.out _ _ hS (fun hHeld => ?_)⟩
  clear hK K hS
  refine norm_ (a' := ?_) ?_ ?_
  rotate_left
  · show Act.put _ (some 89) _ = _
    simp only [Act.put, List.setIfInBounds_toArray, List.set_cons_zero, List.set_cons_succ]
    rfl
  refine pure_ (i := 7) (N := some 90) (v := ?_) (a' := ?_) #[true, true, true, true, true, true, true, true, false, false, false, false, false] rfl rfl (by kernel_rfl) (fun _ _ _ h => h) (Or.inl ⟨by rfl, ?_⟩) ?_ ?_
  rotate_left
  · intro w'
    go_simp
    with_reducible rfl
  rotate_left
  · simp only [Act.put, List.setIfInBounds_toArray, List.set_cons_zero, List.set_cons_succ]
    rfl
  refine pure_ (i := 8) (N := some 91) (v := undef) (a' := ?_) #[true, true, true, true, true, true, true, true, true, false, false, false, false] rfl rfl (by kernel_rfl) (fun _ _ _ h => h) (Or.inr ⟨by rfl, rfl⟩) ?_ ?_
  rotate_left
  · simp only [Act.put, List.setIfInBounds_toArray, List.set_cons_zero, List.set_cons_succ]
    rfl
  refine pure_ (i := 9) (N := some 92) (v := undef) (a' := ?_) #[true, true, true, true, true, true, true, true, true, true, false, false, false] rfl rfl (by kernel_rfl) (fun _ _ _ h => h) (Or.inr ⟨by rfl, rfl⟩) ?_ ?_
  rotate_left
  · simp only [Act.put, List.setIfInBounds_toArray, List.set_cons_zero, List.set_cons_succ]
    rfl
  refine pure_ (i := 10) (N := some 93) (v := ?_) (a' := ?_) #[true, true, true, true, true, true, true, true, true, true, true, false, false] rfl rfl (by kernel_rfl) (fun _ _ _ h => h) (Or.inl ⟨by rfl, ?_⟩) ?_ ?_
  rotate_left
  · intro w'
    go_simp
    with_reducible rfl
  rotate_left
  · simp only [Act.put, List.setIfInBounds_toArray, List.set_cons_zero, List.set_cons_succ]
    rfl
  refine pure_ (i := 11) (N := some 94) (v := ?_) (a' := ?_) #[true, true, true, true, true, true, true, true, true, true, true, true, false] rfl rfl (by kernel_rfl) (fun _ _ _ h => h) (Or.inl ⟨by rfl, ?_⟩) ?_ ?_
  rotate_left
  · intro w'
    go_simp
    with_reducible rfl
  rotate_left
  · simp only [Act.put, List.setIfInBounds_toArray, List.set_cons_zero, List.set_cons_succ]
    rfl
  refine last_ (i := 12) (N := some 95) #[true, true, true, true, true, true, true, true, true, true, true, true, true] rfl rfl (by kernel_rfl) (by decide) (fun K hK => ?_)
  refine goes_ Tryd.func35 (by kernel_rfl) rfl #[.agg #[.slice A 3 c, .int .i64 now], .int .i64 2, .bool true] (by rfl) rfl rfl (by first | (go_simp; done) | simp [Act.eval]) ?_
  refine (set_any [1, 0, q] now 2 true _ w0 w3 hB3 ho3 (by decide) (by simp)).mono ?_
  rintro e w4 ⟨rfl, hr, hb, hk⟩
  refine ⟨_, rfl, hK.out _ _ ?_⟩
  clear hK K
  refine norm_ (a' := ?_) ?_ ?_
  rotate_left
  · show Act.put _ (some 95) _ = _
    simp only [Act.put, List.setIfInBounds_toArray, List.set_cons_zero, List.set_cons_succ]
    rfl
  refine done_ (by kernel_rfl) ?_
  go_wp2
  go_end0
  exact ⟨rfl, hr, hb, (Kept.of_below hW3 _).then_ hk (fun _ h => .inl h)⟩

set_option maxRecDepth 100000 in
theorem do_rs000 (now : Int) (A : Option Addr) (c : Nat) (w0 w : World) (hB : Below w0.heap.size w0 w) (ho : Kd.R kI 2 w w0.heap.size (fun _ => True) (.slice A 3 c) [0, 0, 0]) :
    Calls Tryd.prog 20 #[.agg #[.slice A 3 c, .int .i64 now], .int .i64 9] w fun e w' => e = .returned (.tuple #[]) ∧ Kd.R kI 2 w' w0.heap.size (fun _ => True) (.slice A 3 c) [0, 0, 0] ∧ Below w0.heap.size w0 w' ∧ Kept w w' (Own (.slice A 3 c)) := by
  have HO := Lib.hid ho
  have HB := Lib.hid hB
  clear ho hB
  go_enter Tryd.func20, Tryd.ntmps20
  go_wp2_with fail
  have cA : (w.alloc (.cells #[.slice A 3 c, .int .i64 now] 47)).cell? ⟨w.heap.size, 0, none⟩ = some (.slice A 3 c) := by simp [go_sem]
  have cN : (w.alloc (.cells #[.slice A 3 c, .int .i64 now] 47)).cell? ⟨w.heap.size, 1, none⟩ = some (.int .i64 now) := by simp [go_sem]
  refine start_ (n := 13) (S := fun w' => w'.cell? ⟨w.heap.size, 0, none⟩ = some (.slice A 3 c) ∧ w'.cell? ⟨w.heap.size, 1, none⟩ = some (.int .i64 now)) (ds := [12]) #[false, false, false, false, false, false, false, false, false, false, false, false, false] (by kernel_rfl) rfl rfl ⟨cA, cN⟩ (fun hHeld => ?_)
  have ho1 : Kd.R kI 2 (w.alloc (.cells #[.slice A 3 c, .int .i64 now] 47)).drew w0.heap.size (fun _ => True) (.slice A 3 c) [0, 0, 0] := Kd.R_drew (Kd.R_alloc HO.out _)
  have hB1 : Below w0.heap.size w0 (w.alloc (.cells #[.slice A 3 c, .int .i64 now] 47)).drew := (HB.out.alloc HB.out.size _).drew
  have hz1 : w.heap.size < (w.alloc (.cells #[.slice A 3 c, .int .i64 now] 47)).drew.heap.size := by show _ < (w.alloc _).heap.size; simp
  have hW1 : Below w.heap.size w (w.alloc (.cells #[.slice A 3 c, .int .i64 now] 47)).drew := ((Below.refl _ _).alloc (Nat.le_refl _) _).drew
  generalize (w.alloc (.cells #[.slice A 3 c, .int .i64 now] 47)).drew = w1 at ho1 hB1 hz1 hW1 hHeld ⊢
  clear cA cN
  refine take_ (i := 0) (N := some 83) (v := ?_) (a' := ?_) #[true, false, false, false, false, false, false, false, false, false, false, false, false] rfl rfl (by kernel_rfl) (fun _ _ _ h => h) (Or.inl ⟨by rfl, ?_⟩) hHeld ?_ ?_
  rotate_left
  · rintro w' ⟨s0, s1⟩
    go_simp
    with_reducible rfl
  rotate_left
  · simp only [Act.put, List.setIfInBounds_toArray, List.set_cons_zero, List.set_cons_succ]
    rfl
  refine take_ (i := 1) (N := some 84) (v := ?_) (a' := ?_) #[true, true, false, false, false, false, false, false, false, false, false, false, false] rfl rfl (by kernel_rfl) (fun _ _ _ h => h) (Or.inl ⟨by rfl, ?_⟩) hHeld ?_ ?_
  rotate_left
  · rintro w' ⟨s0, s1⟩
    go_simp
    with_reducible rfl
  rotate_left
  · simp only [Act.put, List.setIfInBounds_toArray, List.set_cons_zero, List.set_cons_succ]
    rfl
  refine one_ (i := 2) (N := some 85) #[true, true, true, false, false, false, false, false, false, false, false, false, false] rfl rfl (by kernel_rfl) (by decide) (fun K hK => ?_)
  refine goes_ Tryd.func36 (by kernel_rfl) rfl #[.agg #[.slice A 3 c, .int .i64 now], .int .i64 1] (by rfl) rfl rfl (by first | (go_simp; done) | simp [Act.eval]) ?_
  refine (is_at (l := [0, 0, 0]) (b := false) now 1 A c w0 w1 ho1 (by decide) (by simp) (by rfl)).mono ?_
  rintro e w2 ⟨rfl, hb⟩
  have ho2 := Kd.R_below ho1 hb
  have hS := box_kept hz1 hb hHeld
  have hz2 := Nat.lt_of_lt_of_le hz1 hb.size
  have hB2 := hB1.trans (hb.mono hB1.size)
  have hW2 := hW1.trans (hb.mono hW1.size)
  clear hHeld hb ho1 hB1 hz1 hW1
  refine ⟨_, rfl, hK.out _ _ hS (fun hHeld => ?_)⟩
  clear hK K hS
  refine norm_ (a' := ?_) ?_ ?_
  rotate_left
  · show Act.put _ (some 85) _ = _
    simp only [Act.put, List.setIfInBounds_toArray, List.set_cons_zero, List.set_cons_succ]
    rfl
  refine pure_ (i := 3) (N := some 86) (v := ?_) (a' := ?_) #[true, true, true, true, false, false, false, false, false, false, false, false, false] rfl rfl (by kernel_rfl) (fun _ _ _ h => h) (Or.inl ⟨by rfl, ?_⟩) ?_ ?_
  rotate_left
  · intro w'
    go_simp
    with_reducible rfl
  rotate_left
  · simp only [Act.put, List.setIfInBounds_toArray, List.set_cons_zero, List.set_cons_succ]
    rfl
  refine pure_ (i := 4) (N := some 87) (v := ?_) (a' := ?_) #[true, true, true, true, true, false, false, false, false, false, false, false, false] rfl rfl (by kernel_rfl) (fun _ _ _ h => h) (Or.inl ⟨by rfl, ?_⟩) ?_ ?_
  rotate_left
  · intro w'
    go_simp
    with_reducible rfl
  rotate_left
  · simp only [Act.put, List.setIfInBounds_toArray, List.set_cons_zero, List.set_cons_succ]
    rfl
  refine take_ (i := 5) (N := some 88) (v := ?_) (a' := ?_) #[true, true, true, true, true, true, false, false, false, false, false, false, false] rfl rfl (by kernel_rfl) (fun _ _ _ h => h) (Or.inl ⟨by rfl, ?_⟩) hHeld ?_ ?_
  rotate_left
  · rintro w' ⟨s0, s1⟩
    go_simp
    with_reducible rfl
  rotate_left
  · simp only [Act.put, List.setIfInBounds_toArray, List.set_cons_zero, List.set_cons_succ]
    rfl
  refine one_ (i := 6) (N := some 89) #[true, true, true, true, true, true, true, false, false, false, false, false, false] rfl rfl (by kernel_rfl) (by decide) (fun K hK => ?_)
  refine goes_ Tryd.func36 (by kernel_rfl) rfl #[.agg #[.slice A 3 c, .int .i64 now], .int .i64 0] (by rfl) rfl rfl (by first | (go_simp; done) | simp [Act.eval]) ?_
  refine (is_at (l := [0, 0, 0]) (b := false) now 0 A c w0 w2 ho2 (by decide) (by simp) (by rfl)).mono ?_
  rintro e w3 ⟨rfl, hb⟩
  have ho3 := Kd.R_below ho2 hb
  have hS := box_kept hz2 hb hHeld
  have hz3 := Nat.lt_of_lt_of_le hz2 hb.size
  have hB3 := hB2.trans (hb.mono hB2.size)
  have hW3 := hW2.trans (hb.mono hW2.size)
  clear hHeld hb ho2 hB2 hz2 hW2
  refine ⟨_, rfl, hK.out _ _ hS (fun hHeld => ?_)⟩
  clear hK K hS
  refine norm_ (a' := ?_) ?_ ?_
  rotate_left
  · show Act.put _ (some 89) _ = _
    simp only [Act.put, List.setIfInBounds_toArray, List.set_cons_zero, List.set_cons_succ]
    rfl
  refine pure_ (i := 7) (N := some 90) (v := ?_) (a' := ?_) #[true, true, true, true, true, true, true, true, false, false, false, false, false] rfl rfl (by kernel_rfl) (fun _ _ _ h => h) (Or.inl ⟨by rfl, ?_⟩) ?_ ?_
  rotate_left
  · intro w'
    go_simp
    with_reducible rfl
  rotate_left
  · simp only [Act.put, List.setIfInBounds_toArray, List.set_cons_zero, List.set_cons_succ]
    rfl
  refine take_ (i := 8) (N := some 91) (v := ?_) (a' := ?_) #[true, true, true, true, true, true, true, true, true, false, false, false, false] rfl rfl (by kernel_rfl) (fun _ _ _ h => h) (Or.inl ⟨by rfl, ?_⟩) hHeld ?_ ?_
  rotate_left
  · rintro w' ⟨s0, s1⟩
    go_simp
    with_reducible rfl
  rotate_left
  · simp only [Act.put, List.setIfInBounds_toArray, List.set_cons_zero, List.set_cons_succ]
    rfl
  refine one_ (i := 9) (N := some 92) #[true, true, true, true, true, true, true, true, true, true, false, false, false] rfl rfl (by kernel_rfl) (by decide) (fun K hK => ?_)
  refine goes_ Tryd.func36 (by kernel_rfl) rfl #[.agg #[.slice A 3 c, .int .i64 now], .int .i64 2] (by rfl) rfl rfl (by first | (go_simp; done) | simp [Act.eval]) ?_
  refine (is_at (l := [0, 0, 0]) (b := false) now 2 A c w0 w3 ho3 (by decide) (by simp) (by rfl)).mono ?_
  rintro e w4 ⟨rfl, hb⟩
  have ho4 := Kd.R_below ho3 hb
  have hS := box_kept hz3 hb hHeld
  have hz4 := Nat.lt_of_lt_of_le hz3 hb.size
  have hB4 := hB3.trans (hb.mono hB3.size)
  have hW4 := hW3.trans (hb.mono hW3.size)
  clear hHeld hb ho3 hB3 hz3 hW3
  refine ⟨_, rfl, hK.out _ _ hS (fun hHeld => ?_)⟩
  clear hK K hS
  refine norm_ (a' := ?_) ?_ ?_
  rotate_left
  · show Act.put _ (some 92) _ = _
    simp only [Act.put, List.setIfInBounds_toArray, List.set_cons_zero, List.set_cons_succ]
    rfl
  refine pure_ (i := 10) (N := some 93) (v := ?_) (a' := ?_) #[true, true, true, true, true, true, true, true, true, true, true, false, false] rfl rfl (by kernel_rfl) (fun _ _ _ h => h) (Or.inl ⟨by rfl, ?_⟩) ?_ ?_
  rotate_left
  · intro w'
    go_simp
    with_reducible rfl
  rotate_left
  · simp only [Act.put, List.setIfInBounds_toArray, List.set_cons_zero, List.set_cons_succ]
    rfl
  refine pure_ (i := 11) (N := some 94) (v := ?_) (a' := ?_) #[true, true, true, true, true, true, true, true, true, true, true, true, false] rfl rfl (by kernel_rfl) (fun _ _ _ h => h) (Or.inl ⟨by rfl, ?_⟩) ?_ ?_
  rotate_left
  · intro w'
    go_simp
    with_reducible rfl
  rotate_left
  · simp only [Act.put, List.setIfInBounds_toArray, List.set_cons_zero, List.set_cons_succ]
    rfl
  refine last_ (i := 12) (N := some 95) #[true, true, true, true, true, true, true, true, true, true, true, true, true] rfl rfl (by kernel_rfl) (by decide) (fun K hK => ?_)
  refine goes_ Tryd.func35 (by kernel_rfl) rfl #[.agg #[.slice A 3 c, .int .i64 now], .int .i64 2, .bool false] (by rfl) rfl rfl (by first | (go_simp; done) | simp [Act.eval]) ?_
  refine (set_any [0, 0, 0] now 2 false _ w0 w4 hB4 ho4 (by decide) (by simp)).mono ?_
  rintro e w5 ⟨rfl, hr, hb, hk⟩
  refine ⟨_, rfl, hK.out _ _ ?_⟩
  clear hK K
  refine norm_ (a' := ?_) ?_ ?_
  rotate_left
  · show Act.put _ (some 95) _ = _
    simp only [Act.put, List.setIfInBounds_toArray, List.set_cons_zero, List.set_cons_succ]
    rfl
  refine done_ (by kernel_rfl) ?_
  go_wp2
  go_end0
  exact ⟨rfl, hr, hb, (Kept.of_below hW4 _).then_ hk (fun _ h => .inl h)⟩

set_option maxRecDepth 100000 in
theorem do_rs001 (now : Int) (A : Option Addr) (c : Nat) (w0 w : World) (hB : Below w0.heap.size w0 w) (ho : Kd.R kI 2 w w0.heap.size (fun _ => True) (.slice A 3 c) [0, 0, 1]) :
    Calls Tryd.prog 20 #[.agg #[.slice A 3 c, .int .i64 now], .int .i64 9] w fun e w' => e = .returned (.tuple #[]) ∧ Kd.R kI 2 w' w0.heap.size (fun _ => True) (.slice A 3 c) [0, 0, 1] ∧ Below w0.heap.size w0 w' ∧ Kept w w' (Own (.slice A 3 c)) := by
  have HO := Lib.hid ho
  have HB := Lib.hid hB
  clear ho hB
  go_enter Tryd.func20, Tryd.ntmps20
  go_wp2_with fail
  have cA : (w.alloc (.cells #[.slice A 3 c, .int .i64 now] 47)).cell? ⟨w.heap.size, 0, none⟩ = some (.slice A 3 c) := by simp [go_sem]
  have cN : (w.alloc (.cells #[.slice A 3 c, .int .i64 now] 47)).cell? ⟨w.heap.size, 1, none⟩ = some (.int .i64 now) := by simp [go_sem]
  refine start_ (n := 13) (S := fun w' => w'.cell? ⟨w.heap.size, 0, none⟩ = some (.slice A 3 c) ∧ w'.cell? ⟨w.heap.size, 1, none⟩ = some (.int .i64 now)) (ds := [12]) #[false, false, false, false, false, false, false, false, false, false, false, false, false] (by kernel_rfl) rfl rfl ⟨cA, cN⟩ (fun hHeld => ?_)
  have ho1 : Kd.R kI 2 (w.alloc (.cells #[.slice A 3 c, .int .i64 now] 47)).drew w0.heap.size (fun _ => True) (.slice A 3 c) [0, 0, 1] := Kd.R_drew (Kd.R_alloc HO.out _)
  have hB1 : Below w0.heap.size w0 (w.alloc (.cells #[.slice A 3 c, .int .i64 now] 47)).drew := (HB.out.alloc HB.out.size _).drew
  have hz1 : w.heap.size < (w.alloc (.cells #[.slice A 3 c, .int .i64 now] 47)).drew.heap.size := by show _ < (w.alloc _).heap.size; simp
  have hW1 : Below w.heap.size w (w.alloc (.cells #[.slice A 3 c, .int .i64 now] 47)).drew := ((Below.refl _ _).alloc (Nat.le_refl _) _).drew
  generalize (w.alloc (.cells #[.slice A 3 c, .int .i64 now] 47)).drew = w1 at ho1 hB1 hz1 hW1 hHeld ⊢
  clear cA cN
  refine take_ (i := 0) (N := some 83) (v := ?_) (a' := ?_) #[true, false, false, false, false, false, false, false, false, false, false, false, false] rfl rfl (by kernel_rfl) (fun _ _ _ h => h) (Or.inl ⟨by rfl, ?_⟩) hHeld ?_ ?_
  rotate_left
  · rintro w' ⟨s0, s1⟩
    go_simp
    with_reducible rfl
  rotate_left
  · simp only [Act.put, List.setIfInBounds_toArray, List.set_cons_zero, List.set_cons_succ]
    rfl
  refine take_ (i := 1) (N := some 84) (v := ?_) (a' := ?_) #[true, true, false, false, false, false, false, false, false, false, false, false, false] rfl rfl (by kernel_rfl) (fun _ _ _ h => h) (Or.inl ⟨by rfl, ?_⟩) hHeld ?_ ?_
  rotate_left
  · rintro w' ⟨s0, s1⟩
    go_simp
    with_reducible rfl
  rotate_left
  · simp only [Act.put, List.setIfInBounds_toArray, List.set_cons_zero, List.set_cons_succ]
    rfl
  refine one_ (i := 2) (N := some 85) #[true, true, true, false, false, false, false, false, false, false, false, false, false] rfl rfl (by kernel_rfl) (by decide) (fun K hK => ?_)
  refine goes_ Tryd.func36 (by kernel_rfl) rfl #[.agg #[.slice A 3 c, .int .i64 now], .int .i64 1] (by rfl) rfl rfl (by first | (go_simp; done) | simp [Act.eval]) ?_
  refine (is_at (l := [0, 0, 1]) (b := false) now 1 A c w0 w1 ho1 (by decide) (by simp) (by rfl)).mono ?_
  rintro e w2 ⟨rfl, hb⟩
  have ho2 := Kd.R_below ho1 hb
  have hS := box_kept hz1 hb hHeld
  have hz2 := Nat.lt_of_lt_of_le hz1 hb.size
  have hB2 := hB1.trans (hb.mono hB1.size)
  have hW2 := hW1.trans (hb.mono hW1.size)
  clear hHeld hb ho1 hB1 hz1 hW1
  refine ⟨_, rfl, hK.out _ _ hS (fun hHeld => ?_)⟩
  clear hK K hS
  refine norm_ (a' := ?_) ?_ ?_
  rotate_left
  · show Act.put _ (some 85) _ = _
    simp only [Act.put, List.setIfInBounds_toArray, List.set_cons_zero, List.set_cons_succ]
    rfl
  refine pure_ (i := 3) (N := some 86) (v := ?_) (a' := ?_) #[true, true, true, true, false, false, false, false, false, false, false, false, false] rfl rfl (by kernel_rfl) (fun _ _ _ h => h) (Or.inl ⟨by rfl, ?_⟩) ?_ ?_
  rotate_left
  · intro w'
    go_simp
    with_reducible rfl
  rotate_left
  · simp only [Act.put, List.setIfInBounds_toArray, List.set_cons_zero, List.set_cons_succ]
    rfl
  refine pure_ (i := 4) (N := some 87) (v := ?_) (a' := ?_) #[true, true, true, true, true, false, false, false, false, false, false, false, false] rfl rfl (by kernel_rfl) (fun _ _ _ h => h) (Or.inl ⟨by rfl, ?_⟩) ?_ ?_
  rotate_left
  · intro w'
    go_simp
    with_reducible rfl
  rotate_left
  · simp only [Act.put, List.setIfInBounds_toArray, List.set_cons_zero, List.set_cons_succ]
    rfl
  refine take_ (i := 5) (N := some 88) (v := ?_) (a' := ?_) #[true, true, true, true, true, true, false, false, false, false, false, false, false] rfl rfl (by kernel_rfl) (fun _ _ _ h => h) (Or.inl ⟨by rfl, ?_⟩) hHeld ?_ ?_
  rotate_left
  · rintro w' ⟨s0, s1⟩
    go_simp
    with_reducible rfl
  rotate_left
  · simp only [Act.put, List.setIfInBounds_toArray, List.set_cons_zero, List.set_cons_succ]
    rfl
  refine one_ (i := 6) (N := some 89) #[true, true, true, true, true, true, true, false, false, false, false, false, false] rfl rfl (by kernel_rfl) (by decide) (fun K hK => ?_)
  refine goes_ Tryd.func36 (by kernel_rfl) rfl #[.agg #[.slice A 3 c, .int .i64 now], .int .i64 0] (by rfl) rfl rfl (by first | (go_simp; done) | simp [Act.eval]) ?_
  refine (is_at (l := [0, 0, 1]) (b := false) now 0 A c w0 w2 ho2 (by decide) (by simp) (by rfl)).mono ?_
  rintro e w3 ⟨rfl, hb⟩
  have ho3 := Kd.R_below ho2 hb
  have hS := box_kept hz2 hb hHeld
  have hz3 := Nat.lt_of_lt_of_le hz2 hb.size
  have hB3 := hB2.trans (hb.mono hB2.size)
  have hW3 := hW2.trans (hb.mono hW2.size)
  clear hHeld hb ho2 hB2 hz2 hW2
  refine ⟨_, rfl, hK.out _ _ hS (fun hHeld => ?_)⟩
  clear hK K hS
  refine norm_ (a' := ?_) ?_ ?_
  rotate_left
  · show Act.put _ (some 89) _ = _
    simp only [Act.put, List.setIfInBounds_toArray, List.set_cons_zero, List.set_cons_succ]
    rfl
  refine pure_ (i := 7) (N := some 90) (v := ?_) (a' := ?_) #[true, true, true, true, true, true, true, true, false, false, false, false, false] rfl rfl (by kernel_rfl) (fun _ _ _ h => h) (Or.inl ⟨by rfl, ?_⟩) ?_ ?_
  rotate_left
  · intro w'
    go_simp
    with_reducible rfl
  rotate_left
  · simp only [Act.put, List.setIfInBounds_toArray, List.set_cons_zero, List.set_cons_succ]
    rfl
  refine take_ (i := 8) (N := some 91) (v := ?_) (a' := ?_) #[true, true, true, true, true, true, true, true, true, false, false, false, false] rfl rfl (by kernel_rfl) (fun _ _ _ h => h) (Or.inl ⟨by rfl, ?_⟩) hHeld ?_ ?_
  rotate_left
  · rintro w' ⟨s0, s1⟩
    go_simp
    with_reducible rfl
  rotate_left
  · simp only [Act.put, List.setIfInBounds_toArray, List.set_cons_zero, List.set_cons_succ]
    rfl
  refine one_ (i := 9) (N := some 92) #[true, true, true, true, true, true, true, true, true, true, false, false, false] rfl rfl (by kernel_rfl) (by decide) (fun K hK => ?_)
  refine goes_ Tryd.func36 (by kernel_rfl) rfl #[.agg #[.slice A 3 c, .int .i64 now], .int .i64 2] (by rfl) rfl rfl (by first | (go_simp; done) | simp [Act.eval]) ?_
  refine (is_at (l := [0, 0, 1]) (b := true) now 2 A c w0 w3 ho3 (by decide) (by simp) (by rfl)).mono ?_
  rintro e w4 ⟨rfl, hb⟩
  have ho4 := Kd.R_below ho3 hb
  have hS := box_kept hz3 hb hHeld
  have hz4 := Nat.lt_of_lt_of_le hz3 hb.size
  have hB4 := hB3.trans (hb.mono hB3.size)
  have hW4 := hW3.trans (hb.mono hW3.size)
  clear hHeld hb ho3 hB3 hz3 hW3
  refine ⟨_, rfl, hK.out _ _ hS (fun hHeld => ?_)⟩
  clear hK K hS
  refine norm_ (a' := ?_) ?_ ?_
  rotate_left
  · show Act.put _ (some 92) _ = _
    simp only [Act.put, List.setIfInBounds_toArray, List.set_cons_zero, List.set_cons_succ]
    rfl
  refine pure_ (i := 10) (N := some 93) (v := ?_) (a' := ?_) #[true, true, true, true, true, true, true, true, true, true, true, false, false] rfl rfl (by kernel_rfl) (fun _ _ _ h => h) (Or.inl ⟨by rfl, ?_⟩) ?_ ?_
  rotate_left
  · intro w'
    go_simp
    with_reducible rfl
  rotate_left
  · simp only [Act.put, List.setIfInBounds_toArray, List.set_cons_zero, List.set_cons_succ]
    rfl
  refine pure_ (i := 11) (N := some 94) (v := ?_) (a' := ?_) #[true, true, true, true, true, true, true, true, true, true, true, true, false] rfl rfl (by kernel_rfl) (fun _ _ _ h => h) (Or.inl ⟨by rfl, ?_⟩) ?_ ?_
  rotate_left
  · intro w'
    go_simp
    with_reducible rfl
  rotate_left
  · simp only [Act.put, List.setIfInBounds_toArray, List.set_cons_zero, List.set_cons_succ]
    rfl
  refine last_ (i := 12) (N := some 95) #[true, true, true, true, true, true, true, true, true, true, true, true, true] rfl rfl (by kernel_rfl) (by decide) (fun K hK => ?_)
  refine goes_ Tryd.func35 (by kernel_rfl) rfl #[.agg #[.slice A 3 c, .int .i64 now], .int .i64 2, .bool true] (by rfl) rfl rfl (by first | (go_simp; done) | simp [Act.eval]) ?_
  refine (set_any [0, 0, 1] now 2 true _ w0 w4 hB4 ho4 (by decide) (by simp)).mono ?_
  rintro e w5 ⟨rfl, hr, hb, hk⟩
  refine ⟨_, rfl, hK.out _ _ ?_⟩
  clear hK K
  refine norm_ (a' := ?_) ?_ ?_
  rotate_left
  · show Act.put _ (some 95) _ = _
    simp only [Act.put, List.setIfInBounds_toArray, List.set_cons_zero, List.set_cons_succ]
    rfl
  refine done_ (by kernel_rfl) ?_
  go_wp2
  go_end0
  exact ⟨rfl, hr, hb, (Kept.of_below hW4 _).then_ hk (fun _ h => .inl h)⟩

end Go.Proofs.YtefflkmegodafaaDoor.PBlockKeeps
