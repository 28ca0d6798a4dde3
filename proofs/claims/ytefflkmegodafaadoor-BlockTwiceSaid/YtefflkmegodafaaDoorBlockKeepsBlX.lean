/-
  The walks of layer 12: a counter's count, up and down.
-/
import Derived.Test.YtefflkmegodafaaDoorBlockKeepsBlW
namespace Go.Proofs.YtefflkmegodafaaDoor.PBlockKeeps
open Go.RowKit Go.Proofs.YtefflkmegodafaaDoorW.PrintWords Go.Proofs.YtefflkmegodafaaDoorW.PrintLast Go.Proofs.YtefflkmegodafaaDoorW.PrintMore
attribute [local go_sem] Oper.semAt_some

theorem fits2 {n : Int} {b : Bool} (h : decide (-32768 ≤ n ∧ n ≤ 32767) = b) : Num.fitsB 2 n = b := by
  subst h
  unfold Num.fitsB Num.knownB Num.wrapT
  simp only [show ((2 : Int) = 1) = False by simp, if_false, if_true]
  by_cases hn : -32768 ≤ n ∧ n ≤ 32767
  · have e : (n + 32768) % 65536 - 32768 = n := by omega
    simp [e, hn]
  · have e : ¬ (n + 32768) % 65536 - 32768 = n := by omega
    simp [e, hn]
theorem fits_two {n : Int} {b : Bool} (h : decide (-32768 ≤ n ∧ n ≤ 32767) = b) (w : World) : Calls Tryd.prog 29 #[.int .i64 2, .int .i64 n] w fun e w' => e = .returned (.bool b) ∧ Below w.heap.size w w' := by
  have h' := Num.fits_any 2 n w
  rw [fits2 h] at h'
  exact h'.mono fun _ _ ⟨he, hw⟩ => ⟨he, hw ▸ Below.refl _ _⟩

set_option maxRecDepth 100000 in
set_option maxHeartbeats 1000000 in
theorem kount_back {w0 w : World} {g cap : Nat} {a c d e f : Int} (now : Int) (h : Has w0 w g cap 6 [a, 1, c, d, e, f] w) (by_ first : Int) (n0 : -32768 ≤ e) (n1 : e ≤ 32767) (b0 : -1 ≤ by_) (b1 : by_ ≤ 1) :
    Calls Tryd.prog 51 #[.agg #[.slice (some ⟨g, 0, none⟩) 6 cap, .int .i64 now], .int .i64 by_, .int .i64 first] w fun x w' => x = .returned (.tuple #[]) ∧ Has w0 w g cap 6 [a, 1, c, d, first, a] w' := by
  have A0 := At.enter h now 67
  obtain ⟨c0, c1⟩ := A0.box
  clear h
  go_enter Tryd.func51, Tryd.ntmps51
  have x4 := (A0.cell 4 (by omega)).1
  go_wp2_with fail
  refine (A0.is 1 (by omega) true (by rfl)).mono ?_
  rintro e1 w1 ⟨rfl, A1⟩
  obtain ⟨d0, d1⟩ := A1.box
  clear c0 c1 A0
  clear x4
  obtain ⟨x4, y4⟩ := A1.cell 4 (by omega)
  have A2 := A1.put 4 (first)
  obtain ⟨z0, z1⟩ := A2.box
  clear A1
  go_wp2_with fail
  refine start_ (n := 10) (S := fun w' => (w'.cell? ⟨w.heap.size, 0, none⟩ = some (.slice (some ⟨g, 0, none⟩) 6 cap) ∧ w'.cell? ⟨w.heap.size, 1, none⟩ = some (.int .i64 now)) ∧ w'.cell? ⟨g, 0, none⟩ = some (.int .i64 a)) (ds := [9]) #[false, false, false, false, false, false, false, false, false, false] (by kernel_rfl) rfl rfl ⟨A2.drew.box, (A2.drew.cell 0 (by omega)).1⟩ (fun hHeld => ?_)
  have A3 := A2.drew
  generalize World.drew _ = w13 at A3 hHeld ⊢
  clear A2 d0 d1 x4 y4 z0 z1
  obtain ⟨x5, y5⟩ := A3.cell 5 (by omega)
  refine pure_ (i := 0) (N := some 42) (v := ?_) (a' := ?_) #[true, false, false, false, false, false, false, false, false, false] rfl rfl (by kernel_rfl) (fun _ _ _ h => h) (Or.inl ⟨by rfl, ?_⟩) ?_ ?_
  rotate_left
  · intro w'
    go_simp
    with_reducible rfl
  rotate_left
  · simp only [Act.put, List.setIfInBounds_toArray, List.set_cons_zero, List.set_cons_succ]
    rfl
  refine pure_ (i := 1) (N := some 43) (v := ?_) (a' := ?_) #[true, true, false, false, false, false, false, false, false, false] rfl rfl (by kernel_rfl) (fun _ _ _ h => h) (Or.inl ⟨by rfl, ?_⟩) ?_ ?_
  rotate_left
  · intro w'
    go_simp
    with_reducible rfl
  rotate_left
  · simp only [Act.put, List.setIfInBounds_toArray, List.set_cons_zero, List.set_cons_succ]
    rfl
  refine take_ (i := 2) (N := some 44) (v := ?_) (a' := ?_) #[true, true, true, false, false, false, false, false, false, false] rfl rfl (by kernel_rfl) (fun _ _ _ h => h) (Or.inl ⟨by rfl, ?_⟩) hHeld ?_ ?_
  rotate_left
  · rintro w' ⟨⟨z0, z1⟩, z2⟩
    go_simp
    with_reducible rfl
  rotate_left
  · simp only [Act.put, List.setIfInBounds_toArray, List.set_cons_zero, List.set_cons_succ]
    rfl
  refine pure_ (i := 3) (N := some 45) (v := ?_) (a' := ?_) #[true, true, true, true, false, false, false, false, false, false] rfl rfl (by kernel_rfl) (fun _ _ _ h => h) (Or.inl ⟨by rfl, ?_⟩) ?_ ?_
  rotate_left
  · intro w'
    go_simp
    with_reducible rfl
  rotate_left
  · simp only [Act.put, List.setIfInBounds_toArray, List.set_cons_zero, List.set_cons_succ]
    rfl
  refine pure_ (i := 4) (N := some 46) (v := ?_) (a' := ?_) #[true, true, true, true, true, false, false, false, false, false] rfl rfl (by kernel_rfl) (fun _ _ _ h => h) (Or.inl ⟨by rfl, ?_⟩) ?_ ?_
  rotate_left
  · intro w'
    go_simp
    with_reducible rfl
  rotate_left
  · simp only [Act.put, List.setIfInBounds_toArray, List.set_cons_zero, List.set_cons_succ]
    rfl
  refine take_ (i := 5) (N := some 47) (v := ?_) (a' := ?_) #[true, true, true, true, true, true, false, false, false, false] rfl rfl (by kernel_rfl) (fun _ _ _ h => h) (Or.inl ⟨by rfl, ?_⟩) hHeld ?_ ?_
  rotate_left
  · rintro w' ⟨⟨z0, z1⟩, z2⟩
    go_simp
    with_reducible rfl
  rotate_left
  · simp only [Act.put, List.setIfInBounds_toArray, List.set_cons_zero, List.set_cons_succ]
    rfl
  refine pure_ (i := 6) (N := some 48) (v := ?_) (a' := ?_) #[true, true, true, true, true, true, true, false, false, false] rfl rfl (by kernel_rfl) (fun _ _ _ h => h) (Or.inl ⟨by rfl, ?_⟩) ?_ ?_
  rotate_left
  · intro w'
    go_simp
    with_reducible rfl
  rotate_left
  · simp only [Act.put, List.setIfInBounds_toArray, List.set_cons_zero, List.set_cons_succ]
    rfl
  refine take_ (i := 7) (N := some 49) (v := ?_) (a' := ?_) #[true, true, true, true, true, true, true, true, false, false] rfl rfl (by kernel_rfl) (fun _ _ _ h => h) (Or.inl ⟨by rfl, ?_⟩) hHeld ?_ ?_
  rotate_left
  · rintro w' ⟨⟨z0, z1⟩, z2⟩
    go_simp
    with_reducible rfl
  rotate_left
  · simp only [Act.put, List.setIfInBounds_toArray, List.set_cons_zero, List.set_cons_succ]
    rfl
  refine pure_ (i := 8) (N := some 50) (v := ?_) (a' := ?_) #[true, true, true, true, true, true, true, true, true, false] rfl rfl (by kernel_rfl) (fun _ _ _ h => h) (Or.inl ⟨by rfl, ?_⟩) ?_ ?_
  rotate_left
  · intro w'
    go_simp
    with_reducible rfl
  rotate_left
  · simp only [Act.put, List.setIfInBounds_toArray, List.set_cons_zero, List.set_cons_succ]
    rfl
  refine last_ (i := 9) (N := none) #[true, true, true, true, true, true, true, true, true, true] rfl rfl (by kernel_rfl) (by decide) (fun K hK => ?_)
  refine skip_ (w1 := ?_) (by rfl) rfl ?_ ?_
  rotate_left
  · go_simp
    rfl
  refine hK.out _ _ ?_
  clear hK K
  refine done_ (by kernel_rfl) ?_
  have A4 := A3.put 5 (a)
  clear x5 y5 hHeld A3
  go_wp2
  go_end0
  exact ⟨rfl, A4.has⟩
  
set_option maxRecDepth 100000 in
set_option maxHeartbeats 1000000 in
theorem kount_0 {w0 w : World} {g cap : Nat} {c d e f : Int} (now : Int) (h : Has w0 w g cap 6 [0, 0, c, d, e, f] w) (by_ first : Int) (n0 : -32768 ≤ e) (n1 : e ≤ 32767) (b0 : -1 ≤ by_) (b1 : by_ ≤ 1) :
    Calls Tryd.prog 51 #[.agg #[.slice (some ⟨g, 0, none⟩) 6 cap, .int .i64 now], .int .i64 by_, .int .i64 first] w fun x w' => x = .returned (.tuple #[]) ∧ Has w0 w g cap 6 [0, 0, c, d, e, 0] w' := by
  have A0 := At.enter h now 67
  obtain ⟨c0, c1⟩ := A0.box
  clear h
  go_enter Tryd.func51, Tryd.ntmps51
  have x4 := (A0.cell 4 (by omega)).1
  go_wp2_with fail
  refine (A0.is 1 (by omega) false (by rfl)).mono ?_
  rintro e1 w1 ⟨rfl, A1⟩
  obtain ⟨d0, d1⟩ := A1.box
  clear c0 c1 A0
  clear x4
  go_wp2_with fail
  refine (A1.is 0 (by omega) false (by rfl)).mono ?_
  rintro e2 w2 ⟨rfl, A2⟩
  obtain ⟨d0, d1⟩ := A2.box
  clear  A1
  go_wp2_with fail
  refine start_ (n := 10) (S := fun w' => (w'.cell? ⟨w.heap.size, 0, none⟩ = some (.slice (some ⟨g, 0, none⟩) 6 cap) ∧ w'.cell? ⟨w.heap.size, 1, none⟩ = some (.int .i64 now)) ∧ w'.cell? ⟨g, 0, none⟩ = some (.int .i64 0)) (ds := [9]) #[false, false, false, false, false, false, false, false, false, false] (by kernel_rfl) rfl rfl ⟨A2.drew.box, (A2.drew.cell 0 (by omega)).1⟩ (fun hHeld => ?_)
  have A3 := A2.drew
  generalize World.drew _ = w13 at A3 hHeld ⊢
  clear A2 d0 d1 
  obtain ⟨x5, y5⟩ := A3.cell 5 (by omega)
  refine pure_ (i := 0) (N := some 42) (v := ?_) (a' := ?_) #[true, false, false, false, false, false, false, false, false, false] rfl rfl (by kernel_rfl) (fun _ _ _ h => h) (Or.inl ⟨by rfl, ?_⟩) ?_ ?_
  rotate_left
  · intro w'
    go_simp
    with_reducible rfl
  rotate_left
  · simp only [Act.put, List.setIfInBounds_toArray, List.set_cons_zero, List.set_cons_succ]
    rfl
  refine pure_ (i := 1) (N := some 43) (v := ?_) (a' := ?_) #[true, true, false, false, false, false, false, false, false, false] rfl rfl (by kernel_rfl) (fun _ _ _ h => h) (Or.inl ⟨by rfl, ?_⟩) ?_ ?_
  rotate_left
  · intro w'
    go_simp
    with_reducible rfl
  rotate_left
  · simp only [Act.put, List.setIfInBounds_toArray, List.set_cons_zero, List.set_cons_succ]
    rfl
  refine take_ (i := 2) (N := some 44) (v := ?_) (a' := ?_) #[true, true, true, false, false, false, false, false, false, false] rfl rfl (by kernel_rfl) (fun _ _ _ h => h) (Or.inl ⟨by rfl, ?_⟩) hHeld ?_ ?_
  rotate_left
  · rintro w' ⟨⟨z0, z1⟩, z2⟩
    go_simp
    with_reducible rfl
  rotate_left
  · simp only [Act.put, List.setIfInBounds_toArray, List.set_cons_zero, List.set_cons_succ]
    rfl
  refine pure_ (i := 3) (N := some 45) (v := ?_) (a' := ?_) #[true, true, true, true, false, false, false, false, false, false] rfl rfl (by kernel_rfl) (fun _ _ _ h => h) (Or.inl ⟨by rfl, ?_⟩) ?_ ?_
  rotate_left
  · intro w'
    go_simp
    with_reducible rfl
  rotate_left
  · simp only [Act.put, List.setIfInBounds_toArray, List.set_cons_zero, List.set_cons_succ]
    rfl
  refine pure_ (i := 4) (N := some 46) (v := ?_) (a' := ?_) #[true, true, true, true, true, false, false, false, false, false] rfl rfl (by kernel_rfl) (fun _ _ _ h => h) (Or.inl ⟨by rfl, ?_⟩) ?_ ?_
  rotate_left
  · intro w'
    go_simp
    with_reducible rfl
  rotate_left
  · simp only [Act.put, List.setIfInBounds_toArray, List.set_cons_zero, List.set_cons_succ]
    rfl
  refine take_ (i := 5) (N := some 47) (v := ?_) (a' := ?_) #[true, true, true, true, true, true, false, false, false, false] rfl rfl (by kernel_rfl) (fun _ _ _ h => h) (Or.inl ⟨by rfl, ?_⟩) hHeld ?_ ?_
  rotate_left
  · rintro w' ⟨⟨z0, z1⟩, z2⟩
    go_simp
    with_reducible rfl
  rotate_left
  · simp only [Act.put, List.setIfInBounds_toArray, List.set_cons_zero, List.set_cons_succ]
    rfl
  refine pure_ (i := 6) (N := some 48) (v := ?_) (a' := ?_) #[true, true, true, true, true, true, true, false, false, false] rfl rfl (by kernel_rfl) (fun _ _ _ h => h) (Or.inl ⟨by rfl, ?_⟩) ?_ ?_
  rotate_left
  · intro w'
    go_simp
    with_reducible rfl
  rotate_left
  · simp only [Act.put, List.setIfInBounds_toArray, List.set_cons_zero, List.set_cons_succ]
    rfl
  refine take_ (i := 7) (N := some 49) (v := ?_) (a' := ?_) #[true, true, true, true, true, true, true, true, false, false] rfl rfl (by kernel_rfl) (fun _ _ _ h => h) (Or.inl ⟨by rfl, ?_⟩) hHeld ?_ ?_
  rotate_left
  · rintro w' ⟨⟨z0, z1⟩, z2⟩
    go_simp
    with_reducible rfl
  rotate_left
  · simp only [Act.put, List.setIfInBounds_toArray, List.set_cons_zero, List.set_cons_succ]
    rfl
  refine pure_ (i := 8) (N := some 50) (v := ?_) (a' := ?_) #[true, true, true, true, true, true, true, true, true, false] rfl rfl (by kernel_rfl) (fun _ _ _ h => h) (Or.inl ⟨by rfl, ?_⟩) ?_ ?_
  rotate_left
  · intro w'
    go_simp
    with_reducible rfl
  rotate_left
  · simp only [Act.put, List.setIfInBounds_toArray, List.set_cons_zero, List.set_cons_succ]
    rfl
  refine last_ (i := 9) (N := none) #[true, true, true, true, true, true, true, true, true, true] rfl rfl (by kernel_rfl) (by decide) (fun K hK => ?_)
  refine skip_ (w1 := ?_) (by rfl) rfl ?_ ?_
  rotate_left
  · go_simp
    rfl
  refine hK.out _ _ ?_
  clear hK K
  refine done_ (by kernel_rfl) ?_
  have A4 := A3.put 5 (0)
  clear x5 y5 hHeld A3
  go_wp2
  go_end0
  exact ⟨rfl, A4.has⟩
  
set_option maxRecDepth 100000 in
set_option maxHeartbeats 1000000 in
theorem kount_1 {w0 w : World} {g cap : Nat} {c d e : Int} (now : Int) (h : Has w0 w g cap 6 [1, 0, c, d, e, 1] w) (by_ first : Int) (n0 : -32768 ≤ e) (n1 : e ≤ 32767) (b0 : -1 ≤ by_) (b1 : by_ ≤ 1) :
    Calls Tryd.prog 51 #[.agg #[.slice (some ⟨g, 0, none⟩) 6 cap, .int .i64 now], .int .i64 by_, .int .i64 first] w fun x w' => x = .returned (.tuple #[]) ∧ Has w0 w g cap 6 [1, 0, c, d, e, 1] w' := by
  have A0 := At.enter h now 67
  obtain ⟨c0, c1⟩ := A0.box
  clear h
  go_enter Tryd.func51, Tryd.ntmps51
  have x4 := (A0.cell 4 (by omega)).1
  go_wp2_with fail
  refine (A0.is 1 (by omega) false (by rfl)).mono ?_
  rintro e1 w1 ⟨rfl, A1⟩
  obtain ⟨d0, d1⟩ := A1.box
  clear c0 c1 A0
  clear x4
  go_wp2_with fail
  refine (A1.is 0 (by omega) true (by rfl)).mono ?_
  rintro e2 w2 ⟨rfl, A2⟩
  obtain ⟨d0, d1⟩ := A2.box
  clear  A1
  go_wp2_with fail
  refine (A2.is 5 (by omega) true (by rfl)).mono ?_
  rintro e3 w3 ⟨rfl, A3⟩
  obtain ⟨d0, d1⟩ := A3.box
  clear  A2
  go_wp2_with fail
  refine start_ (n := 10) (S := fun w' => (w'.cell? ⟨w.heap.size, 0, none⟩ = some (.slice (some ⟨g, 0, none⟩) 6 cap) ∧ w'.cell? ⟨w.heap.size, 1, none⟩ = some (.int .i64 now)) ∧ w'.cell? ⟨g, 0, none⟩ = some (.int .i64 1)) (ds := [9]) #[false, false, false, false, false, false, false, false, false, false] (by kernel_rfl) rfl rfl ⟨A3.drew.box, (A3.drew.cell 0 (by omega)).1⟩ (fun hHeld => ?_)
  have A4 := A3.drew
  generalize World.drew _ = w14 at A4 hHeld ⊢
  clear A3 d0 d1 
  obtain ⟨x5, y5⟩ := A4.cell 5 (by omega)
  refine pure_ (i := 0) (N := some 42) (v := ?_) (a' := ?_) #[true, false, false, false, false, false, false, false, false, false] rfl rfl (by kernel_rfl) (fun _ _ _ h => h) (Or.inl ⟨by rfl, ?_⟩) ?_ ?_
  rotate_left
  · intro w'
    go_simp
    with_reducible rfl
  rotate_left
  · simp only [Act.put, List.setIfInBounds_toArray, List.set_cons_zero, List.set_cons_succ]
    rfl
  refine pure_ (i := 1) (N := some 43) (v := ?_) (a' := ?_) #[true, true, false, false, false, false, false, false, false, false] rfl rfl (by kernel_rfl) (fun _ _ _ h => h) (Or.inl ⟨by rfl, ?_⟩) ?_ ?_
  rotate_left
  · intro w'
    go_simp
    with_reducible rfl
  rotate_left
  · simp only [Act.put, List.setIfInBounds_toArray, List.set_cons_zero, List.set_cons_succ]
    rfl
  refine take_ (i := 2) (N := some 44) (v := ?_) (a' := ?_) #[true, true, true, false, false, false, false, false, false, false] rfl rfl (by kernel_rfl) (fun _ _ _ h => h) (Or.inl ⟨by rfl, ?_⟩) hHeld ?_ ?_
  rotate_left
  · rintro w' ⟨⟨z0, z1⟩, z2⟩
    go_simp
    with_reducible rfl
  rotate_left
  · simp only [Act.put, List.setIfInBounds_toArray, List.set_cons_zero, List.set_cons_succ]
    rfl
  refine pure_ (i := 3) (N := some 45) (v := ?_) (a' := ?_) #[true, true, true, true, false, false, false, false, false, false] rfl rfl (by kernel_rfl) (fun _ _ _ h => h) (Or.inl ⟨by rfl, ?_⟩) ?_ ?_
  rotate_left
  · intro w'
    go_simp
    with_reducible rfl
  rotate_left
  · simp only [Act.put, List.setIfInBounds_toArray, List.set_cons_zero, List.set_cons_succ]
    rfl
  refine pure_ (i := 4) (N := some 46) (v := ?_) (a' := ?_) #[true, true, true, true, true, false, false, false, false, false] rfl rfl (by kernel_rfl) (fun _ _ _ h => h) (Or.inl ⟨by rfl, ?_⟩) ?_ ?_
  rotate_left
  · intro w'
    go_simp
    with_reducible rfl
  rotate_left
  · simp only [Act.put, List.setIfInBounds_toArray, List.set_cons_zero, List.set_cons_succ]
    rfl
  refine take_ (i := 5) (N := some 47) (v := ?_) (a' := ?_) #[true, true, true, true, true, true, false, false, false, false] rfl rfl (by kernel_rfl) (fun _ _ _ h => h) (Or.inl ⟨by rfl, ?_⟩) hHeld ?_ ?_
  rotate_left
  · rintro w' ⟨⟨z0, z1⟩, z2⟩
    go_simp
    with_reducible rfl
  rotate_left
  · simp only [Act.put, List.setIfInBounds_toArray, List.set_cons_zero, List.set_cons_succ]
    rfl
  refine pure_ (i := 6) (N := some 48) (v := ?_) (a' := ?_) #[true, true, true, true, true, true, true, false, false, false] rfl rfl (by kernel_rfl) (fun _ _ _ h => h) (Or.inl ⟨by rfl, ?_⟩) ?_ ?_
  rotate_left
  · intro w'
    go_simp
    with_reducible rfl
  rotate_left
  · simp only [Act.put, List.setIfInBounds_toArray, List.set_cons_zero, List.set_cons_succ]
    rfl
  refine take_ (i := 7) (N := some 49) (v := ?_) (a' := ?_) #[true, true, true, true, true, true, true, true, false, false] rfl rfl (by kernel_rfl) (fun _ _ _ h => h) (Or.inl ⟨by rfl, ?_⟩) hHeld ?_ ?_
  rotate_left
  · rintro w' ⟨⟨z0, z1⟩, z2⟩
    go_simp
    with_reducible rfl
  rotate_left
  · simp only [Act.put, List.setIfInBounds_toArray, List.set_cons_zero, List.set_cons_succ]
    rfl
  refine pure_ (i := 8) (N := some 50) (v := ?_) (a' := ?_) #[true, true, true, true, true, true, true, true, true, false] rfl rfl (by kernel_rfl) (fun _ _ _ h => h) (Or.inl ⟨by rfl, ?_⟩) ?_ ?_
  rotate_left
  · intro w'
    go_simp
    with_reducible rfl
  rotate_left
  · simp only [Act.put, List.setIfInBounds_toArray, List.set_cons_zero, List.set_cons_succ]
    rfl
  refine last_ (i := 9) (N := none) #[true, true, true, true, true, true, true, true, true, true] rfl rfl (by kernel_rfl) (by decide) (fun K hK => ?_)
  refine skip_ (w1 := ?_) (by rfl) rfl ?_ ?_
  rotate_left
  · go_simp
    rfl
  refine hK.out _ _ ?_
  clear hK K
  refine done_ (by kernel_rfl) ?_
  have A5 := A4.put 5 (1)
  clear x5 y5 hHeld A4
  go_wp2
  go_end0
  exact ⟨rfl, A5.has⟩
  
set_option maxRecDepth 100000 in
set_option maxHeartbeats 1000000 in
theorem kount_yes {w0 w : World} {g cap : Nat} {c d e : Int} (now : Int) (h : Has w0 w g cap 6 [1, 0, c, d, e, 0] w) (by_ first : Int) (n0 : -32768 ≤ e) (n1 : e ≤ 32767) (b0 : -1 ≤ by_) (b1 : by_ ≤ 1) (HF : Hid (decide (-32768 ≤ e + by_ ∧ e + by_ ≤ 32767) = true)) :
    Calls Tryd.prog 51 #[.agg #[.slice (some ⟨g, 0, none⟩) 6 cap, .int .i64 now], .int .i64 by_, .int .i64 first] w fun x w' => x = .returned (.tuple #[]) ∧ Has w0 w g cap 6 [1, 0, c, d, e + by_, 1] w' := by
  have A0 := At.enter h now 67
  obtain ⟨c0, c1⟩ := A0.box
  clear h
  go_enter Tryd.func51, Tryd.ntmps51
  have x4 := (A0.cell 4 (by omega)).1
  go_wp2_with fail
  refine (A0.is 1 (by omega) false (by rfl)).mono ?_
  rintro e1 w1 ⟨rfl, A1⟩
  obtain ⟨d0, d1⟩ := A1.box
  clear c0 c1 A0
  clear x4
  go_wp2_with fail
  refine (A1.is 0 (by omega) true (by rfl)).mono ?_
  rintro e2 w2 ⟨rfl, A2⟩
  obtain ⟨d0, d1⟩ := A2.box
  clear  A1
  go_wp2_with fail
  refine (A2.is 5 (by omega) false (by rfl)).mono ?_
  rintro e3 w3 ⟨rfl, A3⟩
  obtain ⟨d0, d1⟩ := A3.box
  clear  A2
  go_wp2_with fail
  refine (fits_two HF.out _).mono ?_
  rintro e4 w4 ⟨rfl, hb⟩
  have A4 := A3.below hb
  clear d0 d1 hb A3
  obtain ⟨d0, d1⟩ := A4.box
  obtain ⟨x4, y4⟩ := A4.cell 4 (by omega)
  have A5 := A4.put 4 (e + by_)
  obtain ⟨z0, z1⟩ := A5.box
  clear A4
  go_wp2_with fail
  refine start_ (n := 10) (S := fun w' => (w'.cell? ⟨w.heap.size, 0, none⟩ = some (.slice (some ⟨g, 0, none⟩) 6 cap) ∧ w'.cell? ⟨w.heap.size, 1, none⟩ = some (.int .i64 now)) ∧ w'.cell? ⟨g, 0, none⟩ = some (.int .i64 1)) (ds := [9]) #[false, false, false, false, false, false, false, false, false, false] (by kernel_rfl) rfl rfl ⟨A5.drew.box, (A5.drew.cell 0 (by omega)).1⟩ (fun hHeld => ?_)
  have A6 := A5.drew
  generalize World.drew _ = w16 at A6 hHeld ⊢
  clear A5 d0 d1 x4 y4 z0 z1
  obtain ⟨x5, y5⟩ := A6.cell 5 (by omega)
  refine pure_ (i := 0) (N := some 42) (v := ?_) (a' := ?_) #[true, false, false, false, false, false, false, false, false, false] rfl rfl (by kernel_rfl) (fun _ _ _ h => h) (Or.inl ⟨by rfl, ?_⟩) ?_ ?_
  rotate_left
  · intro w'
    go_simp
    with_reducible rfl
  rotate_left
  · simp only [Act.put, List.setIfInBounds_toArray, List.set_cons_zero, List.set_cons_succ]
    rfl
  refine pure_ (i := 1) (N := some 43) (v := ?_) (a' := ?_) #[true, true, false, false, false, false, false, false, false, false] rfl rfl (by kernel_rfl) (fun _ _ _ h => h) (Or.inl ⟨by rfl, ?_⟩) ?_ ?_
  rotate_left
  · intro w'
    go_simp
    with_reducible rfl
  rotate_left
  · simp only [Act.put, List.setIfInBounds_toArray, List.set_cons_zero, List.set_cons_succ]
    rfl
  refine take_ (i := 2) (N := some 44) (v := ?_) (a' := ?_) #[true, true, true, false, false, false, false, false, false, false] rfl rfl (by kernel_rfl) (fun _ _ _ h => h) (Or.inl ⟨by rfl, ?_⟩) hHeld ?_ ?_
  rotate_left
  · rintro w' ⟨⟨z0, z1⟩, z2⟩
    go_simp
    with_reducible rfl
  rotate_left
  · simp only [Act.put, List.setIfInBounds_toArray, List.set_cons_zero, List.set_cons_succ]
    rfl
  refine pure_ (i := 3) (N := some 45) (v := ?_) (a' := ?_) #[true, true, true, true, false, false, false, false, false, false] rfl rfl (by kernel_rfl) (fun _ _ _ h => h) (Or.inl ⟨by rfl, ?_⟩) ?_ ?_
  rotate_left
  · intro w'
    go_simp
    with_reducible rfl
  rotate_left
  · simp only [Act.put, List.setIfInBounds_toArray, List.set_cons_zero, List.set_cons_succ]
    rfl
  refine pure_ (i := 4) (N := some 46) (v := ?_) (a' := ?_) #[true, true, true, true, true, false, false, false, false, false] rfl rfl (by kernel_rfl) (fun _ _ _ h => h) (Or.inl ⟨by rfl, ?_⟩) ?_ ?_
  rotate_left
  · intro w'
    go_simp
    with_reducible rfl
  rotate_left
  · simp only [Act.put, List.setIfInBounds_toArray, List.set_cons_zero, List.set_cons_succ]
    rfl
  refine take_ (i := 5) (N := some 47) (v := ?_) (a' := ?_) #[true, true, true, true, true, true, false, false, false, false] rfl rfl (by kernel_rfl) (fun _ _ _ h => h) (Or.inl ⟨by rfl, ?_⟩) hHeld ?_ ?_
  rotate_left
  · rintro w' ⟨⟨z0, z1⟩, z2⟩
    go_simp
    with_reducible rfl
  rotate_left
  · simp only [Act.put, List.setIfInBounds_toArray, List.set_cons_zero, List.set_cons_succ]
    rfl
  refine pure_ (i := 6) (N := some 48) (v := ?_) (a' := ?_) #[true, true, true, true, true, true, true, false, false, false] rfl rfl (by kernel_rfl) (fun _ _ _ h => h) (Or.inl ⟨by rfl, ?_⟩) ?_ ?_
  rotate_left
  · intro w'
    go_simp
    with_reducible rfl
  rotate_left
  · simp only [Act.put, List.setIfInBounds_toArray, List.set_cons_zero, List.set_cons_succ]
    rfl
  refine take_ (i := 7) (N := some 49) (v := ?_) (a' := ?_) #[true, true, true, true, true, true, true, true, false, false] rfl rfl (by kernel_rfl) (fun _ _ _ h => h) (Or.inl ⟨by rfl, ?_⟩) hHeld ?_ ?_
  rotate_left
  · rintro w' ⟨⟨z0, z1⟩, z2⟩
    go_simp
    with_reducible rfl
  rotate_left
  · simp only [Act.put, List.setIfInBounds_toArray, List.set_cons_zero, List.set_cons_succ]
    rfl
  refine pure_ (i := 8) (N := some 50) (v := ?_) (a' := ?_) #[true, true, true, true, true, true, true, true, true, false] rfl rfl (by kernel_rfl) (fun _ _ _ h => h) (Or.inl ⟨by rfl, ?_⟩) ?_ ?_
  rotate_left
  · intro w'
    go_simp
    with_reducible rfl
  rotate_left
  · simp only [Act.put, List.setIfInBounds_toArray, List.set_cons_zero, List.set_cons_succ]
    rfl
  refine last_ (i := 9) (N := none) #[true, true, true, true, true, true, true, true, true, true] rfl rfl (by kernel_rfl) (by decide) (fun K hK => ?_)
  refine skip_ (w1 := ?_) (by rfl) rfl ?_ ?_
  rotate_left
  · go_simp
    rfl
  refine hK.out _ _ ?_
  clear hK K
  refine done_ (by kernel_rfl) ?_
  have A7 := A6.put 5 (1)
  clear x5 y5 hHeld A6
  go_wp2
  go_end0
  exact ⟨rfl, A7.has⟩
  
set_option maxRecDepth 100000 in
set_option maxHeartbeats 1000000 in
theorem kount_no {w0 w : World} {g cap : Nat} {c d e : Int} (now : Int) (h : Has w0 w g cap 6 [1, 0, c, d, e, 0] w) (by_ first : Int) (n0 : -32768 ≤ e) (n1 : e ≤ 32767) (b0 : -1 ≤ by_) (b1 : by_ ≤ 1) (HF : Hid (decide (-32768 ≤ e + by_ ∧ e + by_ ≤ 32767) = false)) :
    Calls Tryd.prog 51 #[.agg #[.slice (some ⟨g, 0, none⟩) 6 cap, .int .i64 now], .int .i64 by_, .int .i64 first] w fun x w' => x = .returned (.tuple #[]) ∧ Has w0 w g cap 6 [1, 0, c, d, e, 1] w' := by
  have A0 := At.enter h now 67
  obtain ⟨c0, c1⟩ := A0.box
  clear h
  go_enter Tryd.func51, Tryd.ntmps51
  have x4 := (A0.cell 4 (by omega)).1
  go_wp2_with fail
  refine (A0.is 1 (by omega) false (by rfl)).mono ?_
  rintro e1 w1 ⟨rfl, A1⟩
  obtain ⟨d0, d1⟩ := A1.box
  clear c0 c1 A0
  clear x4
  go_wp2_with fail
  refine (A1.is 0 (by omega) true (by rfl)).mono ?_
  rintro e2 w2 ⟨rfl, A2⟩
  obtain ⟨d0, d1⟩ := A2.box
  clear  A1
  go_wp2_with fail
  refine (A2.is 5 (by omega) false (by rfl)).mono ?_
  rintro e3 w3 ⟨rfl, A3⟩
  obtain ⟨d0, d1⟩ := A3.box
  clear  A2
  go_wp2_with fail
  refine (fits_two HF.out _).mono ?_
  rintro e4 w4 ⟨rfl, hb⟩
  have A4 := A3.below hb
  clear d0 d1 hb A3
  obtain ⟨d0, d1⟩ := A4.box
  go_wp2_with fail
  refine start_ (n := 10) (S := fun w' => (w'.cell? ⟨w.heap.size, 0, none⟩ = some (.slice (some ⟨g, 0, none⟩) 6 cap) ∧ w'.cell? ⟨w.heap.size, 1, none⟩ = some (.int .i64 now)) ∧ w'.cell? ⟨g, 0, none⟩ = some (.int .i64 1)) (ds := [9]) #[false, false, false, false, false, false, false, false, false, false] (by kernel_rfl) rfl rfl ⟨A4.drew.box, (A4.drew.cell 0 (by omega)).1⟩ (fun hHeld => ?_)
  have A5 := A4.drew
  generalize World.drew _ = w15 at A5 hHeld ⊢
  clear A4 d0 d1 
  obtain ⟨x5, y5⟩ := A5.cell 5 (by omega)
  refine pure_ (i := 0) (N := some 42) (v := ?_) (a' := ?_) #[true, false, false, false, false, false, false, false, false, false] rfl rfl (by kernel_rfl) (fun _ _ _ h => h) (Or.inl ⟨by rfl, ?_⟩) ?_ ?_
  rotate_left
  · intro w'
    go_simp
    with_reducible rfl
  rotate_left
  · simp only [Act.put, List.setIfInBounds_toArray, List.set_cons_zero, List.set_cons_succ]
    rfl
  refine pure_ (i := 1) (N := some 43) (v := ?_) (a' := ?_) #[true, true, false, false, false, false, false, false, false, false] rfl rfl (by kernel_rfl) (fun _ _ _ h => h) (Or.inl ⟨by rfl, ?_⟩) ?_ ?_
  rotate_left
  · intro w'
    go_simp
    with_reducible rfl
  rotate_left
  · simp only [Act.put, List.setIfInBounds_toArray, List.set_cons_zero, List.set_cons_succ]
    rfl
  refine take_ (i := 2) (N := some 44) (v := ?_) (a' := ?_) #[true, true, true, false, false, false, false, false, false, false] rfl rfl (by kernel_rfl) (fun _ _ _ h => h) (Or.inl ⟨by rfl, ?_⟩) hHeld ?_ ?_
  rotate_left
  · rintro w' ⟨⟨z0, z1⟩, z2⟩
    go_simp
    with_reducible rfl
  rotate_left
  · simp only [Act.put, List.setIfInBounds_toArray, List.set_cons_zero, List.set_cons_succ]
    rfl
  refine pure_ (i := 3) (N := some 45) (v := ?_) (a' := ?_) #[true, true, true, true, false, false, false, false, false, false] rfl rfl (by kernel_rfl) (fun _ _ _ h => h) (Or.inl ⟨by rfl, ?_⟩) ?_ ?_
  rotate_left
  · intro w'
    go_simp
    with_reducible rfl
  rotate_left
  · simp only [Act.put, List.setIfInBounds_toArray, List.set_cons_zero, List.set_cons_succ]
    rfl
  refine pure_ (i := 4) (N := some 46) (v := ?_) (a' := ?_) #[true, true, true, true, true, false, false, false, false, false] rfl rfl (by kernel_rfl) (fun _ _ _ h => h) (Or.inl ⟨by rfl, ?_⟩) ?_ ?_
  rotate_left
  · intro w'
    go_simp
    with_reducible rfl
  rotate_left
  · simp only [Act.put, List.setIfInBounds_toArray, List.set_cons_zero, List.set_cons_succ]
    rfl
  refine take_ (i := 5) (N := some 47) (v := ?_) (a' := ?_) #[true, true, true, true, true, true, false, false, false, false] rfl rfl (by kernel_rfl) (fun _ _ _ h => h) (Or.inl ⟨by rfl, ?_⟩) hHeld ?_ ?_
  rotate_left
  · rintro w' ⟨⟨z0, z1⟩, z2⟩
    go_simp
    with_reducible rfl
  rotate_left
  · simp only [Act.put, List.setIfInBounds_toArray, List.set_cons_zero, List.set_cons_succ]
    rfl
  refine pure_ (i := 6) (N := some 48) (v := ?_) (a' := ?_) #[true, true, true, true, true, true, true, false, false, false] rfl rfl (by kernel_rfl) (fun _ _ _ h => h) (Or.inl ⟨by rfl, ?_⟩) ?_ ?_
  rotate_left
  · intro w'
    go_simp
    with_reducible rfl
  rotate_left
  · simp only [Act.put, List.setIfInBounds_toArray, List.set_cons_zero, List.set_cons_succ]
    rfl
  refine take_ (i := 7) (N := some 49) (v := ?_) (a' := ?_) #[true, true, true, true, true, true, true, true, false, false] rfl rfl (by kernel_rfl) (fun _ _ _ h => h) (Or.inl ⟨by rfl, ?_⟩) hHeld ?_ ?_
  rotate_left
  · rintro w' ⟨⟨z0, z1⟩, z2⟩
    go_simp
    with_reducible rfl
  rotate_left
  · simp only [Act.put, List.setIfInBounds_toArray, List.set_cons_zero, List.set_cons_succ]
    rfl
  refine pure_ (i := 8) (N := some 50) (v := ?_) (a' := ?_) #[true, true, true, true, true, true, true, true, true, false] rfl rfl (by kernel_rfl) (fun _ _ _ h => h) (Or.inl ⟨by rfl, ?_⟩) ?_ ?_
  rotate_left
  · intro w'
    go_simp
    with_reducible rfl
  rotate_left
  · simp only [Act.put, List.setIfInBounds_toArray, List.set_cons_zero, List.set_cons_succ]
    rfl
  refine last_ (i := 9) (N := none) #[true, true, true, true, true, true, true, true, true, true] rfl rfl (by kernel_rfl) (by decide) (fun K hK => ?_)
  refine skip_ (w1 := ?_) (by rfl) rfl ?_ ?_
  rotate_left
  · go_simp
    rfl
  refine hK.out _ _ ?_
  clear hK K
  refine done_ (by kernel_rfl) ?_
  have A6 := A5.put 5 (1)
  clear x5 y5 hHeld A5
  go_wp2
  go_end0
  exact ⟨rfl, A6.has⟩
  
/-- what CV becomes -/
def cvV (a b e f by_ first : Int) : Int := if b = 1 then first else if a = 1 ∧ f = 0 ∧ -32768 ≤ e + by_ ∧ e + by_ ≤ 32767 then e + by_ else e
theorem kount_any {w0 w : World} {g cap : Nat} {a b c d e f : Int} (now : Int) (h : Has w0 w g cap 6 [a, b, c, d, e, f] w) (by_ first : Int) (ha : Bit a) (hb : Bit b) (hf : Bit f) (n0 : -32768 ≤ e) (n1 : e ≤ 32767) (b0 : -1 ≤ by_) (b1 : by_ ≤ 1) :
    Calls Tryd.prog 51 #[.agg #[.slice (some ⟨g, 0, none⟩) 6 cap, .int .i64 now], .int .i64 by_, .int .i64 first] w fun x w' => x = .returned (.tuple #[]) ∧ Has w0 w g cap 6 [a, b, c, d, cvV a b e f by_ first, a] w' := by
  rcases hb with rfl | rfl
  · rcases ha with rfl | rfl
    · have e1 : cvV 0 0 e f by_ first = e := by simp [cvV]
      rw [e1]; exact kount_0 now h by_ first n0 n1 b0 b1
    · rcases hf with rfl | rfl
      · by_cases hn : -32768 ≤ e + by_ ∧ e + by_ ≤ 32767
        · have e1 : cvV 1 0 e 0 by_ first = e + by_ := by simp [cvV, hn]
          rw [e1]; exact kount_yes now h by_ first n0 n1 b0 b1 (Lib.hid (by simpa using hn))
        · have e1 : cvV 1 0 e 0 by_ first = e := by simp [cvV, hn]
          rw [e1]; exact kount_no now h by_ first n0 n1 b0 b1 (Lib.hid (by simpa using hn))
      · have e1 : cvV 1 0 e 1 by_ first = e := by simp [cvV]
        rw [e1]; exact kount_1 now h by_ first n0 n1 b0 b1
  · have e1 : cvV a 1 e f by_ first = first := by simp [cvV]
    rw [e1]; exact kount_back now h by_ first n0 n1 b0 b1
theorem At.kount {w0 w W : World} {g cap B : Nat} {a b c d e f now : Int} (h : At w0 w g cap 6 B now [a, b, c, d, e, f] W) (by_ first : Int) (ha : Bit a) (hb : Bit b) (hf : Bit f) (n0 : -32768 ≤ e) (n1 : e ≤ 32767) (b0 : -1 ≤ by_) (b1 : by_ ≤ 1) :
    Calls Tryd.prog 51 #[.agg #[.slice (some ⟨g, 0, none⟩) 6 cap, .int .i64 now], .int .i64 by_, .int .i64 first] W fun x W' => x = .returned (.tuple #[]) ∧ At w0 w g cap 6 B now [a, b, c, d, cvV a b e f by_ first, a] W' :=
  (kount_any now h.1.self by_ first ha hb hf n0 n1 b0 b1).mono fun _ _ ⟨he, h'⟩ => ⟨he, h.after h'⟩

set_option maxRecDepth 100000 in
set_option maxHeartbeats 1000000 in
theorem up_any {w0 w : World} {g cap : Nat} {a b c d e f : Int} (now : Int) (h : Has w0 w g cap 6 [a, b, c, d, e, f] w) (v : Int) (q : Bool) (ha : Bit a) (hb : Bit b) (hf : Bit f) (n0 : -32768 ≤ e) (n1 : e ≤ 32767) (HV : Hid (cvV a b e f 1 0 = v)) (HQ : Hid (decide (c ≤ v) = q)) :
    Calls Tryd.prog 33 #[.agg #[.slice (some ⟨g, 0, none⟩) 6 cap, .int .i64 now]] w fun x w' => x = .returned (.tuple #[]) ∧ Has w0 w g cap 6 [a, b, c, bitI q, v, a] w' := by
  have A0 := At.enter h now 67
  obtain ⟨c0, c1⟩ := A0.box
  clear h
  go_enter Tryd.func33, Tryd.ntmps33
  go_wp2_with fail
  refine (A0.kount 1 0 ha hb hf n0 n1 (by omega) (by omega)).mono ?_
  rintro e1 w1 ⟨rfl, A1⟩
  obtain ⟨d0, d1⟩ := A1.box
  clear c0 c1 A0
  rw [HV.out] at A1
  go_wp2_with fail
  refine start_ (n := 14) (S := fun w' => (w'.cell? ⟨w.heap.size, 0, none⟩ = some (.slice (some ⟨g, 0, none⟩) 6 cap) ∧ w'.cell? ⟨w.heap.size, 1, none⟩ = some (.int .i64 now)) ∧ w'.cell? ⟨g, 4, none⟩ = some (.int .i64 v) ∧ w'.cell? ⟨g, 2, none⟩ = some (.int .i64 c)) (ds := [13]) #[false, false, false, false, false, false, false, false, false, false, false, false, false, false] (by kernel_rfl) rfl rfl ⟨A1.drew.box, (A1.drew.cell 4 (by omega)).1, (A1.drew.cell 2 (by omega)).1⟩ (fun hHeld => ?_)
  have A2 := A1.drew
  generalize World.drew _ = w2 at A2 hHeld ⊢
  clear A1 d0 d1
  refine pure_ (i := 0) (N := some 4) (v := ?_) (a' := ?_) #[true, false, false, false, false, false, false, false, false, false, false, false, false, false] rfl rfl (by kernel_rfl) (fun _ _ _ h => h) (Or.inl ⟨by rfl, ?_⟩) ?_ ?_
  rotate_left
  · intro w'
    go_simp
    with_reducible rfl
  rotate_left
  · simp only [Act.put, List.setIfInBounds_toArray, List.set_cons_zero, List.set_cons_succ]
    rfl
  refine take_ (i := 1) (N := some 5) (v := ?_) (a' := ?_) #[true, true, false, false, false, false, false, false, false, false, false, false, false, false] rfl rfl (by kernel_rfl) (fun _ _ _ h => h) (Or.inl ⟨by rfl, ?_⟩) hHeld ?_ ?_
  rotate_left
  · rintro w' ⟨⟨z0, z1⟩, z2, z3⟩
    go_simp
    with_reducible rfl
  rotate_left
  · simp only [Act.put, List.setIfInBounds_toArray, List.set_cons_zero, List.set_cons_succ]
    rfl
  refine pure_ (i := 2) (N := some 6) (v := ?_) (a' := ?_) #[true, true, true, false, false, false, false, false, false, false, false, false, false, false] rfl rfl (by kernel_rfl) (fun _ _ _ h => h) (Or.inl ⟨by rfl, ?_⟩) ?_ ?_
  rotate_left
  · intro w'
    go_simp
    with_reducible rfl
  rotate_left
  · simp only [Act.put, List.setIfInBounds_toArray, List.set_cons_zero, List.set_cons_succ]
    rfl
  refine pure_ (i := 3) (N := some 7) (v := ?_) (a' := ?_) #[true, true, true, true, false, false, false, false, false, false, false, false, false, false] rfl rfl (by kernel_rfl) (fun _ _ _ h => h) (Or.inl ⟨by rfl, ?_⟩) ?_ ?_
  rotate_left
  · intro w'
    go_simp
    with_reducible rfl
  rotate_left
  · simp only [Act.put, List.setIfInBounds_toArray, List.set_cons_zero, List.set_cons_succ]
    rfl
  refine take_ (i := 4) (N := some 8) (v := ?_) (a' := ?_) #[true, true, true, true, true, false, false, false, false, false, false, false, false, false] rfl rfl (by kernel_rfl) (fun _ _ _ h => h) (Or.inl ⟨by rfl, ?_⟩) hHeld ?_ ?_
  rotate_left
  · rintro w' ⟨⟨z0, z1⟩, z2, z3⟩
    go_simp
    with_reducible rfl
  rotate_left
  · simp only [Act.put, List.setIfInBounds_toArray, List.set_cons_zero, List.set_cons_succ]
    rfl
  refine pure_ (i := 5) (N := some 9) (v := ?_) (a' := ?_) #[true, true, true, true, true, true, false, false, false, false, false, false, false, false] rfl rfl (by kernel_rfl) (fun _ _ _ h => h) (Or.inl ⟨by rfl, ?_⟩) ?_ ?_
  rotate_left
  · intro w'
    go_simp
    with_reducible rfl
  rotate_left
  · simp only [Act.put, List.setIfInBounds_toArray, List.set_cons_zero, List.set_cons_succ]
    rfl
  refine take_ (i := 6) (N := some 10) (v := ?_) (a' := ?_) #[true, true, true, true, true, true, true, false, false, false, false, false, false, false] rfl rfl (by kernel_rfl) (fun _ _ _ h => h) (Or.inl ⟨by rfl, ?_⟩) hHeld ?_ ?_
  rotate_left
  · rintro w' ⟨⟨z0, z1⟩, z2, z3⟩
    go_simp
    with_reducible rfl
  rotate_left
  · simp only [Act.put, List.setIfInBounds_toArray, List.set_cons_zero, List.set_cons_succ]
    rfl
  refine pure_ (i := 7) (N := some 11) (v := ?_) (a' := ?_) #[true, true, true, true, true, true, true, true, false, false, false, false, false, false] rfl rfl (by kernel_rfl) (fun _ _ _ h => h) (Or.inl ⟨by rfl, ?_⟩) ?_ ?_
  rotate_left
  · intro w'
    go_simp
    with_reducible rfl
  rotate_left
  · simp only [Act.put, List.setIfInBounds_toArray, List.set_cons_zero, List.set_cons_succ]
    rfl
  refine pure_ (i := 8) (N := some 12) (v := ?_) (a' := ?_) #[true, true, true, true, true, true, true, true, true, false, false, false, false, false] rfl rfl (by kernel_rfl) (fun _ _ _ h => h) (Or.inl ⟨by rfl, ?_⟩) ?_ ?_
  rotate_left
  · intro w'
    go_simp
    with_reducible rfl
  rotate_left
  · simp only [Act.put, List.setIfInBounds_toArray, List.set_cons_zero, List.set_cons_succ]
    rfl
  refine take_ (i := 9) (N := some 13) (v := ?_) (a' := ?_) #[true, true, true, true, true, true, true, true, true, true, false, false, false, false] rfl rfl (by kernel_rfl) (fun _ _ _ h => h) (Or.inl ⟨by rfl, ?_⟩) hHeld ?_ ?_
  rotate_left
  · rintro w' ⟨⟨z0, z1⟩, z2, z3⟩
    go_simp
    with_reducible rfl
  rotate_left
  · simp only [Act.put, List.setIfInBounds_toArray, List.set_cons_zero, List.set_cons_succ]
    rfl
  refine pure_ (i := 10) (N := some 14) (v := ?_) (a' := ?_) #[true, true, true, true, true, true, true, true, true, true, true, false, false, false] rfl rfl (by kernel_rfl) (fun _ _ _ h => h) (Or.inl ⟨by rfl, ?_⟩) ?_ ?_
  rotate_left
  · intro w'
    go_simp
    with_reducible rfl
  rotate_left
  · simp only [Act.put, List.setIfInBounds_toArray, List.set_cons_zero, List.set_cons_succ]
    rfl
  refine take_ (i := 11) (N := some 15) (v := ?_) (a' := ?_) #[true, true, true, true, true, true, true, true, true, true, true, true, false, false] rfl rfl (by kernel_rfl) (fun _ _ _ h => h) (Or.inl ⟨by rfl, ?_⟩) hHeld ?_ ?_
  rotate_left
  · rintro w' ⟨⟨z0, z1⟩, z2, z3⟩
    go_simp
    with_reducible rfl
  rotate_left
  · simp only [Act.put, List.setIfInBounds_toArray, List.set_cons_zero, List.set_cons_succ]
    rfl
  refine pure_ (i := 12) (N := some 16) (v := ?_) (a' := ?_) #[true, true, true, true, true, true, true, true, true, true, true, true, true, false] rfl rfl (by kernel_rfl) (fun _ _ _ h => h) (Or.inl ⟨by rfl, ?_⟩) ?_ ?_
  rotate_left
  · intro w'
    go_simp
    with_reducible rfl
  rotate_left
  · simp only [Act.put, List.setIfInBounds_toArray, List.set_cons_zero, List.set_cons_succ]
    rfl
  refine last_ (i := 13) (N := some 17) #[true, true, true, true, true, true, true, true, true, true, true, true, true, true] rfl rfl (by kernel_rfl) (by decide) (fun K hK => ?_)
  refine goes_ Tryd.func35 (by kernel_rfl) rfl #[.agg #[.slice (some ⟨g, 0, none⟩) 6 cap, .int .i64 now], .int .i64 3, .bool (decide (c ≤ v))] (by rfl) rfl rfl (by first | (go_simp; done) | simp [Act.eval]) ?_
  refine (A2.set 3 (by omega) _).mono ?_
  rintro e3 w3 ⟨rfl, A3⟩
  rw [HQ.out] at A3
  clear hHeld A2
  refine ⟨_, rfl, hK.out _ _ ?_⟩
  clear hK K
  refine norm_ (a' := ?_) ?_ ?_
  rotate_left
  · show Act.put _ (some 17) _ = _
    simp only [Act.put, List.setIfInBounds_toArray, List.set_cons_zero, List.set_cons_succ]
    rfl
  refine done_ (by kernel_rfl) ?_
  go_wp2
  go_end0
  exact ⟨rfl, A3.has⟩
  
set_option maxRecDepth 100000 in
set_option maxHeartbeats 1000000 in
theorem down_any {w0 w : World} {g cap : Nat} {a b c d e f : Int} (now : Int) (h : Has w0 w g cap 6 [a, b, c, d, e, f] w) (v : Int) (q : Bool) (ha : Bit a) (hb : Bit b) (hf : Bit f) (n0 : -32768 ≤ e) (n1 : e ≤ 32767) (HV : Hid (cvV a b e f (-1) c = v)) (HQ : Hid (decide (v ≤ 0) = q)) :
    Calls Tryd.prog 34 #[.agg #[.slice (some ⟨g, 0, none⟩) 6 cap, .int .i64 now]] w fun x w' => x = .returned (.tuple #[]) ∧ Has w0 w g cap 6 [a, b, c, bitI q, v, a] w' := by
  have A0 := At.enter h now 67
  obtain ⟨c0, c1⟩ := A0.box
  clear h
  go_enter Tryd.func34, Tryd.ntmps34
  go_wp2_with fail
  refine start_ (n := 7) (S := fun w' => (w'.cell? ⟨w.heap.size, 0, none⟩ = some (.slice (some ⟨g, 0, none⟩) 6 cap) ∧ w'.cell? ⟨w.heap.size, 1, none⟩ = some (.int .i64 now)) ∧ w'.cell? ⟨g, 2, none⟩ = some (.int .i64 c)) (ds := [6]) #[false, false, false, false, false, false, false] (by kernel_rfl) rfl rfl ⟨A0.drew.box, (A0.drew.cell 2 (by omega)).1⟩ (fun hHeld => ?_)
  have A1 := A0.drew
  generalize World.drew _ = w1 at A1 hHeld ⊢
  clear A0 c0 c1
  refine take_ (i := 0) (N := some 2) (v := ?_) (a' := ?_) #[true, false, false, false, false, false, false] rfl rfl (by kernel_rfl) (fun _ _ _ h => h) (Or.inl ⟨by rfl, ?_⟩) hHeld ?_ ?_
  rotate_left
  · rintro w' ⟨⟨z0, z1⟩, z2⟩
    go_simp
    with_reducible rfl
  rotate_left
  · simp only [Act.put, List.setIfInBounds_toArray, List.set_cons_zero, List.set_cons_succ]
    rfl
  refine pure_ (i := 1) (N := some 3) (v := ?_) (a' := ?_) #[true, true, false, false, false, false, false] rfl rfl (by kernel_rfl) (fun _ _ _ h => h) (Or.inl ⟨by rfl, ?_⟩) ?_ ?_
  rotate_left
  · intro w'
    go_simp
    with_reducible rfl
  rotate_left
  · simp only [Act.put, List.setIfInBounds_toArray, List.set_cons_zero, List.set_cons_succ]
    rfl
  refine pure_ (i := 2) (N := some 4) (v := ?_) (a' := ?_) #[true, true, true, false, false, false, false] rfl rfl (by kernel_rfl) (fun _ _ _ h => h) (Or.inl ⟨by rfl, ?_⟩) ?_ ?_
  rotate_left
  · intro w'
    go_simp
    with_reducible rfl
  rotate_left
  · simp only [Act.put, List.setIfInBounds_toArray, List.set_cons_zero, List.set_cons_succ]
    rfl
  refine take_ (i := 3) (N := some 5) (v := ?_) (a' := ?_) #[true, true, true, true, false, false, false] rfl rfl (by kernel_rfl) (fun _ _ _ h => h) (Or.inl ⟨by rfl, ?_⟩) hHeld ?_ ?_
  rotate_left
  · rintro w' ⟨⟨z0, z1⟩, z2⟩
    go_simp
    with_reducible rfl
  rotate_left
  · simp only [Act.put, List.setIfInBounds_toArray, List.set_cons_zero, List.set_cons_succ]
    rfl
  refine pure_ (i := 4) (N := some 6) (v := ?_) (a' := ?_) #[true, true, true, true, true, false, false] rfl rfl (by kernel_rfl) (fun _ _ _ h => h) (Or.inl ⟨by rfl, ?_⟩) ?_ ?_
  rotate_left
  · intro w'
    go_simp
    with_reducible rfl
  rotate_left
  · simp only [Act.put, List.setIfInBounds_toArray, List.set_cons_zero, List.set_cons_succ]
    rfl
  refine take_ (i := 5) (N := some 7) (v := ?_) (a' := ?_) #[true, true, true, true, true, true, false] rfl rfl (by kernel_rfl) (fun _ _ _ h => h) (Or.inl ⟨by rfl, ?_⟩) hHeld ?_ ?_
  rotate_left
  · rintro w' ⟨⟨z0, z1⟩, z2⟩
    go_simp
    with_reducible rfl
  rotate_left
  · simp only [Act.put, List.setIfInBounds_toArray, List.set_cons_zero, List.set_cons_succ]
    rfl
  refine last_ (i := 6) (N := some 8) #[true, true, true, true, true, true, true] rfl rfl (by kernel_rfl) (by decide) (fun K hK => ?_)
  refine goes_ Tryd.func51 (by kernel_rfl) rfl #[.agg #[.slice (some ⟨g, 0, none⟩) 6 cap, .int .i64 now], .int .i64 (-1), .int .i64 c] (by rfl) rfl rfl (by first | (go_simp; done) | simp [Act.eval]) ?_
  refine (A1.kount (-1) c ha hb hf n0 n1 (by omega) (by omega)).mono ?_
  rintro e2 w2 ⟨rfl, A2⟩
  rw [HV.out] at A2
  clear hHeld A1
  refine ⟨_, rfl, hK.out _ _ ?_⟩
  clear hK K
  refine norm_ (a' := ?_) ?_ ?_
  rotate_left
  · show Act.put _ (some 8) _ = _
    simp only [Act.put, List.setIfInBounds_toArray, List.set_cons_zero, List.set_cons_succ]
    rfl
  refine done_ (by kernel_rfl) ?_
  obtain ⟨d0, d1⟩ := A2.box
  go_wp2_with fail
  refine start_ (n := 9) (S := fun w' => (w'.cell? ⟨w.heap.size, 0, none⟩ = some (.slice (some ⟨g, 0, none⟩) 6 cap) ∧ w'.cell? ⟨w.heap.size, 1, none⟩ = some (.int .i64 now)) ∧ w'.cell? ⟨g, 4, none⟩ = some (.int .i64 v)) (ds := [8]) #[false, false, false, false, false, false, false, false, false] (by kernel_rfl) rfl rfl ⟨A2.drew.box, (A2.drew.cell 4 (by omega)).1⟩ (fun hHeld => ?_)
  have A3 := A2.drew
  generalize World.drew _ = w3 at A3 hHeld ⊢
  clear A2 d0 d1
  refine pure_ (i := 0) (N := some 9) (v := ?_) (a' := ?_) #[true, false, false, false, false, false, false, false, false] rfl rfl (by kernel_rfl) (fun _ _ _ h => h) (Or.inl ⟨by rfl, ?_⟩) ?_ ?_
  rotate_left
  · intro w'
    go_simp
    with_reducible rfl
  rotate_left
  · simp only [Act.put, List.setIfInBounds_toArray, List.set_cons_zero, List.set_cons_succ]
    rfl
  refine take_ (i := 1) (N := some 10) (v := ?_) (a' := ?_) #[true, true, false, false, false, false, false, false, false] rfl rfl (by kernel_rfl) (fun _ _ _ h => h) (Or.inl ⟨by rfl, ?_⟩) hHeld ?_ ?_
  rotate_left
  · rintro w' ⟨⟨z0, z1⟩, z2⟩
    go_simp
    with_reducible rfl
  rotate_left
  · simp only [Act.put, List.setIfInBounds_toArray, List.set_cons_zero, List.set_cons_succ]
    rfl
  refine pure_ (i := 2) (N := some 11) (v := ?_) (a' := ?_) #[true, true, true, false, false, false, false, false, false] rfl rfl (by kernel_rfl) (fun _ _ _ h => h) (Or.inl ⟨by rfl, ?_⟩) ?_ ?_
  rotate_left
  · intro w'
    go_simp
    with_reducible rfl
  rotate_left
  · simp only [Act.put, List.setIfInBounds_toArray, List.set_cons_zero, List.set_cons_succ]
    rfl
  refine pure_ (i := 3) (N := some 12) (v := ?_) (a' := ?_) #[true, true, true, true, false, false, false, false, false] rfl rfl (by kernel_rfl) (fun _ _ _ h => h) (Or.inl ⟨by rfl, ?_⟩) ?_ ?_
  rotate_left
  · intro w'
    go_simp
    with_reducible rfl
  rotate_left
  · simp only [Act.put, List.setIfInBounds_toArray, List.set_cons_zero, List.set_cons_succ]
    rfl
  refine take_ (i := 4) (N := some 13) (v := ?_) (a' := ?_) #[true, true, true, true, true, false, false, false, false] rfl rfl (by kernel_rfl) (fun _ _ _ h => h) (Or.inl ⟨by rfl, ?_⟩) hHeld ?_ ?_
  rotate_left
  · rintro w' ⟨⟨z0, z1⟩, z2⟩
    go_simp
    with_reducible rfl
  rotate_left
  · simp only [Act.put, List.setIfInBounds_toArray, List.set_cons_zero, List.set_cons_succ]
    rfl
  refine pure_ (i := 5) (N := some 14) (v := ?_) (a' := ?_) #[true, true, true, true, true, true, false, false, false] rfl rfl (by kernel_rfl) (fun _ _ _ h => h) (Or.inl ⟨by rfl, ?_⟩) ?_ ?_
  rotate_left
  · intro w'
    go_simp
    with_reducible rfl
  rotate_left
  · simp only [Act.put, List.setIfInBounds_toArray, List.set_cons_zero, List.set_cons_succ]
    rfl
  refine take_ (i := 6) (N := some 15) (v := ?_) (a' := ?_) #[true, true, true, true, true, true, true, false, false] rfl rfl (by kernel_rfl) (fun _ _ _ h => h) (Or.inl ⟨by rfl, ?_⟩) hHeld ?_ ?_
  rotate_left
  · rintro w' ⟨⟨z0, z1⟩, z2⟩
    go_simp
    with_reducible rfl
  rotate_left
  · simp only [Act.put, List.setIfInBounds_toArray, List.set_cons_zero, List.set_cons_succ]
    rfl
  refine pure_ (i := 7) (N := some 16) (v := ?_) (a' := ?_) #[true, true, true, true, true, true, true, true, false] rfl rfl (by kernel_rfl) (fun _ _ _ h => h) (Or.inl ⟨by rfl, ?_⟩) ?_ ?_
  rotate_left
  · intro w'
    go_simp
    with_reducible rfl
  rotate_left
  · simp only [Act.put, List.setIfInBounds_toArray, List.set_cons_zero, List.set_cons_succ]
    rfl
  refine last_ (i := 8) (N := some 17) #[true, true, true, true, true, true, true, true, true] rfl rfl (by kernel_rfl) (by decide) (fun K hK => ?_)
  refine goes_ Tryd.func35 (by kernel_rfl) rfl #[.agg #[.slice (some ⟨g, 0, none⟩) 6 cap, .int .i64 now], .int .i64 3, .bool (decide (v ≤ 0))] (by rfl) rfl rfl (by first | (go_simp; done) | simp [Act.eval]) ?_
  refine (A3.set 3 (by omega) _).mono ?_
  rintro e4 w4 ⟨rfl, A4⟩
  rw [HQ.out] at A4
  clear hHeld A3
  refine ⟨_, rfl, hK.out _ _ ?_⟩
  clear hK K
  refine norm_ (a' := ?_) ?_ ?_
  rotate_left
  · show Act.put _ (some 17) _ = _
    simp only [Act.put, List.setIfInBounds_toArray, List.set_cons_zero, List.set_cons_succ]
    rfl
  refine done_ (by kernel_rfl) ?_
  go_wp2
  go_end0
  exact ⟨rfl, A4.has⟩
  
end Go.Proofs.YtefflkmegodafaaDoor.PBlockKeeps
