/-
  The walks of layer 12: a timer's on, off and pulse.
-/
import Derived.Test.YtefflkmegodafaaDoorBlockKeepsBlV
namespace Go.Proofs.YtefflkmegodafaaDoor.PBlockKeeps
open Go.RowKit Go.Proofs.YtefflkmegodafaaDoorW.PrintWords Go.Proofs.YtefflkmegodafaaDoorW.PrintLast Go.Proofs.YtefflkmegodafaaDoorW.PrintMore
attribute [local go_sem] Oper.semAt_some

set_option maxRecDepth 100000 in
theorem begin_no {w0 w : World} {g cap : Nat} {l : List Int} (now : Int) (h : Has w0 w g cap 6 l w) :
    Calls Tryd.prog 49 #[.agg #[.slice (some ⟨g, 0, none⟩) 6 cap, .int .i64 now], .bool false] w fun x w' => x = .returned (.tuple #[]) ∧ Has w0 w g cap 6 l w' := by
  have H := Lib.hid (h.below (bnew' w (.cells #[.slice (some ⟨g, 0, none⟩) 6 cap, .int .i64 now] 66)))
  obtain ⟨c0, c1⟩ := box_new w (.slice (some ⟨g, 0, none⟩) 6 cap) (.int .i64 now) 66
  clear h
  go_enter Tryd.func49, Tryd.ntmps49
  go_wp2
  go_end0
  exact ⟨rfl, H.out⟩
theorem At.begin_no {w0 w W : World} {g cap B : Nat} {l : List Int} {now : Int} (h : At w0 w g cap 6 B now l W) :
    Calls Tryd.prog 49 #[.agg #[.slice (some ⟨g, 0, none⟩) 6 cap, .int .i64 now], .bool false] W fun x W' => x = .returned (.tuple #[]) ∧ At w0 w g cap 6 B now l W' :=
  (PBlockKeeps.begin_no now h.1.self).mono fun _ _ ⟨he, h'⟩ => ⟨he, h.after h'⟩

set_option maxRecDepth 100000 in
set_option maxHeartbeats 1000000 in
theorem on_no {w0 w : World} {g cap : Nat} {b c d e f : Int} (now : Int) (h : Has w0 w g cap 6 [0, b, c, d, e, f] w)  :
    Calls Tryd.prog 30 #[.agg #[.slice (some ⟨g, 0, none⟩) 6 cap, .int .i64 now]] w fun x w' => x = .returned (.tuple #[]) ∧ Has w0 w g cap 6 [0, b, 0, 0, e, 0] w' := by
  have A0 := At.enter h now 66
  obtain ⟨c0, c1⟩ := A0.box
  clear h
  go_enter Tryd.func30, Tryd.ntmps30
  go_wp2_with fail
  refine (A0.is 0 (by omega) false (by rfl)).mono ?_
  rintro e1 w1 ⟨rfl, A1⟩
  obtain ⟨d0, d1⟩ := A1.box
  clear c0 c1 A0
  go_wp2_with fail
  refine (A1.stop false).mono ?_
  rintro e2 w2 ⟨rfl, A2⟩
  obtain ⟨d0, d1⟩ := A2.box
  clear  A1
  go_wp2
  refine bodyPost_ret (results_none rfl _ _ _) rfl ?_
  exact ⟨rfl, A2.has⟩
  
set_option maxRecDepth 100000 in
set_option maxHeartbeats 1000000 in
theorem on_yes {w0 w : World} {g cap : Nat} {b c d e f : Int} (now : Int) (h : Has w0 w g cap 6 [1, b, c, d, e, f] w)  (n0 : -2147483648 ≤ now) (n1 : now ≤ 2147483647) (s : Int) (q : Bool) (q0 : -2147483648 ≤ s) (q1 : s ≤ 2147483647) (HS : Hid ((if f = 1 then e else now) = s)) (HQ : Hid (decide (b ≤ goneV now s) = q)) (hf : Bit f) :
    Calls Tryd.prog 30 #[.agg #[.slice (some ⟨g, 0, none⟩) 6 cap, .int .i64 now]] w fun x w' => x = .returned (.tuple #[]) ∧ Has w0 w g cap 6 [1, b, bitI q, min (goneV now s) b, s, 1] w' := by
  have A0 := At.enter h now 66
  obtain ⟨c0, c1⟩ := A0.box
  clear h
  go_enter Tryd.func30, Tryd.ntmps30
  go_wp2_with fail
  refine (A0.is 0 (by omega) true (by rfl)).mono ?_
  rintro e1 w1 ⟨rfl, A1⟩
  obtain ⟨d0, d1⟩ := A1.box
  clear c0 c1 A0
  go_wp2_with fail
  refine (A1.begin_ hf).mono ?_
  rintro e2 w2 ⟨rfl, A2⟩
  obtain ⟨d0, d1⟩ := A2.box
  clear  A1
  rw [HS.out] at A2
  go_wp2_with fail
  refine start_ (n := 5) (S := fun w' => w'.cell? ⟨w.heap.size, 0, none⟩ = some (.slice (some ⟨g, 0, none⟩) 6 cap) ∧ w'.cell? ⟨w.heap.size, 1, none⟩ = some (.int .i64 now)) (ds := []) #[false, false, false, false, false] (by kernel_rfl) rfl rfl A2.drew.box (fun hHeld => ?_)
  have A3 := A2.drew
  generalize w2.drew = w3 at A3 hHeld ⊢
  clear A2 d0 d1
  refine pure_ (i := 0) (N := some 10) (v := ?_) (a' := ?_) #[true, false, false, false, false] rfl rfl (by kernel_rfl) (fun _ _ _ h => h) (Or.inl ⟨by rfl, ?_⟩) ?_ ?_
  rotate_left
  · intro w'
    go_simp
    with_reducible rfl
  rotate_left
  · simp only [Act.put, List.setIfInBounds_toArray, List.set_cons_zero, List.set_cons_succ]
    rfl
  refine take_ (i := 1) (N := some 11) (v := ?_) (a' := ?_) #[true, true, false, false, false] rfl rfl (by kernel_rfl) (fun _ _ _ h => h) (Or.inl ⟨by rfl, ?_⟩) hHeld ?_ ?_
  rotate_left
  · rintro w' ⟨z0, z1⟩
    go_simp
    with_reducible rfl
  rotate_left
  · simp only [Act.put, List.setIfInBounds_toArray, List.set_cons_zero, List.set_cons_succ]
    rfl
  refine take_ (i := 2) (N := some 12) (v := ?_) (a' := ?_) #[true, true, true, false, false] rfl rfl (by kernel_rfl) (fun _ _ _ h => h) (Or.inl ⟨by rfl, ?_⟩) hHeld ?_ ?_
  rotate_left
  · rintro w' ⟨z0, z1⟩
    go_simp
    with_reducible rfl
  rotate_left
  · simp only [Act.put, List.setIfInBounds_toArray, List.set_cons_zero, List.set_cons_succ]
    rfl
  refine one_ (i := 3) (N := some 13) #[true, true, true, true, false] rfl rfl (by kernel_rfl) (by decide) (fun K hK => ?_)
  refine goes_ Tryd.func50 (by kernel_rfl) rfl #[.agg #[.slice (some ⟨g, 0, none⟩) 6 cap, .int .i64 now]] (by rfl) rfl rfl (by first | (go_simp; done) | simp [Act.eval]) ?_
  refine (A3.count n0 n1 q0 q1).mono ?_
  rintro e4 w4 ⟨rfl, A4⟩
  rw [HQ.out]
  have hS := A4.box
  clear hHeld A3
  refine ⟨_, rfl, hK.out _ _ hS (fun hHeld => ?_)⟩
  clear hK K
  refine norm_ (a' := ?_) ?_ ?_
  rotate_left
  · show Act.put _ (some 13) _ = _
    simp only [Act.put, List.setIfInBounds_toArray, List.set_cons_zero, List.set_cons_succ]
    rfl
  refine one_ (i := 4) (N := some 14) #[true, true, true, true, true] rfl rfl (by kernel_rfl) (by decide) (fun K hK => ?_)
  refine goes_ Tryd.func35 (by kernel_rfl) rfl #[.agg #[.slice (some ⟨g, 0, none⟩) 6 cap, .int .i64 now], .int .i64 2, .bool q] (by rfl) rfl rfl (by first | (go_simp; done) | simp [Act.eval]) ?_
  refine (A4.set 2 (by omega) _).mono ?_
  rintro e5 w5 ⟨rfl, A5⟩
  have hS := A5.box
  clear hHeld A4
  refine ⟨_, rfl, hK.out _ _ hS (fun hHeld => ?_)⟩
  clear hK K
  refine norm_ (a' := ?_) ?_ ?_
  rotate_left
  · show Act.put _ (some 14) _ = _
    simp only [Act.put, List.setIfInBounds_toArray, List.set_cons_zero, List.set_cons_succ]
    rfl
  refine done_ (by kernel_rfl) ?_
  go_wp2
  go_end0
  exact ⟨rfl, A5.has⟩
  
set_option maxRecDepth 100000 in
set_option maxHeartbeats 1000000 in
theorem off_in {w0 w : World} {g cap : Nat} {b c d e f : Int} (now : Int) (h : Has w0 w g cap 6 [1, b, c, d, e, f] w)  :
    Calls Tryd.prog 31 #[.agg #[.slice (some ⟨g, 0, none⟩) 6 cap, .int .i64 now]] w fun x w' => x = .returned (.tuple #[]) ∧ Has w0 w g cap 6 [1, b, 1, 0, e, 0] w' := by
  have A0 := At.enter h now 66
  obtain ⟨c0, c1⟩ := A0.box
  clear h
  go_enter Tryd.func31, Tryd.ntmps31
  go_wp2_with fail
  refine (A0.is 0 (by omega) true (by rfl)).mono ?_
  rintro e1 w1 ⟨rfl, A1⟩
  obtain ⟨d0, d1⟩ := A1.box
  clear c0 c1 A0
  go_wp2_with fail
  refine (A1.stop true).mono ?_
  rintro e2 w2 ⟨rfl, A2⟩
  obtain ⟨d0, d1⟩ := A2.box
  clear  A1
  go_wp2
  go_end0
  exact ⟨rfl, A2.has⟩
  
set_option maxRecDepth 100000 in
set_option maxHeartbeats 1000000 in
theorem off_none {w0 w : World} {g cap : Nat} {b d e f : Int} (now : Int) (h : Has w0 w g cap 6 [0, b, 0, d, e, f] w)  :
    Calls Tryd.prog 31 #[.agg #[.slice (some ⟨g, 0, none⟩) 6 cap, .int .i64 now]] w fun x w' => x = .returned (.tuple #[]) ∧ Has w0 w g cap 6 [0, b, 0, d, e, f] w' := by
  have A0 := At.enter h now 66
  obtain ⟨c0, c1⟩ := A0.box
  clear h
  go_enter Tryd.func31, Tryd.ntmps31
  go_wp2_with fail
  refine (A0.is 0 (by omega) false (by rfl)).mono ?_
  rintro e1 w1 ⟨rfl, A1⟩
  obtain ⟨d0, d1⟩ := A1.box
  clear c0 c1 A0
  go_wp2_with fail
  refine (A1.is 2 (by omega) false (by rfl)).mono ?_
  rintro e2 w2 ⟨rfl, A2⟩
  obtain ⟨d0, d1⟩ := A2.box
  clear  A1
  go_wp2
  go_end0
  exact ⟨rfl, A2.has⟩
  
set_option maxRecDepth 100000 in
set_option maxHeartbeats 1000000 in
theorem off_out {w0 w : World} {g cap : Nat} {b d e f : Int} (now : Int) (h : Has w0 w g cap 6 [0, b, 1, d, e, f] w)  (n0 : -2147483648 ≤ now) (n1 : now ≤ 2147483647) (s : Int) (q : Bool) (q0 : -2147483648 ≤ s) (q1 : s ≤ 2147483647) (HS : Hid ((if f = 1 then e else now) = s)) (HQ : Hid (decide (b ≤ goneV now s) = q)) (hf : Bit f) :
    Calls Tryd.prog 31 #[.agg #[.slice (some ⟨g, 0, none⟩) 6 cap, .int .i64 now]] w fun x w' => x = .returned (.tuple #[]) ∧ Has w0 w g cap 6 [0, b, bitI (!q), min (goneV now s) b, s, bitI (!q)] w' := by
  have A0 := At.enter h now 66
  obtain ⟨c0, c1⟩ := A0.box
  clear h
  go_enter Tryd.func31, Tryd.ntmps31
  go_wp2_with fail
  refine (A0.is 0 (by omega) false (by rfl)).mono ?_
  rintro e1 w1 ⟨rfl, A1⟩
  obtain ⟨d0, d1⟩ := A1.box
  clear c0 c1 A0
  go_wp2_with fail
  refine (A1.is 2 (by omega) true (by rfl)).mono ?_
  rintro e2 w2 ⟨rfl, A2⟩
  obtain ⟨d0, d1⟩ := A2.box
  clear  A1
  go_wp2_with fail
  refine (A2.begin_ hf).mono ?_
  rintro e3 w3 ⟨rfl, A3⟩
  obtain ⟨d0, d1⟩ := A3.box
  clear  A2
  rw [HS.out] at A3
  go_wp2_with fail
  refine (A3.count n0 n1 q0 q1).mono ?_
  rintro e4 w4 ⟨rfl, A4⟩
  obtain ⟨d0, d1⟩ := A4.box
  clear  A3
  rw [HQ.out]
  go_wp2_with fail
  refine (A4.set 2 (by omega) (!q)).mono ?_
  rintro e5 w5 ⟨rfl, A5⟩
  obtain ⟨d0, d1⟩ := A5.box
  clear  A4
  go_wp2_with fail
  refine (A5.set 5 (by omega) (!q)).mono ?_
  rintro e6 w6 ⟨rfl, A6⟩
  obtain ⟨d0, d1⟩ := A6.box
  clear  A5
  go_wp2
  go_end0
  exact ⟨rfl, A6.has⟩
  
set_option maxRecDepth 100000 in
set_option maxHeartbeats 1000000 in
theorem pulse_0 {w0 w : World} {g cap : Nat} {b c d e : Int} (now : Int) (h : Has w0 w g cap 6 [0, b, c, d, e, 0] w)  :
    Calls Tryd.prog 32 #[.agg #[.slice (some ⟨g, 0, none⟩) 6 cap, .int .i64 now]] w fun x w' => x = .returned (.tuple #[]) ∧ Has w0 w g cap 6 [0, b, c, 0, e, 0] w' := by
  have A0 := At.enter h now 66
  obtain ⟨c0, c1⟩ := A0.box
  clear h
  go_enter Tryd.func32, Tryd.ntmps32
  go_wp2_with fail
  refine start_ (n := 13) (S := fun w' => w'.cell? ⟨w.heap.size, 0, none⟩ = some (.slice (some ⟨g, 0, none⟩) 6 cap) ∧ w'.cell? ⟨w.heap.size, 1, none⟩ = some (.int .i64 now)) (ds := [12]) #[false, false, false, false, false, false, false, false, false, false, false, false, false] (by kernel_rfl) rfl rfl A0.drew.box (fun hHeld => ?_)
  have A1 := A0.drew
  generalize (w.alloc (.cells #[.slice (some ⟨g, 0, none⟩) 6 cap, .int .i64 now] 66)).drew = w1 at A1 hHeld ⊢
  clear A0 c0 c1
  refine take_ (i := 0) (N := some 3) (v := ?_) (a' := ?_) #[true, false, false, false, false, false, false, false, false, false, false, false, false] rfl rfl (by kernel_rfl) (fun _ _ _ h => h) (Or.inl ⟨by rfl, ?_⟩) hHeld ?_ ?_
  rotate_left
  · rintro w' ⟨z0, z1⟩
    go_simp
    with_reducible rfl
  rotate_left
  · simp only [Act.put, List.setIfInBounds_toArray, List.set_cons_zero, List.set_cons_succ]
    rfl
  refine pure_ (i := 1) (N := some 4) (v := ?_) (a' := ?_) #[true, true, false, false, false, false, false, false, false, false, false, false, false] rfl rfl (by kernel_rfl) (fun _ _ _ h => h) (Or.inl ⟨by rfl, ?_⟩) ?_ ?_
  rotate_left
  · intro w'
    go_simp
    with_reducible rfl
  rotate_left
  · simp only [Act.put, List.setIfInBounds_toArray, List.set_cons_zero, List.set_cons_succ]
    rfl
  refine take_ (i := 2) (N := some 5) (v := ?_) (a' := ?_) #[true, true, true, false, false, false, false, false, false, false, false, false, false] rfl rfl (by kernel_rfl) (fun _ _ _ h => h) (Or.inl ⟨by rfl, ?_⟩) hHeld ?_ ?_
  rotate_left
  · rintro w' ⟨z0, z1⟩
    go_simp
    with_reducible rfl
  rotate_left
  · simp only [Act.put, List.setIfInBounds_toArray, List.set_cons_zero, List.set_cons_succ]
    rfl
  refine one_ (i := 3) (N := some 6) #[true, true, true, true, false, false, false, false, false, false, false, false, false] rfl rfl (by kernel_rfl) (by decide) (fun K hK => ?_)
  refine goes_ Tryd.func36 (by kernel_rfl) rfl #[.agg #[.slice (some ⟨g, 0, none⟩) 6 cap, .int .i64 now], .int .i64 0] (by rfl) rfl rfl (by first | (go_simp; done) | simp [Act.eval]) ?_
  refine (A1.is 0 (by omega) false (by rfl)).mono ?_
  rintro e2 w2 ⟨rfl, A2⟩
  have hS := A2.box
  clear hHeld A1
  refine ⟨_, rfl, hK.out _ _ hS (fun hHeld => ?_)⟩
  clear hK K
  refine norm_ (a' := ?_) ?_ ?_
  rotate_left
  · show Act.put _ (some 6) _ = _
    simp only [Act.put, List.setIfInBounds_toArray, List.set_cons_zero, List.set_cons_succ]
    rfl
  refine pure_ (i := 4) (N := some 7) (v := ?_) (a' := ?_) #[true, true, true, true, true, false, false, false, false, false, false, false, false] rfl rfl (by kernel_rfl) (fun _ _ _ h => h) (Or.inl ⟨by rfl, ?_⟩) ?_ ?_
  rotate_left
  · intro w'
    go_simp
    with_reducible rfl
  rotate_left
  · simp only [Act.put, List.setIfInBounds_toArray, List.set_cons_zero, List.set_cons_succ]
    rfl
  refine pure_ (i := 5) (N := some 8) (v := undef) (a' := ?_) #[true, true, true, true, true, true, false, false, false, false, false, false, false] rfl rfl (by kernel_rfl) (fun _ _ _ h => h) (Or.inr ⟨by rfl, rfl⟩) ?_ ?_
  rotate_left
  · simp only [Act.put, List.setIfInBounds_toArray, List.set_cons_zero, List.set_cons_succ]
    rfl
  refine pure_ (i := 6) (N := some 9) (v := undef) (a' := ?_) #[true, true, true, true, true, true, true, false, false, false, false, false, false] rfl rfl (by kernel_rfl) (fun _ _ _ h => h) (Or.inr ⟨by rfl, rfl⟩) ?_ ?_
  rotate_left
  · simp only [Act.put, List.setIfInBounds_toArray, List.set_cons_zero, List.set_cons_succ]
    rfl
  refine pure_ (i := 7) (N := some 10) (v := undef) (a' := ?_) #[true, true, true, true, true, true, true, true, false, false, false, false, false] rfl rfl (by kernel_rfl) (fun _ _ _ h => h) (Or.inr ⟨by rfl, rfl⟩) ?_ ?_
  rotate_left
  · simp only [Act.put, List.setIfInBounds_toArray, List.set_cons_zero, List.set_cons_succ]
    rfl
  refine pure_ (i := 8) (N := some 11) (v := undef) (a' := ?_) #[true, true, true, true, true, true, true, true, true, false, false, false, false] rfl rfl (by kernel_rfl) (fun _ _ _ h => h) (Or.inr ⟨by rfl, rfl⟩) ?_ ?_
  rotate_left
  · simp only [Act.put, List.setIfInBounds_toArray, List.set_cons_zero, List.set_cons_succ]
    rfl
  refine pure_ (i := 9) (N := some 12) (v := undef) (a' := ?_) #[true, true, true, true, true, true, true, true, true, true, false, false, false] rfl rfl (by kernel_rfl) (fun _ _ _ h => h) (Or.inr ⟨by rfl, rfl⟩) ?_ ?_
  rotate_left
  · simp only [Act.put, List.setIfInBounds_toArray, List.set_cons_zero, List.set_cons_succ]
    rfl
  refine pure_ (i := 10) (N := some 13) (v := undef) (a' := ?_) #[true, true, true, true, true, true, true, true, true, true, true, false, false] rfl rfl (by kernel_rfl) (fun _ _ _ h => h) (Or.inr ⟨by rfl, rfl⟩) ?_ ?_
  rotate_left
  · simp only [Act.put, List.setIfInBounds_toArray, List.set_cons_zero, List.set_cons_succ]
    rfl
  refine pure_ (i := 11) (N := some 14) (v := ?_) (a' := ?_) #[true, true, true, true, true, true, true, true, true, true, true, true, false] rfl rfl (by kernel_rfl) (fun _ _ _ h => h) (Or.inl ⟨by rfl, ?_⟩) ?_ ?_
  rotate_left
  · intro w'
    go_simp
    with_reducible rfl
  rotate_left
  · simp only [Act.put, List.setIfInBounds_toArray, List.set_cons_zero, List.set_cons_succ]
    rfl
  refine last_ (i := 12) (N := some 15) #[true, true, true, true, true, true, true, true, true, true, true, true, true] rfl rfl (by kernel_rfl) (by decide) (fun K hK => ?_)
  refine goes_ Tryd.func49 (by kernel_rfl) rfl #[.agg #[.slice (some ⟨g, 0, none⟩) 6 cap, .int .i64 now], .bool false] (by rfl) rfl rfl (by first | (go_simp; done) | simp [Act.eval]) ?_
  refine (A2.begin_no).mono ?_
  rintro e3 w3 ⟨rfl, A3⟩
  clear hHeld A2
  refine ⟨_, rfl, hK.out _ _ ?_⟩
  clear hK K
  refine norm_ (a' := ?_) ?_ ?_
  rotate_left
  · show Act.put _ (some 15) _ = _
    simp only [Act.put, List.setIfInBounds_toArray, List.set_cons_zero, List.set_cons_succ]
    rfl
  refine done_ (by kernel_rfl) ?_
  obtain ⟨d0, d1⟩ := A3.box
  go_wp2_with fail
  refine (A3.is 5 (by omega) false (by rfl)).mono ?_
  rintro e4 w4 ⟨rfl, A4⟩
  obtain ⟨d0, d1⟩ := A4.box
  clear  A3
  go_wp2_with fail
  refine (A4.is 5 (by omega) false (by rfl)).mono ?_
  rintro e5 w5 ⟨rfl, A5⟩
  obtain ⟨d0, d1⟩ := A5.box
  clear  A4
  go_wp2_with fail
  refine (A5.is 0 (by omega) false (by rfl)).mono ?_
  rintro e6 w6 ⟨rfl, A6⟩
  obtain ⟨d0, d1⟩ := A6.box
  clear  A5
  obtain ⟨x3, y3⟩ := A6.cell 3 (by omega)
  have A7 := A6.put 3 0
  go_wp2
  go_end0
  exact ⟨rfl, A7.has⟩
  
set_option maxRecDepth 100000 in
set_option maxHeartbeats 1000000 in
theorem pulse_1t {w0 w : World} {g cap : Nat} {b c d e : Int} (now : Int) (h : Has w0 w g cap 6 [0, b, c, d, e, 1] w) (n0 : -2147483648 ≤ now) (n1 : now ≤ 2147483647) (s0 : -2147483648 ≤ e) (s1 : e ≤ 2147483647) (HQ : Hid (decide (b ≤ goneV now e) = true)) :
    Calls Tryd.prog 32 #[.agg #[.slice (some ⟨g, 0, none⟩) 6 cap, .int .i64 now]] w fun x w' => x = .returned (.tuple #[]) ∧ Has w0 w g cap 6 [0, b, 0, 0, e, 0] w' := by
  have A0 := At.enter h now 66
  obtain ⟨c0, c1⟩ := A0.box
  clear h
  go_enter Tryd.func32, Tryd.ntmps32
  go_wp2_with fail
  refine start_ (n := 13) (S := fun w' => w'.cell? ⟨w.heap.size, 0, none⟩ = some (.slice (some ⟨g, 0, none⟩) 6 cap) ∧ w'.cell? ⟨w.heap.size, 1, none⟩ = some (.int .i64 now)) (ds := [12]) #[false, false, false, false, false, false, false, false, false, false, false, false, false] (by kernel_rfl) rfl rfl A0.drew.box (fun hHeld => ?_)
  have A1 := A0.drew
  generalize (w.alloc (.cells #[.slice (some ⟨g, 0, none⟩) 6 cap, .int .i64 now] 66)).drew = w1 at A1 hHeld ⊢
  clear A0 c0 c1
  refine take_ (i := 0) (N := some 3) (v := ?_) (a' := ?_) #[true, false, false, false, false, false, false, false, false, false, false, false, false] rfl rfl (by kernel_rfl) (fun _ _ _ h => h) (Or.inl ⟨by rfl, ?_⟩) hHeld ?_ ?_
  rotate_left
  · rintro w' ⟨z0, z1⟩
    go_simp
    with_reducible rfl
  rotate_left
  · simp only [Act.put, List.setIfInBounds_toArray, List.set_cons_zero, List.set_cons_succ]
    rfl
  refine pure_ (i := 1) (N := some 4) (v := ?_) (a' := ?_) #[true, true, false, false, false, false, false, false, false, false, false, false, false] rfl rfl (by kernel_rfl) (fun _ _ _ h => h) (Or.inl ⟨by rfl, ?_⟩) ?_ ?_
  rotate_left
  · intro w'
    go_simp
    with_reducible rfl
  rotate_left
  · simp only [Act.put, List.setIfInBounds_toArray, List.set_cons_zero, List.set_cons_succ]
    rfl
  refine take_ (i := 2) (N := some 5) (v := ?_) (a' := ?_) #[true, true, true, false, false, false, false, false, false, false, false, false, false] rfl rfl (by kernel_rfl) (fun _ _ _ h => h) (Or.inl ⟨by rfl, ?_⟩) hHeld ?_ ?_
  rotate_left
  · rintro w' ⟨z0, z1⟩
    go_simp
    with_reducible rfl
  rotate_left
  · simp only [Act.put, List.setIfInBounds_toArray, List.set_cons_zero, List.set_cons_succ]
    rfl
  refine one_ (i := 3) (N := some 6) #[true, true, true, true, false, false, false, false, false, false, false, false, false] rfl rfl (by kernel_rfl) (by decide) (fun K hK => ?_)
  refine goes_ Tryd.func36 (by kernel_rfl) rfl #[.agg #[.slice (some ⟨g, 0, none⟩) 6 cap, .int .i64 now], .int .i64 0] (by rfl) rfl rfl (by first | (go_simp; done) | simp [Act.eval]) ?_
  refine (A1.is 0 (by omega) false (by rfl)).mono ?_
  rintro e2 w2 ⟨rfl, A2⟩
  have hS := A2.box
  clear hHeld A1
  refine ⟨_, rfl, hK.out _ _ hS (fun hHeld => ?_)⟩
  clear hK K
  refine norm_ (a' := ?_) ?_ ?_
  rotate_left
  · show Act.put _ (some 6) _ = _
    simp only [Act.put, List.setIfInBounds_toArray, List.set_cons_zero, List.set_cons_succ]
    rfl
  refine pure_ (i := 4) (N := some 7) (v := ?_) (a' := ?_) #[true, true, true, true, true, false, false, false, false, false, false, false, false] rfl rfl (by kernel_rfl) (fun _ _ _ h => h) (Or.inl ⟨by rfl, ?_⟩) ?_ ?_
  rotate_left
  · intro w'
    go_simp
    with_reducible rfl
  rotate_left
  · simp only [Act.put, List.setIfInBounds_toArray, List.set_cons_zero, List.set_cons_succ]
    rfl
  refine pure_ (i := 5) (N := some 8) (v := undef) (a' := ?_) #[true, true, true, true, true, true, false, false, false, false, false, false, false] rfl rfl (by kernel_rfl) (fun _ _ _ h => h) (Or.inr ⟨by rfl, rfl⟩) ?_ ?_
  rotate_left
  · simp only [Act.put, List.setIfInBounds_toArray, List.set_cons_zero, List.set_cons_succ]
    rfl
  refine pure_ (i := 6) (N := some 9) (v := undef) (a' := ?_) #[true, true, true, true, true, true, true, false, false, false, false, false, false] rfl rfl (by kernel_rfl) (fun _ _ _ h => h) (Or.inr ⟨by rfl, rfl⟩) ?_ ?_
  rotate_left
  · simp only [Act.put, List.setIfInBounds_toArray, List.set_cons_zero, List.set_cons_succ]
    rfl
  refine pure_ (i := 7) (N := some 10) (v := undef) (a' := ?_) #[true, true, true, true, true, true, true, true, false, false, false, false, false] rfl rfl (by kernel_rfl) (fun _ _ _ h => h) (Or.inr ⟨by rfl, rfl⟩) ?_ ?_
  rotate_left
  · simp only [Act.put, List.setIfInBounds_toArray, List.set_cons_zero, List.set_cons_succ]
    rfl
  refine pure_ (i := 8) (N := some 11) (v := undef) (a' := ?_) #[true, true, true, true, true, true, true, true, true, false, false, false, false] rfl rfl (by kernel_rfl) (fun _ _ _ h => h) (Or.inr ⟨by rfl, rfl⟩) ?_ ?_
  rotate_left
  · simp only [Act.put, List.setIfInBounds_toArray, List.set_cons_zero, List.set_cons_succ]
    rfl
  refine pure_ (i := 9) (N := some 12) (v := undef) (a' := ?_) #[true, true, true, true, true, true, true, true, true, true, false, false, false] rfl rfl (by kernel_rfl) (fun _ _ _ h => h) (Or.inr ⟨by rfl, rfl⟩) ?_ ?_
  rotate_left
  · simp only [Act.put, List.setIfInBounds_toArray, List.set_cons_zero, List.set_cons_succ]
    rfl
  refine pure_ (i := 10) (N := some 13) (v := undef) (a' := ?_) #[true, true, true, true, true, true, true, true, true, true, true, false, false] rfl rfl (by kernel_rfl) (fun _ _ _ h => h) (Or.inr ⟨by rfl, rfl⟩) ?_ ?_
  rotate_left
  · simp only [Act.put, List.setIfInBounds_toArray, List.set_cons_zero, List.set_cons_succ]
    rfl
  refine pure_ (i := 11) (N := some 14) (v := ?_) (a' := ?_) #[true, true, true, true, true, true, true, true, true, true, true, true, false] rfl rfl (by kernel_rfl) (fun _ _ _ h => h) (Or.inl ⟨by rfl, ?_⟩) ?_ ?_
  rotate_left
  · intro w'
    go_simp
    with_reducible rfl
  rotate_left
  · simp only [Act.put, List.setIfInBounds_toArray, List.set_cons_zero, List.set_cons_succ]
    rfl
  refine last_ (i := 12) (N := some 15) #[true, true, true, true, true, true, true, true, true, true, true, true, true] rfl rfl (by kernel_rfl) (by decide) (fun K hK => ?_)
  refine goes_ Tryd.func49 (by kernel_rfl) rfl #[.agg #[.slice (some ⟨g, 0, none⟩) 6 cap, .int .i64 now], .bool false] (by rfl) rfl rfl (by first | (go_simp; done) | simp [Act.eval]) ?_
  refine (A2.begin_no).mono ?_
  rintro e3 w3 ⟨rfl, A3⟩
  clear hHeld A2
  refine ⟨_, rfl, hK.out _ _ ?_⟩
  clear hK K
  refine norm_ (a' := ?_) ?_ ?_
  rotate_left
  · show Act.put _ (some 15) _ = _
    simp only [Act.put, List.setIfInBounds_toArray, List.set_cons_zero, List.set_cons_succ]
    rfl
  refine done_ (by kernel_rfl) ?_
  obtain ⟨d0, d1⟩ := A3.box
  go_wp2_with fail
  refine (A3.is 5 (by omega) true (by rfl)).mono ?_
  rintro e4 w4 ⟨rfl, A4⟩
  obtain ⟨d0, d1⟩ := A4.box
  clear  A3
  go_wp2_with fail
  refine (A4.count n0 n1 s0 s1).mono ?_
  rintro e5 w5 ⟨rfl, A5⟩
  obtain ⟨d0, d1⟩ := A5.box
  clear  A4
  rw [HQ.out]
  go_wp2_with fail
  refine (A5.set 2 (by omega) false).mono ?_
  rintro e6 w6 ⟨rfl, A6⟩
  obtain ⟨d0, d1⟩ := A6.box
  clear  A5
  go_wp2_with fail
  refine (A6.set 5 (by omega) false).mono ?_
  rintro e7 w7 ⟨rfl, A7⟩
  obtain ⟨d0, d1⟩ := A7.box
  clear  A6
  go_wp2_with fail
  refine (A7.is 5 (by omega) false (by rfl)).mono ?_
  rintro e8 w8 ⟨rfl, A8⟩
  obtain ⟨d0, d1⟩ := A8.box
  clear  A7
  go_wp2_with fail
  refine (A8.is 0 (by omega) false (by rfl)).mono ?_
  rintro e9 w9 ⟨rfl, A9⟩
  obtain ⟨d0, d1⟩ := A9.box
  clear  A8
  obtain ⟨x3, y3⟩ := A9.cell 3 (by omega)
  have A10 := A9.put 3 0
  go_wp2
  go_end0
  exact ⟨rfl, A10.has⟩
  
set_option maxRecDepth 100000 in
set_option maxHeartbeats 1000000 in
theorem pulse_1f {w0 w : World} {g cap : Nat} {b c d e : Int} (now : Int) (h : Has w0 w g cap 6 [0, b, c, d, e, 1] w) (n0 : -2147483648 ≤ now) (n1 : now ≤ 2147483647) (s0 : -2147483648 ≤ e) (s1 : e ≤ 2147483647) (HQ : Hid (decide (b ≤ goneV now e) = false)) :
    Calls Tryd.prog 32 #[.agg #[.slice (some ⟨g, 0, none⟩) 6 cap, .int .i64 now]] w fun x w' => x = .returned (.tuple #[]) ∧ Has w0 w g cap 6 [0, b, 1, min (goneV now e) b, e, 1] w' := by
  have A0 := At.enter h now 66
  obtain ⟨c0, c1⟩ := A0.box
  clear h
  go_enter Tryd.func32, Tryd.ntmps32
  go_wp2_with fail
  refine start_ (n := 13) (S := fun w' => w'.cell? ⟨w.heap.size, 0, none⟩ = some (.slice (some ⟨g, 0, none⟩) 6 cap) ∧ w'.cell? ⟨w.heap.size, 1, none⟩ = some (.int .i64 now)) (ds := [12]) #[false, false, false, false, false, false, false, false, false, false, false, false, false] (by kernel_rfl) rfl rfl A0.drew.box (fun hHeld => ?_)
  have A1 := A0.drew
  generalize (w.alloc (.cells #[.slice (some ⟨g, 0, none⟩) 6 cap, .int .i64 now] 66)).drew = w1 at A1 hHeld ⊢
  clear A0 c0 c1
  refine take_ (i := 0) (N := some 3) (v := ?_) (a' := ?_) #[true, false, false, false, false, false, false, false, false, false, false, false, false] rfl rfl (by kernel_rfl) (fun _ _ _ h => h) (Or.inl ⟨by rfl, ?_⟩) hHeld ?_ ?_
  rotate_left
  · rintro w' ⟨z0, z1⟩
    go_simp
    with_reducible rfl
  rotate_left
  · simp only [Act.put, List.setIfInBounds_toArray, List.set_cons_zero, List.set_cons_succ]
    rfl
  refine pure_ (i := 1) (N := some 4) (v := ?_) (a' := ?_) #[true, true, false, false, false, false, false, false, false, false, false, false, false] rfl rfl (by kernel_rfl) (fun _ _ _ h => h) (Or.inl ⟨by rfl, ?_⟩) ?_ ?_
  rotate_left
  · intro w'
    go_simp
    with_reducible rfl
  rotate_left
  · simp only [Act.put, List.setIfInBounds_toArray, List.set_cons_zero, List.set_cons_succ]
    rfl
  refine take_ (i := 2) (N := some 5) (v := ?_) (a' := ?_) #[true, true, true, false, false, false, false, false, false, false, false, false, false] rfl rfl (by kernel_rfl) (fun _ _ _ h => h) (Or.inl ⟨by rfl, ?_⟩) hHeld ?_ ?_
  rotate_left
  · rintro w' ⟨z0, z1⟩
    go_simp
    with_reducible rfl
  rotate_left
  · simp only [Act.put, List.setIfInBounds_toArray, List.set_cons_zero, List.set_cons_succ]
    rfl
  refine one_ (i := 3) (N := some 6) #[true, true, true, true, false, false, false, false, false, false, false, false, false] rfl rfl (by kernel_rfl) (by decide) (fun K hK => ?_)
  refine goes_ Tryd.func36 (by kernel_rfl) rfl #[.agg #[.slice (some ⟨g, 0, none⟩) 6 cap, .int .i64 now], .int .i64 0] (by rfl) rfl rfl (by first | (go_simp; done) | simp [Act.eval]) ?_
  refine (A1.is 0 (by omega) false (by rfl)).mono ?_
  rintro e2 w2 ⟨rfl, A2⟩
  have hS := A2.box
  clear hHeld A1
  refine ⟨_, rfl, hK.out _ _ hS (fun hHeld => ?_)⟩
  clear hK K
  refine norm_ (a' := ?_) ?_ ?_
  rotate_left
  · show Act.put _ (some 6) _ = _
    simp only [Act.put, List.setIfInBounds_toArray, List.set_cons_zero, List.set_cons_succ]
    rfl
  refine pure_ (i := 4) (N := some 7) (v := ?_) (a' := ?_) #[true, true, true, true, true, false, false, false, false, false, false, false, false] rfl rfl (by kernel_rfl) (fun _ _ _ h => h) (Or.inl ⟨by rfl, ?_⟩) ?_ ?_
  rotate_left
  · intro w'
    go_simp
    with_reducible rfl
  rotate_left
  · simp only [Act.put, List.setIfInBounds_toArray, List.set_cons_zero, List.set_cons_succ]
    rfl
  refine pure_ (i := 5) (N := some 8) (v := undef) (a' := ?_) #[true, true, true, true, true, true, false, false, false, false, false, false, false] rfl rfl (by kernel_rfl) (fun _ _ _ h => h) (Or.inr ⟨by rfl, rfl⟩) ?_ ?_
  rotate_left
  · simp only [Act.put, List.setIfInBounds_toArray, List.set_cons_zero, List.set_cons_succ]
    rfl
  refine pure_ (i := 6) (N := some 9) (v := undef) (a' := ?_) #[true, true, true, true, true, true, true, false, false, false, false, false, false] rfl rfl (by kernel_rfl) (fun _ _ _ h => h) (Or.inr ⟨by rfl, rfl⟩) ?_ ?_
  rotate_left
  · simp only [Act.put, List.setIfInBounds_toArray, List.set_cons_zero, List.set_cons_succ]
    rfl
  refine pure_ (i := 7) (N := some 10) (v := undef) (a' := ?_) #[true, true, true, true, true, true, true, true, false, false, false, false, false] rfl rfl (by kernel_rfl) (fun _ _ _ h => h) (Or.inr ⟨by rfl, rfl⟩) ?_ ?_
  rotate_left
  · simp only [Act.put, List.setIfInBounds_toArray, List.set_cons_zero, List.set_cons_succ]
    rfl
  refine pure_ (i := 8) (N := some 11) (v := undef) (a' := ?_) #[true, true, true, true, true, true, true, true, true, false, false, false, false] rfl rfl (by kernel_rfl) (fun _ _ _ h => h) (Or.inr ⟨by rfl, rfl⟩) ?_ ?_
  rotate_left
  · simp only [Act.put, List.setIfInBounds_toArray, List.set_cons_zero, List.set_cons_succ]
    rfl
  refine pure_ (i := 9) (N := some 12) (v := undef) (a' := ?_) #[true, true, true, true, true, true, true, true, true, true, false, false, false] rfl rfl (by kernel_rfl) (fun _ _ _ h => h) (Or.inr ⟨by rfl, rfl⟩) ?_ ?_
  rotate_left
  · simp only [Act.put, List.setIfInBounds_toArray, List.set_cons_zero, List.set_cons_succ]
    rfl
  refine pure_ (i := 10) (N := some 13) (v := undef) (a' := ?_) #[true, true, true, true, true, true, true, true, true, true, true, false, false] rfl rfl (by kernel_rfl) (fun _ _ _ h => h) (Or.inr ⟨by rfl, rfl⟩) ?_ ?_
  rotate_left
  · simp only [Act.put, List.setIfInBounds_toArray, List.set_cons_zero, List.set_cons_succ]
    rfl
  refine pure_ (i := 11) (N := some 14) (v := ?_) (a' := ?_) #[true, true, true, true, true, true, true, true, true, true, true, true, false] rfl rfl (by kernel_rfl) (fun _ _ _ h => h) (Or.inl ⟨by rfl, ?_⟩) ?_ ?_
  rotate_left
  · intro w'
    go_simp
    with_reducible rfl
  rotate_left
  · simp only [Act.put, List.setIfInBounds_toArray, List.set_cons_zero, List.set_cons_succ]
    rfl
  refine last_ (i := 12) (N := some 15) #[true, true, true, true, true, true, true, true, true, true, true, true, true] rfl rfl (by kernel_rfl) (by decide) (fun K hK => ?_)
  refine goes_ Tryd.func49 (by kernel_rfl) rfl #[.agg #[.slice (some ⟨g, 0, none⟩) 6 cap, .int .i64 now], .bool false] (by rfl) rfl rfl (by first | (go_simp; done) | simp [Act.eval]) ?_
  refine (A2.begin_no).mono ?_
  rintro e3 w3 ⟨rfl, A3⟩
  clear hHeld A2
  refine ⟨_, rfl, hK.out _ _ ?_⟩
  clear hK K
  refine norm_ (a' := ?_) ?_ ?_
  rotate_left
  · show Act.put _ (some 15) _ = _
    simp only [Act.put, List.setIfInBounds_toArray, List.set_cons_zero, List.set_cons_succ]
    rfl
  refine done_ (by kernel_rfl) ?_
  obtain ⟨d0, d1⟩ := A3.box
  go_wp2_with fail
  refine (A3.is 5 (by omega) true (by rfl)).mono ?_
  rintro e4 w4 ⟨rfl, A4⟩
  obtain ⟨d0, d1⟩ := A4.box
  clear  A3
  go_wp2_with fail
  refine (A4.count n0 n1 s0 s1).mono ?_
  rintro e5 w5 ⟨rfl, A5⟩
  obtain ⟨d0, d1⟩ := A5.box
  clear  A4
  rw [HQ.out]
  go_wp2_with fail
  refine (A5.set 2 (by omega) true).mono ?_
  rintro e6 w6 ⟨rfl, A6⟩
  obtain ⟨d0, d1⟩ := A6.box
  clear  A5
  go_wp2_with fail
  refine (A6.set 5 (by omega) true).mono ?_
  rintro e7 w7 ⟨rfl, A7⟩
  obtain ⟨d0, d1⟩ := A7.box
  clear  A6
  go_wp2_with fail
  refine (A7.is 5 (by omega) true (by rfl)).mono ?_
  rintro e8 w8 ⟨rfl, A8⟩
  obtain ⟨d0, d1⟩ := A8.box
  clear  A7
  go_wp2
  go_end0
  exact ⟨rfl, A8.has⟩
  
set_option maxRecDepth 100000 in
set_option maxHeartbeats 1000000 in
theorem pulse_2 {w0 w : World} {g cap : Nat} {b c d e : Int} (now : Int) (h : Has w0 w g cap 6 [1, b, c, d, e, 0] w)  (hd : (d == 0) = false) :
    Calls Tryd.prog 32 #[.agg #[.slice (some ⟨g, 0, none⟩) 6 cap, .int .i64 now]] w fun x w' => x = .returned (.tuple #[]) ∧ Has w0 w g cap 6 [1, b, c, d, e, 0] w' := by
  have A0 := At.enter h now 66
  obtain ⟨c0, c1⟩ := A0.box
  clear h
  go_enter Tryd.func32, Tryd.ntmps32
  go_wp2_with fail
  refine start_ (n := 13) (S := fun w' => (w'.cell? ⟨w.heap.size, 0, none⟩ = some (.slice (some ⟨g, 0, none⟩) 6 cap) ∧ w'.cell? ⟨w.heap.size, 1, none⟩ = some (.int .i64 now)) ∧ w'.cell? ⟨g, 3, none⟩ = some (.int .i64 d)) (ds := [12]) #[false, false, false, false, false, false, false, false, false, false, false, false, false] (by kernel_rfl) rfl rfl ⟨A0.drew.box, (A0.drew.cell 3 (by omega)).1⟩ (fun hHeld => ?_)
  have A1 := A0.drew
  generalize (w.alloc (.cells #[.slice (some ⟨g, 0, none⟩) 6 cap, .int .i64 now] 66)).drew = w1 at A1 hHeld ⊢
  clear A0 c0 c1
  refine take_ (i := 0) (N := some 3) (v := ?_) (a' := ?_) #[true, false, false, false, false, false, false, false, false, false, false, false, false] rfl rfl (by kernel_rfl) (fun _ _ _ h => h) (Or.inl ⟨by rfl, ?_⟩) hHeld ?_ ?_
  rotate_left
  · rintro w' ⟨⟨z0, z1⟩, z3⟩
    go_simp
    with_reducible rfl
  rotate_left
  · simp only [Act.put, List.setIfInBounds_toArray, List.set_cons_zero, List.set_cons_succ]
    rfl
  refine pure_ (i := 1) (N := some 4) (v := ?_) (a' := ?_) #[true, true, false, false, false, false, false, false, false, false, false, false, false] rfl rfl (by kernel_rfl) (fun _ _ _ h => h) (Or.inl ⟨by rfl, ?_⟩) ?_ ?_
  rotate_left
  · intro w'
    go_simp
    with_reducible rfl
  rotate_left
  · simp only [Act.put, List.setIfInBounds_toArray, List.set_cons_zero, List.set_cons_succ]
    rfl
  refine take_ (i := 2) (N := some 5) (v := ?_) (a' := ?_) #[true, true, true, false, false, false, false, false, false, false, false, false, false] rfl rfl (by kernel_rfl) (fun _ _ _ h => h) (Or.inl ⟨by rfl, ?_⟩) hHeld ?_ ?_
  rotate_left
  · rintro w' ⟨⟨z0, z1⟩, z3⟩
    go_simp
    with_reducible rfl
  rotate_left
  · simp only [Act.put, List.setIfInBounds_toArray, List.set_cons_zero, List.set_cons_succ]
    rfl
  refine one_ (i := 3) (N := some 6) #[true, true, true, true, false, false, false, false, false, false, false, false, false] rfl rfl (by kernel_rfl) (by decide) (fun K hK => ?_)
  refine goes_ Tryd.func36 (by kernel_rfl) rfl #[.agg #[.slice (some ⟨g, 0, none⟩) 6 cap, .int .i64 now], .int .i64 0] (by rfl) rfl rfl (by first | (go_simp; done) | simp [Act.eval]) ?_
  refine (A1.is 0 (by omega) true (by rfl)).mono ?_
  rintro e2 w2 ⟨rfl, A2⟩
  have hS := And.intro A2.box (A2.cell 3 (by omega)).1
  clear hHeld A1
  refine ⟨_, rfl, hK.out _ _ hS (fun hHeld => ?_)⟩
  clear hK K
  refine norm_ (a' := ?_) ?_ ?_
  rotate_left
  · show Act.put _ (some 6) _ = _
    simp only [Act.put, List.setIfInBounds_toArray, List.set_cons_zero, List.set_cons_succ]
    rfl
  refine pure_ (i := 4) (N := some 7) (v := ?_) (a' := ?_) #[true, true, true, true, true, false, false, false, false, false, false, false, false] rfl rfl (by kernel_rfl) (fun _ _ _ h => h) (Or.inl ⟨by rfl, ?_⟩) ?_ ?_
  rotate_left
  · intro w'
    go_simp
    with_reducible rfl
  rotate_left
  · simp only [Act.put, List.setIfInBounds_toArray, List.set_cons_zero, List.set_cons_succ]
    rfl
  refine pure_ (i := 5) (N := some 8) (v := ?_) (a' := ?_) #[true, true, true, true, true, true, false, false, false, false, false, false, false] rfl rfl (by kernel_rfl) (fun _ _ _ h => h) (Or.inl ⟨by rfl, ?_⟩) ?_ ?_
  rotate_left
  · intro w'
    go_simp
    with_reducible rfl
  rotate_left
  · simp only [Act.put, List.setIfInBounds_toArray, List.set_cons_zero, List.set_cons_succ]
    rfl
  refine pure_ (i := 6) (N := some 9) (v := ?_) (a' := ?_) #[true, true, true, true, true, true, true, false, false, false, false, false, false] rfl rfl (by kernel_rfl) (fun _ _ _ h => h) (Or.inl ⟨by rfl, ?_⟩) ?_ ?_
  rotate_left
  · intro w'
    go_simp
    with_reducible rfl
  rotate_left
  · simp only [Act.put, List.setIfInBounds_toArray, List.set_cons_zero, List.set_cons_succ]
    rfl
  refine take_ (i := 7) (N := some 10) (v := ?_) (a' := ?_) #[true, true, true, true, true, true, true, true, false, false, false, false, false] rfl rfl (by kernel_rfl) (fun _ _ _ h => h) (Or.inl ⟨by rfl, ?_⟩) hHeld ?_ ?_
  rotate_left
  · rintro w' ⟨⟨z0, z1⟩, z3⟩
    go_simp
    with_reducible rfl
  rotate_left
  · simp only [Act.put, List.setIfInBounds_toArray, List.set_cons_zero, List.set_cons_succ]
    rfl
  refine pure_ (i := 8) (N := some 11) (v := ?_) (a' := ?_) #[true, true, true, true, true, true, true, true, true, false, false, false, false] rfl rfl (by kernel_rfl) (fun _ _ _ h => h) (Or.inl ⟨by rfl, ?_⟩) ?_ ?_
  rotate_left
  · intro w'
    go_simp
    with_reducible rfl
  rotate_left
  · simp only [Act.put, List.setIfInBounds_toArray, List.set_cons_zero, List.set_cons_succ]
    rfl
  refine take_ (i := 9) (N := some 12) (v := ?_) (a' := ?_) #[true, true, true, true, true, true, true, true, true, true, false, false, false] rfl rfl (by kernel_rfl) (fun _ _ _ h => h) (Or.inl ⟨by rfl, ?_⟩) hHeld ?_ ?_
  rotate_left
  · rintro w' ⟨⟨z0, z1⟩, z3⟩
    go_simp
    with_reducible rfl
  rotate_left
  · simp only [Act.put, List.setIfInBounds_toArray, List.set_cons_zero, List.set_cons_succ]
    rfl
  refine pure_ (i := 10) (N := some 13) (v := ?_) (a' := ?_) #[true, true, true, true, true, true, true, true, true, true, true, false, false] rfl rfl (by kernel_rfl) (fun _ _ _ h => h) (Or.inl ⟨by rfl, ?_⟩) ?_ ?_
  rotate_left
  · intro w'
    go_simp
    with_reducible rfl
  rotate_left
  · simp only [Act.put, List.setIfInBounds_toArray, List.set_cons_zero, List.set_cons_succ]
    rfl
  refine pure_ (i := 11) (N := some 14) (v := ?_) (a' := ?_) #[true, true, true, true, true, true, true, true, true, true, true, true, false] rfl rfl (by kernel_rfl) (fun _ _ _ h => h) (Or.inl ⟨by rfl, ?_⟩) ?_ ?_
  rotate_left
  · intro w'
    go_simp
    with_reducible rfl
  rotate_left
  · simp only [Act.put, List.setIfInBounds_toArray, List.set_cons_zero, List.set_cons_succ]
    rfl
  refine last_ (i := 12) (N := some 15) #[true, true, true, true, true, true, true, true, true, true, true, true, true] rfl rfl (by kernel_rfl) (by decide) (fun K hK => ?_)
  refine goes_ Tryd.func49 (by kernel_rfl) rfl #[.agg #[.slice (some ⟨g, 0, none⟩) 6 cap, .int .i64 now], .bool false] (by rfl) rfl rfl (by first | (go_simp; done) | simp [Act.eval]) ?_
  refine (A2.begin_no).mono ?_
  rintro e3 w3 ⟨rfl, A3⟩
  clear hHeld A2
  refine ⟨_, rfl, hK.out _ _ ?_⟩
  clear hK K
  refine norm_ (a' := ?_) ?_ ?_
  rotate_left
  · show Act.put _ (some 15) _ = _
    simp only [Act.put, List.setIfInBounds_toArray, List.set_cons_zero, List.set_cons_succ]
    rfl
  refine done_ (by kernel_rfl) ?_
  obtain ⟨d0, d1⟩ := A3.box
  go_wp2_with fail
  refine (A3.is 5 (by omega) false (by rfl)).mono ?_
  rintro e4 w4 ⟨rfl, A4⟩
  obtain ⟨d0, d1⟩ := A4.box
  clear  A3
  go_wp2_with fail
  refine (A4.is 5 (by omega) false (by rfl)).mono ?_
  rintro e5 w5 ⟨rfl, A5⟩
  obtain ⟨d0, d1⟩ := A5.box
  clear  A4
  go_wp2_with fail
  refine (A5.is 0 (by omega) true (by rfl)).mono ?_
  rintro e6 w6 ⟨rfl, A6⟩
  obtain ⟨d0, d1⟩ := A6.box
  clear  A5
  go_wp2
  go_end0
  exact ⟨rfl, A6.has⟩
  
set_option maxRecDepth 100000 in
set_option maxHeartbeats 1000000 in
theorem pulse_3t {w0 w : World} {g cap : Nat} {b c d e : Int} (now : Int) (h : Has w0 w g cap 6 [1, b, c, d, e, 1] w) (n0 : -2147483648 ≤ now) (n1 : now ≤ 2147483647) (s0 : -2147483648 ≤ e) (s1 : e ≤ 2147483647) (hd : (d == 0) = false) (HQ : Hid (decide (b ≤ goneV now e) = true)) :
    Calls Tryd.prog 32 #[.agg #[.slice (some ⟨g, 0, none⟩) 6 cap, .int .i64 now]] w fun x w' => x = .returned (.tuple #[]) ∧ Has w0 w g cap 6 [1, b, 0, min (goneV now e) b, e, 0] w' := by
  have A0 := At.enter h now 66
  obtain ⟨c0, c1⟩ := A0.box
  clear h
  go_enter Tryd.func32, Tryd.ntmps32
  go_wp2_with fail
  refine start_ (n := 13) (S := fun w' => (w'.cell? ⟨w.heap.size, 0, none⟩ = some (.slice (some ⟨g, 0, none⟩) 6 cap) ∧ w'.cell? ⟨w.heap.size, 1, none⟩ = some (.int .i64 now)) ∧ w'.cell? ⟨g, 3, none⟩ = some (.int .i64 d)) (ds := [12]) #[false, false, false, false, false, false, false, false, false, false, false, false, false] (by kernel_rfl) rfl rfl ⟨A0.drew.box, (A0.drew.cell 3 (by omega)).1⟩ (fun hHeld => ?_)
  have A1 := A0.drew
  generalize (w.alloc (.cells #[.slice (some ⟨g, 0, none⟩) 6 cap, .int .i64 now] 66)).drew = w1 at A1 hHeld ⊢
  clear A0 c0 c1
  refine take_ (i := 0) (N := some 3) (v := ?_) (a' := ?_) #[true, false, false, false, false, false, false, false, false, false, false, false, false] rfl rfl (by kernel_rfl) (fun _ _ _ h => h) (Or.inl ⟨by rfl, ?_⟩) hHeld ?_ ?_
  rotate_left
  · rintro w' ⟨⟨z0, z1⟩, z3⟩
    go_simp
    with_reducible rfl
  rotate_left
  · simp only [Act.put, List.setIfInBounds_toArray, List.set_cons_zero, List.set_cons_succ]
    rfl
  refine pure_ (i := 1) (N := some 4) (v := ?_) (a' := ?_) #[true, true, false, false, false, false, false, false, false, false, false, false, false] rfl rfl (by kernel_rfl) (fun _ _ _ h => h) (Or.inl ⟨by rfl, ?_⟩) ?_ ?_
  rotate_left
  · intro w'
    go_simp
    with_reducible rfl
  rotate_left
  · simp only [Act.put, List.setIfInBounds_toArray, List.set_cons_zero, List.set_cons_succ]
    rfl
  refine take_ (i := 2) (N := some 5) (v := ?_) (a' := ?_) #[true, true, true, false, false, false, false, false, false, false, false, false, false] rfl rfl (by kernel_rfl) (fun _ _ _ h => h) (Or.inl ⟨by rfl, ?_⟩) hHeld ?_ ?_
  rotate_left
  · rintro w' ⟨⟨z0, z1⟩, z3⟩
    go_simp
    with_reducible rfl
  rotate_left
  · simp only [Act.put, List.setIfInBounds_toArray, List.set_cons_zero, List.set_cons_succ]
    rfl
  refine one_ (i := 3) (N := some 6) #[true, true, true, true, false, false, false, false, false, false, false, false, false] rfl rfl (by kernel_rfl) (by decide) (fun K hK => ?_)
  refine goes_ Tryd.func36 (by kernel_rfl) rfl #[.agg #[.slice (some ⟨g, 0, none⟩) 6 cap, .int .i64 now], .int .i64 0] (by rfl) rfl rfl (by first | (go_simp; done) | simp [Act.eval]) ?_
  refine (A1.is 0 (by omega) true (by rfl)).mono ?_
  rintro e2 w2 ⟨rfl, A2⟩
  have hS := And.intro A2.box (A2.cell 3 (by omega)).1
  clear hHeld A1
  refine ⟨_, rfl, hK.out _ _ hS (fun hHeld => ?_)⟩
  clear hK K
  refine norm_ (a' := ?_) ?_ ?_
  rotate_left
  · show Act.put _ (some 6) _ = _
    simp only [Act.put, List.setIfInBounds_toArray, List.set_cons_zero, List.set_cons_succ]
    rfl
  refine pure_ (i := 4) (N := some 7) (v := ?_) (a' := ?_) #[true, true, true, true, true, false, false, false, false, false, false, false, false] rfl rfl (by kernel_rfl) (fun _ _ _ h => h) (Or.inl ⟨by rfl, ?_⟩) ?_ ?_
  rotate_left
  · intro w'
    go_simp
    with_reducible rfl
  rotate_left
  · simp only [Act.put, List.setIfInBounds_toArray, List.set_cons_zero, List.set_cons_succ]
    rfl
  refine pure_ (i := 5) (N := some 8) (v := ?_) (a' := ?_) #[true, true, true, true, true, true, false, false, false, false, false, false, false] rfl rfl (by kernel_rfl) (fun _ _ _ h => h) (Or.inl ⟨by rfl, ?_⟩) ?_ ?_
  rotate_left
  · intro w'
    go_simp
    with_reducible rfl
  rotate_left
  · simp only [Act.put, List.setIfInBounds_toArray, List.set_cons_zero, List.set_cons_succ]
    rfl
  refine pure_ (i := 6) (N := some 9) (v := ?_) (a' := ?_) #[true, true, true, true, true, true, true, false, false, false, false, false, false] rfl rfl (by kernel_rfl) (fun _ _ _ h => h) (Or.inl ⟨by rfl, ?_⟩) ?_ ?_
  rotate_left
  · intro w'
    go_simp
    with_reducible rfl
  rotate_left
  · simp only [Act.put, List.setIfInBounds_toArray, List.set_cons_zero, List.set_cons_succ]
    rfl
  refine take_ (i := 7) (N := some 10) (v := ?_) (a' := ?_) #[true, true, true, true, true, true, true, true, false, false, false, false, false] rfl rfl (by kernel_rfl) (fun _ _ _ h => h) (Or.inl ⟨by rfl, ?_⟩) hHeld ?_ ?_
  rotate_left
  · rintro w' ⟨⟨z0, z1⟩, z3⟩
    go_simp
    with_reducible rfl
  rotate_left
  · simp only [Act.put, List.setIfInBounds_toArray, List.set_cons_zero, List.set_cons_succ]
    rfl
  refine pure_ (i := 8) (N := some 11) (v := ?_) (a' := ?_) #[true, true, true, true, true, true, true, true, true, false, false, false, false] rfl rfl (by kernel_rfl) (fun _ _ _ h => h) (Or.inl ⟨by rfl, ?_⟩) ?_ ?_
  rotate_left
  · intro w'
    go_simp
    with_reducible rfl
  rotate_left
  · simp only [Act.put, List.setIfInBounds_toArray, List.set_cons_zero, List.set_cons_succ]
    rfl
  refine take_ (i := 9) (N := some 12) (v := ?_) (a' := ?_) #[true, true, true, true, true, true, true, true, true, true, false, false, false] rfl rfl (by kernel_rfl) (fun _ _ _ h => h) (Or.inl ⟨by rfl, ?_⟩) hHeld ?_ ?_
  rotate_left
  · rintro w' ⟨⟨z0, z1⟩, z3⟩
    go_simp
    with_reducible rfl
  rotate_left
  · simp only [Act.put, List.setIfInBounds_toArray, List.set_cons_zero, List.set_cons_succ]
    rfl
  refine pure_ (i := 10) (N := some 13) (v := ?_) (a' := ?_) #[true, true, true, true, true, true, true, true, true, true, true, false, false] rfl rfl (by kernel_rfl) (fun _ _ _ h => h) (Or.inl ⟨by rfl, ?_⟩) ?_ ?_
  rotate_left
  · intro w'
    go_simp
    with_reducible rfl
  rotate_left
  · simp only [Act.put, List.setIfInBounds_toArray, List.set_cons_zero, List.set_cons_succ]
    rfl
  refine pure_ (i := 11) (N := some 14) (v := ?_) (a' := ?_) #[true, true, true, true, true, true, true, true, true, true, true, true, false] rfl rfl (by kernel_rfl) (fun _ _ _ h => h) (Or.inl ⟨by rfl, ?_⟩) ?_ ?_
  rotate_left
  · intro w'
    go_simp
    with_reducible rfl
  rotate_left
  · simp only [Act.put, List.setIfInBounds_toArray, List.set_cons_zero, List.set_cons_succ]
    rfl
  refine last_ (i := 12) (N := some 15) #[true, true, true, true, true, true, true, true, true, true, true, true, true] rfl rfl (by kernel_rfl) (by decide) (fun K hK => ?_)
  refine goes_ Tryd.func49 (by kernel_rfl) rfl #[.agg #[.slice (some ⟨g, 0, none⟩) 6 cap, .int .i64 now], .bool false] (by rfl) rfl rfl (by first | (go_simp; done) | simp [Act.eval]) ?_
  refine (A2.begin_no).mono ?_
  rintro e3 w3 ⟨rfl, A3⟩
  clear hHeld A2
  refine ⟨_, rfl, hK.out _ _ ?_⟩
  clear hK K
  refine norm_ (a' := ?_) ?_ ?_
  rotate_left
  · show Act.put _ (some 15) _ = _
    simp only [Act.put, List.setIfInBounds_toArray, List.set_cons_zero, List.set_cons_succ]
    rfl
  refine done_ (by kernel_rfl) ?_
  obtain ⟨d0, d1⟩ := A3.box
  go_wp2_with fail
  refine (A3.is 5 (by omega) true (by rfl)).mono ?_
  rintro e4 w4 ⟨rfl, A4⟩
  obtain ⟨d0, d1⟩ := A4.box
  clear  A3
  go_wp2_with fail
  refine (A4.count n0 n1 s0 s1).mono ?_
  rintro e5 w5 ⟨rfl, A5⟩
  obtain ⟨d0, d1⟩ := A5.box
  clear  A4
  rw [HQ.out]
  go_wp2_with fail
  refine (A5.set 2 (by omega) false).mono ?_
  rintro e6 w6 ⟨rfl, A6⟩
  obtain ⟨d0, d1⟩ := A6.box
  clear  A5
  go_wp2_with fail
  refine (A6.set 5 (by omega) false).mono ?_
  rintro e7 w7 ⟨rfl, A7⟩
  obtain ⟨d0, d1⟩ := A7.box
  clear  A6
  go_wp2_with fail
  refine (A7.is 5 (by omega) false (by rfl)).mono ?_
  rintro e8 w8 ⟨rfl, A8⟩
  obtain ⟨d0, d1⟩ := A8.box
  clear  A7
  go_wp2_with fail
  refine (A8.is 0 (by omega) true (by rfl)).mono ?_
  rintro e9 w9 ⟨rfl, A9⟩
  obtain ⟨d0, d1⟩ := A9.box
  clear  A8
  go_wp2
  go_end0
  exact ⟨rfl, A9.has⟩
  
set_option maxRecDepth 100000 in
set_option maxHeartbeats 1000000 in
theorem pulse_3f {w0 w : World} {g cap : Nat} {b c d e : Int} (now : Int) (h : Has w0 w g cap 6 [1, b, c, d, e, 1] w) (n0 : -2147483648 ≤ now) (n1 : now ≤ 2147483647) (s0 : -2147483648 ≤ e) (s1 : e ≤ 2147483647) (hd : (d == 0) = false) (HQ : Hid (decide (b ≤ goneV now e) = false)) :
    Calls Tryd.prog 32 #[.agg #[.slice (some ⟨g, 0, none⟩) 6 cap, .int .i64 now]] w fun x w' => x = .returned (.tuple #[]) ∧ Has w0 w g cap 6 [1, b, 1, min (goneV now e) b, e, 1] w' := by
  have A0 := At.enter h now 66
  obtain ⟨c0, c1⟩ := A0.box
  clear h
  go_enter Tryd.func32, Tryd.ntmps32
  go_wp2_with fail
  refine start_ (n := 13) (S := fun w' => (w'.cell? ⟨w.heap.size, 0, none⟩ = some (.slice (some ⟨g, 0, none⟩) 6 cap) ∧ w'.cell? ⟨w.heap.size, 1, none⟩ = some (.int .i64 now)) ∧ w'.cell? ⟨g, 3, none⟩ = some (.int .i64 d)) (ds := [12]) #[false, false, false, false, false, false, false, false, false, false, false, false, false] (by kernel_rfl) rfl rfl ⟨A0.drew.box, (A0.drew.cell 3 (by omega)).1⟩ (fun hHeld => ?_)
  have A1 := A0.drew
  generalize (w.alloc (.cells #[.slice (some ⟨g, 0, none⟩) 6 cap, .int .i64 now] 66)).drew = w1 at A1 hHeld ⊢
  clear A0 c0 c1
  refine take_ (i := 0) (N := some 3) (v := ?_) (a' := ?_) #[true, false, false, false, false, false, false, false, false, false, false, false, false] rfl rfl (by kernel_rfl) (fun _ _ _ h => h) (Or.inl ⟨by rfl, ?_⟩) hHeld ?_ ?_
  rotate_left
  · rintro w' ⟨⟨z0, z1⟩, z3⟩
    go_simp
    with_reducible rfl
  rotate_left
  · simp only [Act.put, List.setIfInBounds_toArray, List.set_cons_zero, List.set_cons_succ]
    rfl
  refine pure_ (i := 1) (N := some 4) (v := ?_) (a' := ?_) #[true, true, false, false, false, false, false, false, false, false, false, false, false] rfl rfl (by kernel_rfl) (fun _ _ _ h => h) (Or.inl ⟨by rfl, ?_⟩) ?_ ?_
  rotate_left
  · intro w'
    go_simp
    with_reducible rfl
  rotate_left
  · simp only [Act.put, List.setIfInBounds_toArray, List.set_cons_zero, List.set_cons_succ]
    rfl
  refine take_ (i := 2) (N := some 5) (v := ?_) (a' := ?_) #[true, true, true, false, false, false, false, false, false, false, false, false, false] rfl rfl (by kernel_rfl) (fun _ _ _ h => h) (Or.inl ⟨by rfl, ?_⟩) hHeld ?_ ?_
  rotate_left
  · rintro w' ⟨⟨z0, z1⟩, z3⟩
    go_simp
    with_reducible rfl
  rotate_left
  · simp only [Act.put, List.setIfInBounds_toArray, List.set_cons_zero, List.set_cons_succ]
    rfl
  refine one_ (i := 3) (N := some 6) #[true, true, true, true, false, false, false, false, false, false, false, false, false] rfl rfl (by kernel_rfl) (by decide) (fun K hK => ?_)
  refine goes_ Tryd.func36 (by kernel_rfl) rfl #[.agg #[.slice (some ⟨g, 0, none⟩) 6 cap, .int .i64 now], .int .i64 0] (by rfl) rfl rfl (by first | (go_simp; done) | simp [Act.eval]) ?_
  refine (A1.is 0 (by omega) true (by rfl)).mono ?_
  rintro e2 w2 ⟨rfl, A2⟩
  have hS := And.intro A2.box (A2.cell 3 (by omega)).1
  clear hHeld A1
  refine ⟨_, rfl, hK.out _ _ hS (fun hHeld => ?_)⟩
  clear hK K
  refine norm_ (a' := ?_) ?_ ?_
  rotate_left
  · show Act.put _ (some 6) _ = _
    simp only [Act.put, List.setIfInBounds_toArray, List.set_cons_zero, List.set_cons_succ]
    rfl
  refine pure_ (i := 4) (N := some 7) (v := ?_) (a' := ?_) #[true, true, true, true, true, false, false, false, false, false, false, false, false] rfl rfl (by kernel_rfl) (fun _ _ _ h => h) (Or.inl ⟨by rfl, ?_⟩) ?_ ?_
  rotate_left
  · intro w'
    go_simp
    with_reducible rfl
  rotate_left
  · simp only [Act.put, List.setIfInBounds_toArray, List.set_cons_zero, List.set_cons_succ]
    rfl
  refine pure_ (i := 5) (N := some 8) (v := ?_) (a' := ?_) #[true, true, true, true, true, true, false, false, false, false, false, false, false] rfl rfl (by kernel_rfl) (fun _ _ _ h => h) (Or.inl ⟨by rfl, ?_⟩) ?_ ?_
  rotate_left
  · intro w'
    go_simp
    with_reducible rfl
  rotate_left
  · simp only [Act.put, List.setIfInBounds_toArray, List.set_cons_zero, List.set_cons_succ]
    rfl
  refine pure_ (i := 6) (N := some 9) (v := ?_) (a' := ?_) #[true, true, true, true, true, true, true, false, false, false, false, false, false] rfl rfl (by kernel_rfl) (fun _ _ _ h => h) (Or.inl ⟨by rfl, ?_⟩) ?_ ?_
  rotate_left
  · intro w'
    go_simp
    with_reducible rfl
  rotate_left
  · simp only [Act.put, List.setIfInBounds_toArray, List.set_cons_zero, List.set_cons_succ]
    rfl
  refine take_ (i := 7) (N := some 10) (v := ?_) (a' := ?_) #[true, true, true, true, true, true, true, true, false, false, false, false, false] rfl rfl (by kernel_rfl) (fun _ _ _ h => h) (Or.inl ⟨by rfl, ?_⟩) hHeld ?_ ?_
  rotate_left
  · rintro w' ⟨⟨z0, z1⟩, z3⟩
    go_simp
    with_reducible rfl
  rotate_left
  · simp only [Act.put, List.setIfInBounds_toArray, List.set_cons_zero, List.set_cons_succ]
    rfl
  refine pure_ (i := 8) (N := some 11) (v := ?_) (a' := ?_) #[true, true, true, true, true, true, true, true, true, false, false, false, false] rfl rfl (by kernel_rfl) (fun _ _ _ h => h) (Or.inl ⟨by rfl, ?_⟩) ?_ ?_
  rotate_left
  · intro w'
    go_simp
    with_reducible rfl
  rotate_left
  · simp only [Act.put, List.setIfInBounds_toArray, List.set_cons_zero, List.set_cons_succ]
    rfl
  refine take_ (i := 9) (N := some 12) (v := ?_) (a' := ?_) #[true, true, true, true, true, true, true, true, true, true, false, false, false] rfl rfl (by kernel_rfl) (fun _ _ _ h => h) (Or.inl ⟨by rfl, ?_⟩) hHeld ?_ ?_
  rotate_left
  · rintro w' ⟨⟨z0, z1⟩, z3⟩
    go_simp
    with_reducible rfl
  rotate_left
  · simp only [Act.put, List.setIfInBounds_toArray, List.set_cons_zero, List.set_cons_succ]
    rfl
  refine pure_ (i := 10) (N := some 13) (v := ?_) (a' := ?_) #[true, true, true, true, true, true, true, true, true, true, true, false, false] rfl rfl (by kernel_rfl) (fun _ _ _ h => h) (Or.inl ⟨by rfl, ?_⟩) ?_ ?_
  rotate_left
  · intro w'
    go_simp
    with_reducible rfl
  rotate_left
  · simp only [Act.put, List.setIfInBounds_toArray, List.set_cons_zero, List.set_cons_succ]
    rfl
  refine pure_ (i := 11) (N := some 14) (v := ?_) (a' := ?_) #[true, true, true, true, true, true, true, true, true, true, true, true, false] rfl rfl (by kernel_rfl) (fun _ _ _ h => h) (Or.inl ⟨by rfl, ?_⟩) ?_ ?_
  rotate_left
  · intro w'
    go_simp
    with_reducible rfl
  rotate_left
  · simp only [Act.put, List.setIfInBounds_toArray, List.set_cons_zero, List.set_cons_succ]
    rfl
  refine last_ (i := 12) (N := some 15) #[true, true, true, true, true, true, true, true, true, true, true, true, true] rfl rfl (by kernel_rfl) (by decide) (fun K hK => ?_)
  refine goes_ Tryd.func49 (by kernel_rfl) rfl #[.agg #[.slice (some ⟨g, 0, none⟩) 6 cap, .int .i64 now], .bool false] (by rfl) rfl rfl (by first | (go_simp; done) | simp [Act.eval]) ?_
  refine (A2.begin_no).mono ?_
  rintro e3 w3 ⟨rfl, A3⟩
  clear hHeld A2
  refine ⟨_, rfl, hK.out _ _ ?_⟩
  clear hK K
  refine norm_ (a' := ?_) ?_ ?_
  rotate_left
  · show Act.put _ (some 15) _ = _
    simp only [Act.put, List.setIfInBounds_toArray, List.set_cons_zero, List.set_cons_succ]
    rfl
  refine done_ (by kernel_rfl) ?_
  obtain ⟨d0, d1⟩ := A3.box
  go_wp2_with fail
  refine (A3.is 5 (by omega) true (by rfl)).mono ?_
  rintro e4 w4 ⟨rfl, A4⟩
  obtain ⟨d0, d1⟩ := A4.box
  clear  A3
  go_wp2_with fail
  refine (A4.count n0 n1 s0 s1).mono ?_
  rintro e5 w5 ⟨rfl, A5⟩
  obtain ⟨d0, d1⟩ := A5.box
  clear  A4
  rw [HQ.out]
  go_wp2_with fail
  refine (A5.set 2 (by omega) true).mono ?_
  rintro e6 w6 ⟨rfl, A6⟩
  obtain ⟨d0, d1⟩ := A6.box
  clear  A5
  go_wp2_with fail
  refine (A6.set 5 (by omega) true).mono ?_
  rintro e7 w7 ⟨rfl, A7⟩
  obtain ⟨d0, d1⟩ := A7.box
  clear  A6
  go_wp2_with fail
  refine (A7.is 5 (by omega) true (by rfl)).mono ?_
  rintro e8 w8 ⟨rfl, A8⟩
  obtain ⟨d0, d1⟩ := A8.box
  clear  A7
  go_wp2
  go_end0
  exact ⟨rfl, A8.has⟩
  
set_option maxRecDepth 100000 in
set_option maxHeartbeats 1000000 in
theorem pulse_4t {w0 w : World} {g cap : Nat} {b c e f : Int} (now : Int) (h : Has w0 w g cap 6 [1, b, c, 0, e, f] w)  (n0 : -2147483648 ≤ now) (n1 : now ≤ 2147483647) (s : Int) (q0 : -2147483648 ≤ s) (q1 : s ≤ 2147483647) (HS : Hid ((if f = 1 then e else now) = s)) (hf : Bit f) (HQ : Hid (decide (b ≤ goneV now s) = true)) :
    Calls Tryd.prog 32 #[.agg #[.slice (some ⟨g, 0, none⟩) 6 cap, .int .i64 now]] w fun x w' => x = .returned (.tuple #[]) ∧ Has w0 w g cap 6 [1, b, 0, min (goneV now s) b, s, 0] w' := by
  have A0 := At.enter h now 66
  obtain ⟨c0, c1⟩ := A0.box
  clear h
  go_enter Tryd.func32, Tryd.ntmps32
  go_wp2_with fail
  refine start_ (n := 13) (S := fun w' => (w'.cell? ⟨w.heap.size, 0, none⟩ = some (.slice (some ⟨g, 0, none⟩) 6 cap) ∧ w'.cell? ⟨w.heap.size, 1, none⟩ = some (.int .i64 now)) ∧ w'.cell? ⟨g, 3, none⟩ = some (.int .i64 0)) (ds := [12]) #[false, false, false, false, false, false, false, false, false, false, false, false, false] (by kernel_rfl) rfl rfl ⟨A0.drew.box, (A0.drew.cell 3 (by omega)).1⟩ (fun hHeld => ?_)
  have A1 := A0.drew
  generalize (w.alloc (.cells #[.slice (some ⟨g, 0, none⟩) 6 cap, .int .i64 now] 66)).drew = w1 at A1 hHeld ⊢
  clear A0 c0 c1
  refine take_ (i := 0) (N := some 3) (v := ?_) (a' := ?_) #[true, false, false, false, false, false, false, false, false, false, false, false, false] rfl rfl (by kernel_rfl) (fun _ _ _ h => h) (Or.inl ⟨by rfl, ?_⟩) hHeld ?_ ?_
  rotate_left
  · rintro w' ⟨⟨z0, z1⟩, z3⟩
    go_simp
    with_reducible rfl
  rotate_left
  · simp only [Act.put, List.setIfInBounds_toArray, List.set_cons_zero, List.set_cons_succ]
    rfl
  refine pure_ (i := 1) (N := some 4) (v := ?_) (a' := ?_) #[true, true, false, false, false, false, false, false, false, false, false, false, false] rfl rfl (by kernel_rfl) (fun _ _ _ h => h) (Or.inl ⟨by rfl, ?_⟩) ?_ ?_
  rotate_left
  · intro w'
    go_simp
    with_reducible rfl
  rotate_left
  · simp only [Act.put, List.setIfInBounds_toArray, List.set_cons_zero, List.set_cons_succ]
    rfl
  refine take_ (i := 2) (N := some 5) (v := ?_) (a' := ?_) #[true, true, true, false, false, false, false, false, false, false, false, false, false] rfl rfl (by kernel_rfl) (fun _ _ _ h => h) (Or.inl ⟨by rfl, ?_⟩) hHeld ?_ ?_
  rotate_left
  · rintro w' ⟨⟨z0, z1⟩, z3⟩
    go_simp
    with_reducible rfl
  rotate_left
  · simp only [Act.put, List.setIfInBounds_toArray, List.set_cons_zero, List.set_cons_succ]
    rfl
  refine one_ (i := 3) (N := some 6) #[true, true, true, true, false, false, false, false, false, false, false, false, false] rfl rfl (by kernel_rfl) (by decide) (fun K hK => ?_)
  refine goes_ Tryd.func36 (by kernel_rfl) rfl #[.agg #[.slice (some ⟨g, 0, none⟩) 6 cap, .int .i64 now], .int .i64 0] (by rfl) rfl rfl (by first | (go_simp; done) | simp [Act.eval]) ?_
  refine (A1.is 0 (by omega) true (by rfl)).mono ?_
  rintro e2 w2 ⟨rfl, A2⟩
  have hS := And.intro A2.box (A2.cell 3 (by omega)).1
  clear hHeld A1
  refine ⟨_, rfl, hK.out _ _ hS (fun hHeld => ?_)⟩
  clear hK K
  refine norm_ (a' := ?_) ?_ ?_
  rotate_left
  · show Act.put _ (some 6) _ = _
    simp only [Act.put, List.setIfInBounds_toArray, List.set_cons_zero, List.set_cons_succ]
    rfl
  refine pure_ (i := 4) (N := some 7) (v := ?_) (a' := ?_) #[true, true, true, true, true, false, false, false, false, false, false, false, false] rfl rfl (by kernel_rfl) (fun _ _ _ h => h) (Or.inl ⟨by rfl, ?_⟩) ?_ ?_
  rotate_left
  · intro w'
    go_simp
    with_reducible rfl
  rotate_left
  · simp only [Act.put, List.setIfInBounds_toArray, List.set_cons_zero, List.set_cons_succ]
    rfl
  refine pure_ (i := 5) (N := some 8) (v := ?_) (a' := ?_) #[true, true, true, true, true, true, false, false, false, false, false, false, false] rfl rfl (by kernel_rfl) (fun _ _ _ h => h) (Or.inl ⟨by rfl, ?_⟩) ?_ ?_
  rotate_left
  · intro w'
    go_simp
    with_reducible rfl
  rotate_left
  · simp only [Act.put, List.setIfInBounds_toArray, List.set_cons_zero, List.set_cons_succ]
    rfl
  refine pure_ (i := 6) (N := some 9) (v := ?_) (a' := ?_) #[true, true, true, true, true, true, true, false, false, false, false, false, false] rfl rfl (by kernel_rfl) (fun _ _ _ h => h) (Or.inl ⟨by rfl, ?_⟩) ?_ ?_
  rotate_left
  · intro w'
    go_simp
    with_reducible rfl
  rotate_left
  · simp only [Act.put, List.setIfInBounds_toArray, List.set_cons_zero, List.set_cons_succ]
    rfl
  refine take_ (i := 7) (N := some 10) (v := ?_) (a' := ?_) #[true, true, true, true, true, true, true, true, false, false, false, false, false] rfl rfl (by kernel_rfl) (fun _ _ _ h => h) (Or.inl ⟨by rfl, ?_⟩) hHeld ?_ ?_
  rotate_left
  · rintro w' ⟨⟨z0, z1⟩, z3⟩
    go_simp
    with_reducible rfl
  rotate_left
  · simp only [Act.put, List.setIfInBounds_toArray, List.set_cons_zero, List.set_cons_succ]
    rfl
  refine pure_ (i := 8) (N := some 11) (v := ?_) (a' := ?_) #[true, true, true, true, true, true, true, true, true, false, false, false, false] rfl rfl (by kernel_rfl) (fun _ _ _ h => h) (Or.inl ⟨by rfl, ?_⟩) ?_ ?_
  rotate_left
  · intro w'
    go_simp
    with_reducible rfl
  rotate_left
  · simp only [Act.put, List.setIfInBounds_toArray, List.set_cons_zero, List.set_cons_succ]
    rfl
  refine take_ (i := 9) (N := some 12) (v := ?_) (a' := ?_) #[true, true, true, true, true, true, true, true, true, true, false, false, false] rfl rfl (by kernel_rfl) (fun _ _ _ h => h) (Or.inl ⟨by rfl, ?_⟩) hHeld ?_ ?_
  rotate_left
  · rintro w' ⟨⟨z0, z1⟩, z3⟩
    go_simp
    with_reducible rfl
  rotate_left
  · simp only [Act.put, List.setIfInBounds_toArray, List.set_cons_zero, List.set_cons_succ]
    rfl
  refine pure_ (i := 10) (N := some 13) (v := ?_) (a' := ?_) #[true, true, true, true, true, true, true, true, true, true, true, false, false] rfl rfl (by kernel_rfl) (fun _ _ _ h => h) (Or.inl ⟨by rfl, ?_⟩) ?_ ?_
  rotate_left
  · intro w'
    go_simp
    with_reducible rfl
  rotate_left
  · simp only [Act.put, List.setIfInBounds_toArray, List.set_cons_zero, List.set_cons_succ]
    rfl
  refine pure_ (i := 11) (N := some 14) (v := ?_) (a' := ?_) #[true, true, true, true, true, true, true, true, true, true, true, true, false] rfl rfl (by kernel_rfl) (fun _ _ _ h => h) (Or.inl ⟨by rfl, ?_⟩) ?_ ?_
  rotate_left
  · intro w'
    go_simp
    with_reducible rfl
  rotate_left
  · simp only [Act.put, List.setIfInBounds_toArray, List.set_cons_zero, List.set_cons_succ]
    rfl
  refine last_ (i := 12) (N := some 15) #[true, true, true, true, true, true, true, true, true, true, true, true, true] rfl rfl (by kernel_rfl) (by decide) (fun K hK => ?_)
  refine goes_ Tryd.func49 (by kernel_rfl) rfl #[.agg #[.slice (some ⟨g, 0, none⟩) 6 cap, .int .i64 now], .bool true] (by rfl) rfl rfl (by first | (go_simp; done) | simp [Act.eval]) ?_
  refine (A2.begin_ hf).mono ?_
  rintro e3 w3 ⟨rfl, A3⟩
  clear hHeld A2
  refine ⟨_, rfl, hK.out _ _ ?_⟩
  clear hK K
  refine norm_ (a' := ?_) ?_ ?_
  rotate_left
  · show Act.put _ (some 15) _ = _
    simp only [Act.put, List.setIfInBounds_toArray, List.set_cons_zero, List.set_cons_succ]
    rfl
  refine done_ (by kernel_rfl) ?_
  obtain ⟨d0, d1⟩ := A3.box
  rw [HS.out] at A3
  go_wp2_with fail
  refine (A3.is 5 (by omega) true (by rfl)).mono ?_
  rintro e4 w4 ⟨rfl, A4⟩
  obtain ⟨d0, d1⟩ := A4.box
  clear  A3
  go_wp2_with fail
  refine (A4.count n0 n1 q0 q1).mono ?_
  rintro e5 w5 ⟨rfl, A5⟩
  obtain ⟨d0, d1⟩ := A5.box
  clear  A4
  rw [HQ.out]
  go_wp2_with fail
  refine (A5.set 2 (by omega) false).mono ?_
  rintro e6 w6 ⟨rfl, A6⟩
  obtain ⟨d0, d1⟩ := A6.box
  clear  A5
  go_wp2_with fail
  refine (A6.set 5 (by omega) false).mono ?_
  rintro e7 w7 ⟨rfl, A7⟩
  obtain ⟨d0, d1⟩ := A7.box
  clear  A6
  go_wp2_with fail
  refine (A7.is 5 (by omega) false (by rfl)).mono ?_
  rintro e8 w8 ⟨rfl, A8⟩
  obtain ⟨d0, d1⟩ := A8.box
  clear  A7
  go_wp2_with fail
  refine (A8.is 0 (by omega) true (by rfl)).mono ?_
  rintro e9 w9 ⟨rfl, A9⟩
  obtain ⟨d0, d1⟩ := A9.box
  clear  A8
  go_wp2
  go_end0
  exact ⟨rfl, A9.has⟩
  
set_option maxRecDepth 100000 in
set_option maxHeartbeats 1000000 in
theorem pulse_4f {w0 w : World} {g cap : Nat} {b c e f : Int} (now : Int) (h : Has w0 w g cap 6 [1, b, c, 0, e, f] w)  (n0 : -2147483648 ≤ now) (n1 : now ≤ 2147483647) (s : Int) (q0 : -2147483648 ≤ s) (q1 : s ≤ 2147483647) (HS : Hid ((if f = 1 then e else now) = s)) (hf : Bit f) (HQ : Hid (decide (b ≤ goneV now s) = false)) :
    Calls Tryd.prog 32 #[.agg #[.slice (some ⟨g, 0, none⟩) 6 cap, .int .i64 now]] w fun x w' => x = .returned (.tuple #[]) ∧ Has w0 w g cap 6 [1, b, 1, min (goneV now s) b, s, 1] w' := by
  have A0 := At.enter h now 66
  obtain ⟨c0, c1⟩ := A0.box
  clear h
  go_enter Tryd.func32, Tryd.ntmps32
  go_wp2_with fail
  refine start_ (n := 13) (S := fun w' => (w'.cell? ⟨w.heap.size, 0, none⟩ = some (.slice (some ⟨g, 0, none⟩) 6 cap) ∧ w'.cell? ⟨w.heap.size, 1, none⟩ = some (.int .i64 now)) ∧ w'.cell? ⟨g, 3, none⟩ = some (.int .i64 0)) (ds := [12]) #[false, false, false, false, false, false, false, false, false, false, false, false, false] (by kernel_rfl) rfl rfl ⟨A0.drew.box, (A0.drew.cell 3 (by omega)).1⟩ (fun hHeld => ?_)
  have A1 := A0.drew
  generalize (w.alloc (.cells #[.slice (some ⟨g, 0, none⟩) 6 cap, .int .i64 now] 66)).drew = w1 at A1 hHeld ⊢
  clear A0 c0 c1
  refine take_ (i := 0) (N := some 3) (v := ?_) (a' := ?_) #[true, false, false, false, false, false, false, false, false, false, false, false, false] rfl rfl (by kernel_rfl) (fun _ _ _ h => h) (Or.inl ⟨by rfl, ?_⟩) hHeld ?_ ?_
  rotate_left
  · rintro w' ⟨⟨z0, z1⟩, z3⟩
    go_simp
    with_reducible rfl
  rotate_left
  · simp only [Act.put, List.setIfInBounds_toArray, List.set_cons_zero, List.set_cons_succ]
    rfl
  refine pure_ (i := 1) (N := some 4) (v := ?_) (a' := ?_) #[true, true, false, false, false, false, false, false, false, false, false, false, false] rfl rfl (by kernel_rfl) (fun _ _ _ h => h) (Or.inl ⟨by rfl, ?_⟩) ?_ ?_
  rotate_left
  · intro w'
    go_simp
    with_reducible rfl
  rotate_left
  · simp only [Act.put, List.setIfInBounds_toArray, List.set_cons_zero, List.set_cons_succ]
    rfl
  refine take_ (i := 2) (N := some 5) (v := ?_) (a' := ?_) #[true, true, true, false, false, false, false, false, false, false, false, false, false] rfl rfl (by kernel_rfl) (fun _ _ _ h => h) (Or.inl ⟨by rfl, ?_⟩) hHeld ?_ ?_
  rotate_left
  · rintro w' ⟨⟨z0, z1⟩, z3⟩
    go_simp
    with_reducible rfl
  rotate_left
  · simp only [Act.put, List.setIfInBounds_toArray, List.set_cons_zero, List.set_cons_succ]
    rfl
  refine one_ (i := 3) (N := some 6) #[true, true, true, true, false, false, false, false, false, false, false, false, false] rfl rfl (by kernel_rfl) (by decide) (fun K hK => ?_)
  refine goes_ Tryd.func36 (by kernel_rfl) rfl #[.agg #[.slice (some ⟨g, 0, none⟩) 6 cap, .int .i64 now], .int .i64 0] (by rfl) rfl rfl (by first | (go_simp; done) | simp [Act.eval]) ?_
  refine (A1.is 0 (by omega) true (by rfl)).mono ?_
  rintro e2 w2 ⟨rfl, A2⟩
  have hS := And.intro A2.box (A2.cell 3 (by omega)).1
  clear hHeld A1
  refine ⟨_, rfl, hK.out _ _ hS (fun hHeld => ?_)⟩
  clear hK K
  refine norm_ (a' := ?_) ?_ ?_
  rotate_left
  · show Act.put _ (some 6) _ = _
    simp only [Act.put, List.setIfInBounds_toArray, List.set_cons_zero, List.set_cons_succ]
    rfl
  refine pure_ (i := 4) (N := some 7) (v := ?_) (a' := ?_) #[true, true, true, true, true, false, false, false, false, false, false, false, false] rfl rfl (by kernel_rfl) (fun _ _ _ h => h) (Or.inl ⟨by rfl, ?_⟩) ?_ ?_
  rotate_left
  · intro w'
    go_simp
    with_reducible rfl
  rotate_left
  · simp only [Act.put, List.setIfInBounds_toArray, List.set_cons_zero, List.set_cons_succ]
    rfl
  refine pure_ (i := 5) (N := some 8) (v := ?_) (a' := ?_) #[true, true, true, true, true, true, false, false, false, false, false, false, false] rfl rfl (by kernel_rfl) (fun _ _ _ h => h) (Or.inl ⟨by rfl, ?_⟩) ?_ ?_
  rotate_left
  · intro w'
    go_simp
    with_reducible rfl
  rotate_left
  · simp only [Act.put, List.setIfInBounds_toArray, List.set_cons_zero, List.set_cons_succ]
    rfl
  refine pure_ (i := 6) (N := some 9) (v := ?_) (a' := ?_) #[true, true, true, true, true, true, true, false, false, false, false, false, false] rfl rfl (by kernel_rfl) (fun _ _ _ h => h) (Or.inl ⟨by rfl, ?_⟩) ?_ ?_
  rotate_left
  · intro w'
    go_simp
    with_reducible rfl
  rotate_left
  · simp only [Act.put, List.setIfInBounds_toArray, List.set_cons_zero, List.set_cons_succ]
    rfl
  refine take_ (i := 7) (N := some 10) (v := ?_) (a' := ?_) #[true, true, true, true, true, true, true, true, false, false, false, false, false] rfl rfl (by kernel_rfl) (fun _ _ _ h => h) (Or.inl ⟨by rfl, ?_⟩) hHeld ?_ ?_
  rotate_left
  · rintro w' ⟨⟨z0, z1⟩, z3⟩
    go_simp
    with_reducible rfl
  rotate_left
  · simp only [Act.put, List.setIfInBounds_toArray, List.set_cons_zero, List.set_cons_succ]
    rfl
  refine pure_ (i := 8) (N := some 11) (v := ?_) (a' := ?_) #[true, true, true, true, true, true, true, true, true, false, false, false, false] rfl rfl (by kernel_rfl) (fun _ _ _ h => h) (Or.inl ⟨by rfl, ?_⟩) ?_ ?_
  rotate_left
  · intro w'
    go_simp
    with_reducible rfl
  rotate_left
  · simp only [Act.put, List.setIfInBounds_toArray, List.set_cons_zero, List.set_cons_succ]
    rfl
  refine take_ (i := 9) (N := some 12) (v := ?_) (a' := ?_) #[true, true, true, true, true, true, true, true, true, true, false, false, false] rfl rfl (by kernel_rfl) (fun _ _ _ h => h) (Or.inl ⟨by rfl, ?_⟩) hHeld ?_ ?_
  rotate_left
  · rintro w' ⟨⟨z0, z1⟩, z3⟩
    go_simp
    with_reducible rfl
  rotate_left
  · simp only [Act.put, List.setIfInBounds_toArray, List.set_cons_zero, List.set_cons_succ]
    rfl
  refine pure_ (i := 10) (N := some 13) (v := ?_) (a' := ?_) #[true, true, true, true, true, true, true, true, true, true, true, false, false] rfl rfl (by kernel_rfl) (fun _ _ _ h => h) (Or.inl ⟨by rfl, ?_⟩) ?_ ?_
  rotate_left
  · intro w'
    go_simp
    with_reducible rfl
  rotate_left
  · simp only [Act.put, List.setIfInBounds_toArray, List.set_cons_zero, List.set_cons_succ]
    rfl
  refine pure_ (i := 11) (N := some 14) (v := ?_) (a' := ?_) #[true, true, true, true, true, true, true, true, true, true, true, true, false] rfl rfl (by kernel_rfl) (fun _ _ _ h => h) (Or.inl ⟨by rfl, ?_⟩) ?_ ?_
  rotate_left
  · intro w'
    go_simp
    with_reducible rfl
  rotate_left
  · simp only [Act.put, List.setIfInBounds_toArray, List.set_cons_zero, List.set_cons_succ]
    rfl
  refine last_ (i := 12) (N := some 15) #[true, true, true, true, true, true, true, true, true, true, true, true, true] rfl rfl (by kernel_rfl) (by decide) (fun K hK => ?_)
  refine goes_ Tryd.func49 (by kernel_rfl) rfl #[.agg #[.slice (some ⟨g, 0, none⟩) 6 cap, .int .i64 now], .bool true] (by rfl) rfl rfl (by first | (go_simp; done) | simp [Act.eval]) ?_
  refine (A2.begin_ hf).mono ?_
  rintro e3 w3 ⟨rfl, A3⟩
  clear hHeld A2
  refine ⟨_, rfl, hK.out _ _ ?_⟩
  clear hK K
  refine norm_ (a' := ?_) ?_ ?_
  rotate_left
  · show Act.put _ (some 15) _ = _
    simp only [Act.put, List.setIfInBounds_toArray, List.set_cons_zero, List.set_cons_succ]
    rfl
  refine done_ (by kernel_rfl) ?_
  obtain ⟨d0, d1⟩ := A3.box
  rw [HS.out] at A3
  go_wp2_with fail
  refine (A3.is 5 (by omega) true (by rfl)).mono ?_
  rintro e4 w4 ⟨rfl, A4⟩
  obtain ⟨d0, d1⟩ := A4.box
  clear  A3
  go_wp2_with fail
  refine (A4.count n0 n1 q0 q1).mono ?_
  rintro e5 w5 ⟨rfl, A5⟩
  obtain ⟨d0, d1⟩ := A5.box
  clear  A4
  rw [HQ.out]
  go_wp2_with fail
  refine (A5.set 2 (by omega) true).mono ?_
  rintro e6 w6 ⟨rfl, A6⟩
  obtain ⟨d0, d1⟩ := A6.box
  clear  A5
  go_wp2_with fail
  refine (A6.set 5 (by omega) true).mono ?_
  rintro e7 w7 ⟨rfl, A7⟩
  obtain ⟨d0, d1⟩ := A7.box
  clear  A6
  go_wp2_with fail
  refine (A7.is 5 (by omega) true (by rfl)).mono ?_
  rintro e8 w8 ⟨rfl, A8⟩
  obtain ⟨d0, d1⟩ := A8.box
  clear  A7
  go_wp2
  go_end0
  exact ⟨rfl, A8.has⟩
  
end Go.Proofs.YtefflkmegodafaaDoor.PBlockKeeps
