/-
  The walks of layer 11: Turn, known, Unit, Step, whatever the circle holds.
-/
import Derived.Test.YtefflkmegodafaaDoorBlockKeepsBlQc
namespace Go.Proofs.YtefflkmegodafaaDoor.PBlockKeeps
open Go.RowKit Go.Proofs.YtefflkmegodafaaDoorW.PrintWords Go.Proofs.YtefflkmegodafaaDoorW.PrintLast Go.Proofs.YtefflkmegodafaaDoorW.PrintMore
attribute [local go_sem] Oper.semAt_some

theorem run_ltB (t : TypeId) (x : Nat) : binOp .lss t (.float .f64 x) (.float .f64 0) = pure (.bool (ltB x)) := by simp [binOp, Op.floatCmp, ltB]
theorem run_gtB (t : TypeId) (x : Nat) : binOp .gtr t (.float .f64 x) (.float .f64 0) = pure (.bool (gtB x)) := by simp [binOp, Op.floatCmp, gtB]
theorem run_negF (P : Program) (w : World) (x : Nat) : (Op.unary .neg (.float .f64 x)).run P w = .ok (.float .f64 (Op.negFloat .f64 x)) w := by simp [Op.unary]
attribute [local go_sem high] run_ltB run_gtB run_negF
theorem wpList_mulC {P : Program} {ops : Array Oper} {rest : List Oper} {o : Oper} {a : Act} {w : World} {Q : Exit → Act → World → Prop} {N : Tmp} (hd : o.dst = some N) (hg : o.guard = none) (t rt : TypeId) (x y : Operand) (ho : o.op = .binOp .mul t x y rt) {A B C D : Nat} (hx : a.eval x = .complex .f64 A B) (hy : a.eval y = .complex .f64 C D) {l g m : Bool}
    (hm : ∀ (P : Program) (t : TypeId) (w : World), ∃ re im w', (binOp .mul t (.complex .f64 A B) (.complex .f64 C D)).run P w = .ok (.complex .f64 re im) w' ∧ Below w.heap.size w w' ∧ ltB re = l ∧ gtB im = g ∧ ltB im = m)
    (h : ∀ re im w', Below w.heap.size w w' → ltB re = l → gtB im = g → ltB im = m → wpList P ops Q rest (a.put (some N) (.complex .f64 re im)) w') : wpList P ops Q (o :: rest) a w := by
  obtain ⟨re, im, w', e, hb, h1, h2, h3⟩ := hm P t w
  refine wpList_plain hg fun K hK => ?_
  have hrun : (execOp a.eval o).run P w = .ok (.value (.complex .f64 re im)) w' := by
    unfold execOp
    simp [ho, eqGuard, hx, hy, e]
  unfold Oper.wp
  rw [hrun]
  have hk := hK _ _ (h re im w' hb h1 h2 h3)
  rw [← hd] at hk
  exact hk

set_option maxRecDepth 100000 in
theorem turn_0 (a b c d r0 i0 r1 i1 r2 i2 r3 i3 : Nat) (h1 : ∀ w, Circ r0 i0 r1 i1 r2 i2 r3 i3 w → Calls Tryd.prog 64 #[.slice (some ⟨0, 0, none⟩) 4 4, .complex .f64 a b] w fun e w' => e = .returned (.bool false) ∧ w = w') (w : World) (h : Circ r0 i0 r1 i1 r2 i2 r3 i3 w) :
    Calls Tryd.prog 59 #[.complex .f64 a b, .complex .f64 c d] w fun x w' => x = .returned (.tuple #[.int .i64 0, .int .i64 1]) ∧ Below w.heap.size w w' := by
  have H1 := Lib.hid (h1 w h)
  clear h1 h  
  go_enter Tryd.func59, Tryd.ntmps59
  go_wp2_with fail
  refine H1.out.mono ?_
  rintro e1 w1 ⟨rfl, rfl⟩
  clear H1
  go_wp2
  go_ret2
  exact ⟨rfl, Below.refl _ _⟩
set_option maxRecDepth 100000 in
theorem turn_1 (a b c d r0 i0 r1 i1 r2 i2 r3 i3 : Nat) (h1 : ∀ w, Circ r0 i0 r1 i1 r2 i2 r3 i3 w → Calls Tryd.prog 64 #[.slice (some ⟨0, 0, none⟩) 4 4, .complex .f64 a b] w fun e w' => e = .returned (.bool true) ∧ w = w') (h2 : ∀ w, Circ r0 i0 r1 i1 r2 i2 r3 i3 w → Calls Tryd.prog 64 #[.slice (some ⟨0, 0, none⟩) 4 4, .complex .f64 c d] w fun e w' => e = .returned (.bool false) ∧ w = w') (w : World) (h : Circ r0 i0 r1 i1 r2 i2 r3 i3 w) :
    Calls Tryd.prog 59 #[.complex .f64 a b, .complex .f64 c d] w fun x w' => x = .returned (.tuple #[.int .i64 0, .int .i64 1]) ∧ Below w.heap.size w w' := by
  have H1 := Lib.hid (h1 w h)
  have H2 := Lib.hid (h2 w h)
  clear h1 h h2 
  go_enter Tryd.func59, Tryd.ntmps59
  go_wp2_with fail
  refine H1.out.mono ?_
  rintro e1 w1 ⟨rfl, rfl⟩
  clear H1
  go_wp2_with fail
  refine H2.out.mono ?_
  rintro e2 w1 ⟨rfl, rfl⟩
  clear H2
  go_wp2
  go_ret2
  exact ⟨rfl, Below.refl _ _⟩
set_option maxRecDepth 100000 in
theorem turn_2 (a b c d r0 i0 r1 i1 r2 i2 r3 i3 : Nat) (g : Bool) (m : Bool) (h1 : ∀ w, Circ r0 i0 r1 i1 r2 i2 r3 i3 w → Calls Tryd.prog 64 #[.slice (some ⟨0, 0, none⟩) 4 4, .complex .f64 a b] w fun e w' => e = .returned (.bool true) ∧ w = w') (h2 : ∀ w, Circ r0 i0 r1 i1 r2 i2 r3 i3 w → Calls Tryd.prog 64 #[.slice (some ⟨0, 0, none⟩) 4 4, .complex .f64 c d] w fun e w' => e = .returned (.bool true) ∧ w = w') (hm : ∀ (P : Program) (t : TypeId) (w : World), ∃ re im w', (binOp .mul t (.complex .f64 c d) (.complex .f64 a (Op.negFloat .f64 b))).run P w = .ok (.complex .f64 re im) w' ∧ Below w.heap.size w w' ∧ ltB re = true ∧ gtB im = g ∧ ltB im = m) (w : World) (h : Circ r0 i0 r1 i1 r2 i2 r3 i3 w) :
    Calls Tryd.prog 59 #[.complex .f64 a b, .complex .f64 c d] w fun x w' => x = .returned (.tuple #[.int .i64 0, .int .i64 110]) ∧ Below w.heap.size w w' := by
  have H1 := Lib.hid (h1 w h)
  have H2 := Lib.hid (h2 w h)
  have HM := Lib.hid hm
  clear h1 h h2 hm
  go_enter Tryd.func59, Tryd.ntmps59
  go_wp2_with fail
  refine H1.out.mono ?_
  rintro e1 w1 ⟨rfl, rfl⟩
  clear H1
  go_wp2_with fail
  refine H2.out.mono ?_
  rintro e2 w1 ⟨rfl, rfl⟩
  clear H2
  go_wp2_with ((with_reducible refine gate_dst (N := 24) rfl ?_); refine wpList_mulC (N := 24) rfl rfl _ _ _ _ rfl rfl rfl HM.out ?_; intro re im w1 hb f1 f2 f3; have HB := Lib.hid hb; clear hb HM)
  go_ret2
  exact ⟨rfl, HB.out⟩
set_option maxRecDepth 100000 in
theorem turn_3 (a b c d r0 i0 r1 i1 r2 i2 r3 i3 : Nat) (m : Bool) (h1 : ∀ w, Circ r0 i0 r1 i1 r2 i2 r3 i3 w → Calls Tryd.prog 64 #[.slice (some ⟨0, 0, none⟩) 4 4, .complex .f64 a b] w fun e w' => e = .returned (.bool true) ∧ w = w') (h2 : ∀ w, Circ r0 i0 r1 i1 r2 i2 r3 i3 w → Calls Tryd.prog 64 #[.slice (some ⟨0, 0, none⟩) 4 4, .complex .f64 c d] w fun e w' => e = .returned (.bool true) ∧ w = w') (hm : ∀ (P : Program) (t : TypeId) (w : World), ∃ re im w', (binOp .mul t (.complex .f64 c d) (.complex .f64 a (Op.negFloat .f64 b))).run P w = .ok (.complex .f64 re im) w' ∧ Below w.heap.size w w' ∧ ltB re = false ∧ gtB im = true ∧ ltB im = m) (w : World) (h : Circ r0 i0 r1 i1 r2 i2 r3 i3 w) :
    Calls Tryd.prog 59 #[.complex .f64 a b, .complex .f64 c d] w fun x w' => x = .returned (.tuple #[.int .i64 1, .int .i64 0]) ∧ Below w.heap.size w w' := by
  have H1 := Lib.hid (h1 w h)
  have H2 := Lib.hid (h2 w h)
  have HM := Lib.hid hm
  clear h1 h h2 hm
  go_enter Tryd.func59, Tryd.ntmps59
  go_wp2_with fail
  refine H1.out.mono ?_
  rintro e1 w1 ⟨rfl, rfl⟩
  clear H1
  go_wp2_with fail
  refine H2.out.mono ?_
  rintro e2 w1 ⟨rfl, rfl⟩
  clear H2
  go_wp2_with ((with_reducible refine gate_dst (N := 24) rfl ?_); refine wpList_mulC (N := 24) rfl rfl _ _ _ _ rfl rfl rfl HM.out ?_; intro re im w1 hb f1 f2 f3; have HB := Lib.hid hb; clear hb HM)
  go_ret2
  exact ⟨rfl, HB.out⟩
set_option maxRecDepth 100000 in
theorem turn_4 (a b c d r0 i0 r1 i1 r2 i2 r3 i3 : Nat) (h1 : ∀ w, Circ r0 i0 r1 i1 r2 i2 r3 i3 w → Calls Tryd.prog 64 #[.slice (some ⟨0, 0, none⟩) 4 4, .complex .f64 a b] w fun e w' => e = .returned (.bool true) ∧ w = w') (h2 : ∀ w, Circ r0 i0 r1 i1 r2 i2 r3 i3 w → Calls Tryd.prog 64 #[.slice (some ⟨0, 0, none⟩) 4 4, .complex .f64 c d] w fun e w' => e = .returned (.bool true) ∧ w = w') (hm : ∀ (P : Program) (t : TypeId) (w : World), ∃ re im w', (binOp .mul t (.complex .f64 c d) (.complex .f64 a (Op.negFloat .f64 b))).run P w = .ok (.complex .f64 re im) w' ∧ Below w.heap.size w w' ∧ ltB re = false ∧ gtB im = false ∧ ltB im = true) (w : World) (h : Circ r0 i0 r1 i1 r2 i2 r3 i3 w) :
    Calls Tryd.prog 59 #[.complex .f64 a b, .complex .f64 c d] w fun x w' => x = .returned (.tuple #[.int .i64 (-1), .int .i64 0]) ∧ Below w.heap.size w w' := by
  have H1 := Lib.hid (h1 w h)
  have H2 := Lib.hid (h2 w h)
  have HM := Lib.hid hm
  clear h1 h h2 hm
  go_enter Tryd.func59, Tryd.ntmps59
  go_wp2_with fail
  refine H1.out.mono ?_
  rintro e1 w1 ⟨rfl, rfl⟩
  clear H1
  go_wp2_with fail
  refine H2.out.mono ?_
  rintro e2 w1 ⟨rfl, rfl⟩
  clear H2
  go_wp2_with ((with_reducible refine gate_dst (N := 24) rfl ?_); refine wpList_mulC (N := 24) rfl rfl _ _ _ _ rfl rfl rfl HM.out ?_; intro re im w1 hb f1 f2 f3; have HB := Lib.hid hb; clear hb HM)
  go_ret2
  exact ⟨rfl, HB.out⟩
set_option maxRecDepth 100000 in
theorem turn_5 (a b c d r0 i0 r1 i1 r2 i2 r3 i3 : Nat) (h1 : ∀ w, Circ r0 i0 r1 i1 r2 i2 r3 i3 w → Calls Tryd.prog 64 #[.slice (some ⟨0, 0, none⟩) 4 4, .complex .f64 a b] w fun e w' => e = .returned (.bool true) ∧ w = w') (h2 : ∀ w, Circ r0 i0 r1 i1 r2 i2 r3 i3 w → Calls Tryd.prog 64 #[.slice (some ⟨0, 0, none⟩) 4 4, .complex .f64 c d] w fun e w' => e = .returned (.bool true) ∧ w = w') (hm : ∀ (P : Program) (t : TypeId) (w : World), ∃ re im w', (binOp .mul t (.complex .f64 c d) (.complex .f64 a (Op.negFloat .f64 b))).run P w = .ok (.complex .f64 re im) w' ∧ Below w.heap.size w w' ∧ ltB re = false ∧ gtB im = false ∧ ltB im = false) (w : World) (h : Circ r0 i0 r1 i1 r2 i2 r3 i3 w) :
    Calls Tryd.prog 59 #[.complex .f64 a b, .complex .f64 c d] w fun x w' => x = .returned (.tuple #[.int .i64 0, .int .i64 0]) ∧ Below w.heap.size w w' := by
  have H1 := Lib.hid (h1 w h)
  have H2 := Lib.hid (h2 w h)
  have HM := Lib.hid hm
  clear h1 h h2 hm
  go_enter Tryd.func59, Tryd.ntmps59
  go_wp2_with fail
  refine H1.out.mono ?_
  rintro e1 w1 ⟨rfl, rfl⟩
  clear H1
  go_wp2_with fail
  refine H2.out.mono ?_
  rintro e2 w1 ⟨rfl, rfl⟩
  clear H2
  go_wp2_with ((with_reducible refine gate_dst (N := 24) rfl ?_); refine wpList_mulC (N := 24) rfl rfl _ _ _ _ rfl rfl rfl HM.out ?_; intro re im w1 hb f1 f2 f3; have HB := Lib.hid hb; clear hb HM)
  go_ret2
  exact ⟨rfl, HB.out⟩
theorem turn_any (a b c d r0 i0 r1 i1 r2 i2 r3 i3 : Nat) : ∃ n e : Int, -1 ≤ n ∧ n ≤ 1 ∧ ∀ w, Circ r0 i0 r1 i1 r2 i2 r3 i3 w → Calls Tryd.prog 59 #[.complex .f64 a b, .complex .f64 c d] w fun x w' => x = .returned (.tuple #[.int .i64 n, .int .i64 e]) ∧ Below w.heap.size w w' := by
  obtain ⟨B1, h1⟩ := con_any a b r0 i0 r1 i1 r2 i2 r3 i3
  obtain ⟨B2, h2⟩ := con_any c d r0 i0 r1 i1 r2 i2 r3 i3
  obtain ⟨l, g, m, hm⟩ := mulC c d a (Op.negFloat .f64 b)
  cases B1
  · exact ⟨0, 1, by omega, by omega, fun w h => turn_0 a b c d r0 i0 r1 i1 r2 i2 r3 i3 h1 w h⟩
  · cases B2
    · exact ⟨0, 1, by omega, by omega, fun w h => turn_1 a b c d r0 i0 r1 i1 r2 i2 r3 i3 h1 h2 w h⟩
    · cases l
      · cases g
        · cases m
          · exact ⟨0, 0, by omega, by omega, fun w h => turn_5 a b c d r0 i0 r1 i1 r2 i2 r3 i3 h1 h2 hm w h⟩
          · exact ⟨-1, 0, by omega, by omega, fun w h => turn_4 a b c d r0 i0 r1 i1 r2 i2 r3 i3 h1 h2 hm w h⟩
        · exact ⟨1, 0, by omega, by omega, fun w h => turn_3 a b c d r0 i0 r1 i1 r2 i2 r3 i3 m h1 h2 hm w h⟩
      · exact ⟨0, 110, by omega, by omega, fun w h => turn_2 a b c d r0 i0 r1 i1 r2 i2 r3 i3 g m h1 h2 hm w h⟩

theorem known_q (p : Int) (B : Bool) (hB : decide (0 ≤ p ∧ p < 4) = B) (w : World) : Calls Tryd.prog 63 #[.int .i64 p] w fun e w' => e = .returned (.bool B) ∧ w = w' := by
  cases B
  · have h : p < 0 ∨ 4 ≤ p := by simp at hB; omega
    clear hB
    rcases h with h | h
    · have h1 : ¬ 0 ≤ p := by omega
      go_enter Tryd.func63, Tryd.ntmps63
      go_wp2
      go_ret
      exact ⟨rfl, rfl⟩
    · have h1 : 0 ≤ p := by omega
      have h2 : ¬ p < 4 := by omega
      go_enter Tryd.func63, Tryd.ntmps63
      go_wp2
      go_ret
      exact ⟨rfl, rfl⟩
  · obtain ⟨h0, h1⟩ : 0 ≤ p ∧ p < 4 := by simpa using hB
    clear hB
    go_enter Tryd.func63, Tryd.ntmps63
    go_wp2
    go_ret
    exact ⟨rfl, rfl⟩
theorem unit_no (p : Int) (hB : decide (0 ≤ p ∧ p < 4) = false) (w : World) : Calls Tryd.prog 58 #[.int .i64 p] w fun e w' => e = .returned (.tuple #[.complex .f64 0 0, .int .i64 1]) ∧ w = w' := by
  have H := Lib.hid hB
  clear hB
  go_enter Tryd.func58, Tryd.ntmps58
  go_wp2_with fail
  refine (known_q p false H.out _).mono ?_
  rintro e w1 ⟨rfl, rfl⟩
  go_wp2
  go_ret2
  exact ⟨rfl, rfl⟩
theorem unit_0 (r0 i0 r1 i1 r2 i2 r3 i3 : Nat) (w : World) (h : Circ r0 i0 r1 i1 r2 i2 r3 i3 w) : Calls Tryd.prog 58 #[.int .i64 0] w fun e w' => e = .returned (.tuple #[.complex .f64 r0 i0, .int .i64 0]) ∧ w = w' := by
  obtain ⟨h0, h1, h2, h3⟩ := h.cells
  clear h
  go_enter Tryd.func58, Tryd.ntmps58
  go_wp2_with fail
  refine (known_q 0 true (by decide) _).mono ?_
  rintro e w1 ⟨rfl, rfl⟩
  go_wp2
  go_ret2
  exact ⟨rfl, rfl⟩
theorem unit_1 (r0 i0 r1 i1 r2 i2 r3 i3 : Nat) (w : World) (h : Circ r0 i0 r1 i1 r2 i2 r3 i3 w) : Calls Tryd.prog 58 #[.int .i64 1] w fun e w' => e = .returned (.tuple #[.complex .f64 r1 i1, .int .i64 0]) ∧ w = w' := by
  obtain ⟨h0, h1, h2, h3⟩ := h.cells
  clear h
  go_enter Tryd.func58, Tryd.ntmps58
  go_wp2_with fail
  refine (known_q 1 true (by decide) _).mono ?_
  rintro e w1 ⟨rfl, rfl⟩
  go_wp2
  go_ret2
  exact ⟨rfl, rfl⟩
theorem unit_2 (r0 i0 r1 i1 r2 i2 r3 i3 : Nat) (w : World) (h : Circ r0 i0 r1 i1 r2 i2 r3 i3 w) : Calls Tryd.prog 58 #[.int .i64 2] w fun e w' => e = .returned (.tuple #[.complex .f64 r2 i2, .int .i64 0]) ∧ w = w' := by
  obtain ⟨h0, h1, h2, h3⟩ := h.cells
  clear h
  go_enter Tryd.func58, Tryd.ntmps58
  go_wp2_with fail
  refine (known_q 2 true (by decide) _).mono ?_
  rintro e w1 ⟨rfl, rfl⟩
  go_wp2
  go_ret2
  exact ⟨rfl, rfl⟩
theorem unit_3 (r0 i0 r1 i1 r2 i2 r3 i3 : Nat) (w : World) (h : Circ r0 i0 r1 i1 r2 i2 r3 i3 w) : Calls Tryd.prog 58 #[.int .i64 3] w fun e w' => e = .returned (.tuple #[.complex .f64 r3 i3, .int .i64 0]) ∧ w = w' := by
  obtain ⟨h0, h1, h2, h3⟩ := h.cells
  clear h
  go_enter Tryd.func58, Tryd.ntmps58
  go_wp2_with fail
  refine (known_q 3 true (by decide) _).mono ?_
  rintro e w1 ⟨rfl, rfl⟩
  go_wp2
  go_ret2
  exact ⟨rfl, rfl⟩
/-- a place's number, whatever the circle holds, or ErrRange -/
theorem unit_any (p : Int) (r0 i0 r1 i1 r2 i2 r3 i3 : Nat) : (∃ a b, ∀ w, Circ r0 i0 r1 i1 r2 i2 r3 i3 w → Calls Tryd.prog 58 #[.int .i64 p] w fun e w' => e = .returned (.tuple #[.complex .f64 a b, .int .i64 0]) ∧ w = w') ∨
    (∀ w, Calls Tryd.prog 58 #[.int .i64 p] w fun e w' => e = .returned (.tuple #[.complex .f64 0 0, .int .i64 1]) ∧ w = w') := by
  by_cases hp : 0 ≤ p ∧ p < 4
  · left
    have h : p = 0 ∨ p = 1 ∨ p = 2 ∨ p = 3 := by omega
    rcases h with rfl | rfl | rfl | rfl
    · exact ⟨r0, i0, fun w h => unit_0 r0 i0 r1 i1 r2 i2 r3 i3 w h⟩
    · exact ⟨r1, i1, fun w h => unit_1 r0 i0 r1 i1 r2 i2 r3 i3 w h⟩
    · exact ⟨r2, i2, fun w h => unit_2 r0 i0 r1 i1 r2 i2 r3 i3 w h⟩
    · exact ⟨r3, i3, fun w h => unit_3 r0 i0 r1 i1 r2 i2 r3 i3 w h⟩
  · exact .inr fun w => unit_no p (by simpa using hp) w

set_option maxRecDepth 100000 in
theorem qstep_no (p q : Int) (x y : Int) (hx : (x == 0) = false ∨ (y == 0) = false) (w : World) (u v' : Value)
    (h1 : Calls Tryd.prog 58 #[.int .i64 p] w fun e w' => e = .returned (.tuple #[u, .int .i64 x]) ∧ w = w') (h2 : Calls Tryd.prog 58 #[.int .i64 q] w fun e w' => e = .returned (.tuple #[v', .int .i64 y]) ∧ w = w') :
    Calls Tryd.prog 53 #[.int .i64 p, .int .i64 q] w fun e w' => e = .returned (.tuple #[.int .i64 0, .int .i64 1]) ∧ Below w.heap.size w w' := by
  have H1 := Lib.hid h1
  have H2 := Lib.hid h2
  clear h1 h2
  by_cases hx0 : x = 0
  · subst hx0
    have hy : (y == 0) = false := by simpa using hx
    have hy' : (y != 0) = true := by simpa using hy
    clear hx
    go_enter Tryd.func53, Tryd.ntmps53
    go_wp2_with fail
    refine H1.out.mono ?_
    rintro e w1 ⟨rfl, rfl⟩
    clear H1
    go_wp2_with fail
    refine H2.out.mono ?_
    rintro e w1 ⟨rfl, rfl⟩
    go_wp2
    go_ret2
    exact ⟨rfl, Below.refl _ _⟩
  · have hy : (x == 0) = false := by simpa using hx0
    have hy' : (x != 0) = true := by simpa using hx0
    clear hx hx0
    go_enter Tryd.func53, Tryd.ntmps53
    go_wp2_with fail
    refine H1.out.mono ?_
    rintro e w1 ⟨rfl, rfl⟩
    clear H1
    go_wp2_with fail
    refine H2.out.mono ?_
    rintro e w1 ⟨rfl, rfl⟩
    go_wp2
    go_ret2
    exact ⟨rfl, Below.refl _ _⟩
set_option maxRecDepth 100000 in
theorem qstep_yes (p q n e : Int) (a b c d : Nat) (w : World)
    (h1 : Calls Tryd.prog 58 #[.int .i64 p] w fun e w' => e = .returned (.tuple #[.complex .f64 a b, .int .i64 0]) ∧ w = w') (h2 : Calls Tryd.prog 58 #[.int .i64 q] w fun e w' => e = .returned (.tuple #[.complex .f64 c d, .int .i64 0]) ∧ w = w')
    (h3 : Calls Tryd.prog 59 #[.complex .f64 a b, .complex .f64 c d] w fun x w' => x = .returned (.tuple #[.int .i64 n, .int .i64 e]) ∧ Below w.heap.size w w') :
    Calls Tryd.prog 53 #[.int .i64 p, .int .i64 q] w fun x w' => x = .returned (.tuple #[.int .i64 n, .int .i64 e]) ∧ Below w.heap.size w w' := by
  have H1 := Lib.hid h1
  have H2 := Lib.hid h2
  have H3 := Lib.hid h3
  clear h1 h2 h3
  go_enter Tryd.func53, Tryd.ntmps53
  go_wp2_with fail
  refine H1.out.mono ?_
  rintro e w1 ⟨rfl, rfl⟩
  clear H1
  go_wp2_with fail
  refine H2.out.mono ?_
  rintro e w1 ⟨rfl, rfl⟩
  clear H2
  go_wp2_with fail
  refine H3.out.mono ?_
  rintro e w1 ⟨rfl, hb⟩
  have HB := Lib.hid hb
  clear hb H3
  go_wp2
  go_ret2
  exact ⟨rfl, HB.out⟩
theorem qstep_any (p q : Int) (r0 i0 r1 i1 r2 i2 r3 i3 : Nat) : ∃ n e : Int, -1 ≤ n ∧ n ≤ 1 ∧ ∀ w, Circ r0 i0 r1 i1 r2 i2 r3 i3 w → Calls Tryd.prog 53 #[.int .i64 p, .int .i64 q] w fun x w' => x = .returned (.tuple #[.int .i64 n, .int .i64 e]) ∧ Below w.heap.size w w' := by
  rcases unit_any p r0 i0 r1 i1 r2 i2 r3 i3 with ⟨a, b, h1⟩ | h1
  · rcases unit_any q r0 i0 r1 i1 r2 i2 r3 i3 with ⟨c, d, h2⟩ | h2
    · obtain ⟨n, e, hn0, hn1, h3⟩ := turn_any a b c d r0 i0 r1 i1 r2 i2 r3 i3
      exact ⟨n, e, hn0, hn1, fun w h => qstep_yes p q n e a b c d w (h1 w h) (h2 w h) (h3 w h)⟩
    · exact ⟨0, 1, by omega, by omega, fun w h => qstep_no p q 0 1 (.inr rfl) w _ _ (h1 w h) (h2 w)⟩
  · rcases unit_any q r0 i0 r1 i1 r2 i2 r3 i3 with ⟨c, d, h2⟩ | h2
    · exact ⟨0, 1, by omega, by omega, fun w h => qstep_no p q 1 0 (.inl rfl) w _ _ (h1 w) (h2 w h)⟩
    · exact ⟨0, 1, by omega, by omega, fun w _ => qstep_no p q 1 1 (.inl rfl) w _ _ (h1 w) (h2 w)⟩

end Go.Proofs.YtefflkmegodafaaDoor.PBlockKeeps
