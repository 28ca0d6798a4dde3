/-
  The walks of layer 11 over the circle, whatever it holds: Index, Contains, Turn, Unit, Step.
-/
import Derived.Test.YtefflkmegodafaaDoorBlockKeepsBlQa
namespace Go.Proofs.YtefflkmegodafaaDoor.PBlockKeeps
open Go.RowKit Go.Proofs.YtefflkmegodafaaDoorW.PrintWords Go.Proofs.YtefflkmegodafaaDoorW.PrintLast Go.Proofs.YtefflkmegodafaaDoorW.PrintMore
attribute [local go_sem] Oper.semAt_some

/-- the circle holds these four numbers -/
def Circ (r0 i0 r1 i1 r2 i2 r3 i3 : Nat) (W : World) : Prop := 0 < W.heap.size ∧ W.cell? ⟨0, 0, none⟩ = some (.complex .f64 r0 i0) ∧ W.cell? ⟨0, 1, none⟩ = some (.complex .f64 r1 i1) ∧ W.cell? ⟨0, 2, none⟩ = some (.complex .f64 r2 i2) ∧ W.cell? ⟨0, 3, none⟩ = some (.complex .f64 r3 i3)
theorem Circ.cells {r0 i0 r1 i1 r2 i2 r3 i3 : Nat} {W : World} (h : Circ r0 i0 r1 i1 r2 i2 r3 i3 W) : W.cell? ⟨0, 0, none⟩ = some (.complex .f64 r0 i0) ∧ W.cell? ⟨0, 1, none⟩ = some (.complex .f64 r1 i1) ∧ W.cell? ⟨0, 2, none⟩ = some (.complex .f64 r2 i2) ∧ W.cell? ⟨0, 3, none⟩ = some (.complex .f64 r3 i3) := h.2
theorem Circ.below {r0 i0 r1 i1 r2 i2 r3 i3 : Nat} {W W' : World} (h : Circ r0 i0 r1 i1 r2 i2 r3 i3 W) (hb : Below W.heap.size W W') : Circ r0 i0 r1 i1 r2 i2 r3 i3 W' := by
  obtain ⟨hz, h0, h1, h2, h3⟩ := h
  exact ⟨Nat.lt_of_lt_of_le hz hb.size, (hb.cell (p := ⟨0, 0, none⟩) hz).trans h0, (hb.cell (p := ⟨0, 1, none⟩) hz).trans h1, (hb.cell (p := ⟨0, 2, none⟩) hz).trans h2, (hb.cell (p := ⟨0, 3, none⟩) hz).trans h3⟩
def eqB (a b c d : Nat) : Bool := (FloatKind.f64.format.order a c == some .eq) && (FloatKind.f64.format.order b d == some .eq)
theorem run_eqB (P : Program) (w : World) (t : TypeId) (a b c d : Nat) : (binOp .eql t (.complex .f64 a b) (.complex .f64 c d)).run P w = .ok (.bool (eqB a b c d)) w := by
  simp [binOp, Op.complexOp, Op.Complex.cmp, Op.floatCmp, asBool, eqB]
attribute [local go_sem high] run_eqB
set_option maxRecDepth 100000 in
theorem idxc_0 (a b r0 i0 r1 i1 r2 i2 r3 i3 : Nat) (w : World) (h : Circ r0 i0 r1 i1 r2 i2 r3 i3 w) (e0 : eqB a b r0 i0 = true) :
    Calls Tryd.prog 68 #[.slice (some ⟨0, 0, none⟩) 4 4, .complex .f64 a b] w fun e w' => e = .returned (.int .i64 0) ∧ w = w' := by
  obtain ⟨h0, h1, h2, h3⟩ := h.cells
  clear h
  go_enter Tryd.func68, Tryd.ntmps68
  go_wp2_with fail
  go_loop [8] (fun i => ∃ k : Nat, k ≤ 0 ∧ i = .int .i64 k) (fun i => 5 - (intOf i).toNat)
  case atStart => exact ⟨0, by omega, rfl⟩
  case round =>
    obtain ⟨k, hk, rfl⟩ := hrel
    rcases k with _ | k
    · go_wp2
      go_ret
      exact ⟨rfl, rfl⟩
    · omega
set_option maxRecDepth 100000 in
theorem idxc_1 (a b r0 i0 r1 i1 r2 i2 r3 i3 : Nat) (w : World) (h : Circ r0 i0 r1 i1 r2 i2 r3 i3 w) (e0 : eqB a b r0 i0 = false) (e1 : eqB a b r1 i1 = true) :
    Calls Tryd.prog 68 #[.slice (some ⟨0, 0, none⟩) 4 4, .complex .f64 a b] w fun e w' => e = .returned (.int .i64 1) ∧ w = w' := by
  obtain ⟨h0, h1, h2, h3⟩ := h.cells
  clear h
  go_enter Tryd.func68, Tryd.ntmps68
  go_wp2_with fail
  go_loop [8] (fun i => ∃ k : Nat, k ≤ 1 ∧ i = .int .i64 k) (fun i => 5 - (intOf i).toNat)
  case atStart => exact ⟨0, by omega, rfl⟩
  case round =>
    obtain ⟨k, hk, rfl⟩ := hrel
    rcases k with _ | _ | k
    · go_wp2
      go_round
      case rel => exact ⟨1, by omega, rfl⟩
      case measure => simp [intOf]
    · go_wp2
      go_ret
      exact ⟨rfl, rfl⟩
    · omega
set_option maxRecDepth 100000 in
theorem idxc_2 (a b r0 i0 r1 i1 r2 i2 r3 i3 : Nat) (w : World) (h : Circ r0 i0 r1 i1 r2 i2 r3 i3 w) (e0 : eqB a b r0 i0 = false) (e1 : eqB a b r1 i1 = false) (e2 : eqB a b r2 i2 = true) :
    Calls Tryd.prog 68 #[.slice (some ⟨0, 0, none⟩) 4 4, .complex .f64 a b] w fun e w' => e = .returned (.int .i64 2) ∧ w = w' := by
  obtain ⟨h0, h1, h2, h3⟩ := h.cells
  clear h
  go_enter Tryd.func68, Tryd.ntmps68
  go_wp2_with fail
  go_loop [8] (fun i => ∃ k : Nat, k ≤ 2 ∧ i = .int .i64 k) (fun i => 5 - (intOf i).toNat)
  case atStart => exact ⟨0, by omega, rfl⟩
  case round =>
    obtain ⟨k, hk, rfl⟩ := hrel
    rcases k with _ | _ | _ | k
    · go_wp2
      go_round
      case rel => exact ⟨1, by omega, rfl⟩
      case measure => simp [intOf]
    · go_wp2
      go_round
      case rel => exact ⟨2, by omega, rfl⟩
      case measure => simp [intOf]
    · go_wp2
      go_ret
      exact ⟨rfl, rfl⟩
    · omega
set_option maxRecDepth 100000 in
theorem idxc_3 (a b r0 i0 r1 i1 r2 i2 r3 i3 : Nat) (w : World) (h : Circ r0 i0 r1 i1 r2 i2 r3 i3 w) (e0 : eqB a b r0 i0 = false) (e1 : eqB a b r1 i1 = false) (e2 : eqB a b r2 i2 = false) (e3 : eqB a b r3 i3 = true) :
    Calls Tryd.prog 68 #[.slice (some ⟨0, 0, none⟩) 4 4, .complex .f64 a b] w fun e w' => e = .returned (.int .i64 3) ∧ w = w' := by
  obtain ⟨h0, h1, h2, h3⟩ := h.cells
  clear h
  go_enter Tryd.func68, Tryd.ntmps68
  go_wp2_with fail
  go_loop [8] (fun i => ∃ k : Nat, k ≤ 3 ∧ i = .int .i64 k) (fun i => 5 - (intOf i).toNat)
  case atStart => exact ⟨0, by omega, rfl⟩
  case round =>
    obtain ⟨k, hk, rfl⟩ := hrel
    rcases k with _ | _ | _ | _ | k
    · go_wp2
      go_round
      case rel => exact ⟨1, by omega, rfl⟩
      case measure => simp [intOf]
    · go_wp2
      go_round
      case rel => exact ⟨2, by omega, rfl⟩
      case measure => simp [intOf]
    · go_wp2
      go_round
      case rel => exact ⟨3, by omega, rfl⟩
      case measure => simp [intOf]
    · go_wp2
      go_ret
      exact ⟨rfl, rfl⟩
    · omega
set_option maxRecDepth 100000 in
theorem idxc_no (a b r0 i0 r1 i1 r2 i2 r3 i3 : Nat) (w : World) (h : Circ r0 i0 r1 i1 r2 i2 r3 i3 w) (e0 : eqB a b r0 i0 = false) (e1 : eqB a b r1 i1 = false) (e2 : eqB a b r2 i2 = false) (e3 : eqB a b r3 i3 = false) :
    Calls Tryd.prog 68 #[.slice (some ⟨0, 0, none⟩) 4 4, .complex .f64 a b] w fun e w' => e = .returned (.int .i64 (-1)) ∧ w = w' := by
  obtain ⟨h0, h1, h2, h3⟩ := h.cells
  clear h
  go_enter Tryd.func68, Tryd.ntmps68
  go_wp2_with fail
  go_loop [8] (fun i => ∃ k : Nat, k ≤ 4 ∧ i = .int .i64 k) (fun i => 5 - (intOf i).toNat)
  case atStart => exact ⟨0, by omega, rfl⟩
  case round =>
    obtain ⟨k, hk, rfl⟩ := hrel
    rcases k with _ | _ | _ | _ | _ | k
    · go_wp2
      go_round
      case rel => exact ⟨1, by omega, rfl⟩
      case measure => simp [intOf]
    · go_wp2
      go_round
      case rel => exact ⟨2, by omega, rfl⟩
      case measure => simp [intOf]
    · go_wp2
      go_round
      case rel => exact ⟨3, by omega, rfl⟩
      case measure => simp [intOf]
    · go_wp2
      go_round
      case rel => exact ⟨4, by omega, rfl⟩
      case measure => simp [intOf]
    · go_wp2
      go_ret
      exact ⟨rfl, rfl⟩
    · omega
theorem idxc_any (a b r0 i0 r1 i1 r2 i2 r3 i3 : Nat) : ∃ n : Int, -1 ≤ n ∧ ∀ w, Circ r0 i0 r1 i1 r2 i2 r3 i3 w → Calls Tryd.prog 68 #[.slice (some ⟨0, 0, none⟩) 4 4, .complex .f64 a b] w fun e w' => e = .returned (.int .i64 n) ∧ w = w' := by
  cases e0 : eqB a b r0 i0
  · cases e1 : eqB a b r1 i1
    · cases e2 : eqB a b r2 i2
      · cases e3 : eqB a b r3 i3
        · exact ⟨-1, by omega, fun w h => idxc_no a b r0 i0 r1 i1 r2 i2 r3 i3 w h e0 e1 e2 e3⟩
        · exact ⟨3, by omega, fun w h => idxc_3 a b r0 i0 r1 i1 r2 i2 r3 i3 w h e0 e1 e2 e3⟩
      · exact ⟨2, by omega, fun w h => idxc_2 a b r0 i0 r1 i1 r2 i2 r3 i3 w h e0 e1 e2⟩
    · exact ⟨1, by omega, fun w h => idxc_1 a b r0 i0 r1 i1 r2 i2 r3 i3 w h e0 e1⟩
  · exact ⟨0, by omega, fun w h => idxc_0 a b r0 i0 r1 i1 r2 i2 r3 i3 w h e0⟩
set_option maxRecDepth 100000 in
theorem con_any (a b r0 i0 r1 i1 r2 i2 r3 i3 : Nat) : ∃ B : Bool, ∀ w, Circ r0 i0 r1 i1 r2 i2 r3 i3 w → Calls Tryd.prog 64 #[.slice (some ⟨0, 0, none⟩) 4 4, .complex .f64 a b] w fun e w' => e = .returned (.bool B) ∧ w = w' := by
  obtain ⟨n, _, hn⟩ := idxc_any a b r0 i0 r1 i1 r2 i2 r3 i3
  refine ⟨decide (0 ≤ n), fun w h => ?_⟩
  have H := Lib.hid (hn w h)
  clear hn h
  go_enter Tryd.func64, Tryd.ntmps64
  go_wp2_with fail
  refine H.out.mono ?_
  rintro e w1 ⟨rfl, rfl⟩
  go_wp2
  go_ret
  exact ⟨rfl, rfl⟩
end Go.Proofs.YtefflkmegodafaaDoor.PBlockKeeps
