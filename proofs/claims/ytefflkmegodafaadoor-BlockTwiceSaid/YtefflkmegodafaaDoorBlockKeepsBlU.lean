/-
  The walk of layer 12: a timer's stop and begin.
-/
import Derived.Test.YtefflkmegodafaaDoorBlockKeepsBlT
namespace Go.Proofs.YtefflkmegodafaaDoor.PBlockKeeps
open Go.RowKit Go.Proofs.YtefflkmegodafaaDoorW.PrintWords Go.Proofs.YtefflkmegodafaaDoorW.PrintLast Go.Proofs.YtefflkmegodafaaDoorW.PrintMore
attribute [local go_sem] Oper.semAt_some

theorem bnew' (w : World) (o : Obj) : Below w.heap.size w (w.alloc o) := (Below.refl _ _).alloc (Nat.le_refl _) o
theorem box_new (w : World) (x y : Value) (t : TypeId) : (w.alloc (.cells #[x, y] t)).cell? ⟨w.heap.size, 0, none⟩ = some x ∧ (w.alloc (.cells #[x, y] t)).cell? ⟨w.heap.size, 1, none⟩ = some y := by simp [go_sem]
theorem box_own {B g n cap : Nat} {w w' : World} {x y : Value} (hz : B < w.heap.size) (hg : B ≠ g) (hk : Kept w w' (Own (.slice (some ⟨g, 0, none⟩) n cap))) (h : w.cell? ⟨B, 0, none⟩ = some x ∧ w.cell? ⟨B, 1, none⟩ = some y) : w'.cell? ⟨B, 0, none⟩ = some x ∧ w'.cell? ⟨B, 1, none⟩ = some y := by
  have e := hk.2 B hz (fun h => hg (by simpa [Value.ownBlock, eq_comm] using h))
  have c : ∀ o, w'.cell? ⟨B, o, none⟩ = w.cell? ⟨B, o, none⟩ := fun o => World.cell?_of_block (w := w) (a := ⟨B, o, none⟩) e
  exact ⟨(c 0).trans h.1, (c 1).trans h.2⟩

set_option maxRecDepth 100000 in
theorem stop_any {w0 w : World} {g cap : Nat} {a b c d e f : Int} (now : Int) (q : Bool) (h : Has w0 w g cap 6 [a, b, c, d, e, f] w) :
    Calls Tryd.prog 48 #[.agg #[.slice (some ⟨g, 0, none⟩) 6 cap, .int .i64 now], .bool q] w fun x w' => x = .returned (.tuple #[]) ∧ Has w0 w g cap 6 [a, b, bitI q, 0, e, 0] w' := by
  have hg : ¬ w.heap.size = g := by have := h.lt; omega
  have H := Lib.hid (h.below (bnew' w (.cells #[.slice (some ⟨g, 0, none⟩) 6 cap, .int .i64 now] 66)))
  obtain ⟨c0, c1⟩ := box_new w (.slice (some ⟨g, 0, none⟩) 6 cap) (.int .i64 now) 66
  go_enter Tryd.func48, Tryd.ntmps48
  go_wp2_with fail
  refine (H.out.set now 2 q (by omega)).mono ?_
  rintro e1 w1 ⟨rfl, h1, k1⟩
  obtain ⟨d0, d1⟩ := box_own (by simp) hg k1 ⟨c0, c1⟩
  obtain ⟨x3, y3⟩ := h1.cell 3 (by omega)
  have h2 := h1.put 3 0
  have d2 : (w1.setCell ⟨g, 3, none⟩ (.int .i64 0)).cell? ⟨w.heap.size, 0, none⟩ = some (.slice (some ⟨g, 0, none⟩) 6 cap) := (cell_far (p := ⟨g, 3, none⟩) hg _).trans d0
  have d3 : (w1.setCell ⟨g, 3, none⟩ (.int .i64 0)).cell? ⟨w.heap.size, 1, none⟩ = some (.int .i64 now) := (cell_far (p := ⟨g, 3, none⟩) hg _).trans d1
  have H2 := Lib.hid h2
  clear c0 c1 k1 h1 h2 h
  go_wp2_with fail
  refine (H2.out.set now 5 false (by omega)).mono ?_
  rintro e1 w3 ⟨rfl, h3, _⟩
  have H3 : Hid (Has w0 w g cap 6 [a, b, bitI q, 0, e, 0] w3) := h3
  clear h3
  go_wp2
  go_end0
  exact ⟨rfl, H3.out⟩

set_option maxRecDepth 100000 in
theorem begin_any {w0 w : World} {g cap : Nat} {a b c d e f : Int} (now : Int) (h : Has w0 w g cap 6 [a, b, c, d, e, f] w) (hf : Bit f) :
    Calls Tryd.prog 49 #[.agg #[.slice (some ⟨g, 0, none⟩) 6 cap, .int .i64 now], .bool true] w fun x w' => x = .returned (.tuple #[]) ∧ Has w0 w g cap 6 [a, b, c, d, if f = 1 then e else now, 1] w' := by
  have hg : ¬ w.heap.size = g := by have := h.lt; omega
  have H := Lib.hid (h.below (bnew' w (.cells #[.slice (some ⟨g, 0, none⟩) 6 cap, .int .i64 now] 66)))
  obtain ⟨c0, c1⟩ := box_new w (.slice (some ⟨g, 0, none⟩) 6 cap) (.int .i64 now) 66
  have hR := Kd.R_reads' H.out.2.1
  rcases hf with rfl | rfl
  · go_enter Tryd.func49, Tryd.ntmps49
    go_wp2_with fail
    refine (is_at (l := [a, b, c, d, e, 0]) (b := false) now 5 (some ⟨g, 0, none⟩) cap w0 _ H.out.2.1 (by omega) (by simp) (by rfl)).mono ?_
    rintro e1 w1 ⟨rfl, hb⟩
    have h1 := H.out.below hb
    have d0 := (hb.cell (p := ⟨w.heap.size, 0, none⟩) (by simp)).trans c0
    have d1 := (hb.cell (p := ⟨w.heap.size, 1, none⟩) (by simp)).trans c1
    obtain ⟨x3, y3⟩ := h1.cell 4 (by omega)
    have h2 := h1.put 4 now
    have d2 : (w1.setCell ⟨g, 4, none⟩ (.int .i64 now)).cell? ⟨w.heap.size, 0, none⟩ = some (.slice (some ⟨g, 0, none⟩) 6 cap) := (cell_far (p := ⟨g, 4, none⟩) hg _).trans d0
    have d3 : (w1.setCell ⟨g, 4, none⟩ (.int .i64 now)).cell? ⟨w.heap.size, 1, none⟩ = some (.int .i64 now) := (cell_far (p := ⟨g, 4, none⟩) hg _).trans d1
    have H2 := Lib.hid h2
    clear c0 c1 h1 h2 h hb hR
    go_wp2_with fail
    refine (H2.out.set now 5 true (by omega)).mono ?_
    rintro e1 w3 ⟨rfl, h3, _⟩
    have H3 := Lib.hid h3
    clear h3
    go_wp2
    go_end0
    exact ⟨rfl, H3.out⟩
  · go_enter Tryd.func49, Tryd.ntmps49
    go_wp2_with fail
    refine (is_at (l := [a, b, c, d, e, 1]) (b := true) now 5 (some ⟨g, 0, none⟩) cap w0 _ H.out.2.1 (by omega) (by simp) (by rfl)).mono ?_
    rintro e1 w1 ⟨rfl, hb⟩
    have H1 := Lib.hid (H.out.below hb)
    clear hb hR
    go_wp2
    go_end0
    exact ⟨rfl, H1.out⟩

end Go.Proofs.YtefflkmegodafaaDoor.PBlockKeeps
