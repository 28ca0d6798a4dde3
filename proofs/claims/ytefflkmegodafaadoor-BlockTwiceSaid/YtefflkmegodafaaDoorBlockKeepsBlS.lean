/-
  The contracts of cells.is and cells.set, in plain words.
-/
import Derived.Test.YtefflkmegodafaaDoorBlockKeepsBlB
namespace Go.Proofs.YtefflkmegodafaaDoor.PBlockKeeps
open Go.RowKit Go.Proofs.YtefflkmegodafaaDoorW.PrintWords Go.Proofs.YtefflkmegodafaaDoorW.PrintLast Go.Proofs.YtefflkmegodafaaDoorW.PrintMore
attribute [local go_sem] Oper.semAt_some

theorem is_any (l : List Int) (now i : Int) (A : Option Addr) (c : Nat) (w : World) (hr : Kd.C kI w A l.length l) (hc : l.length ≤ c) (h0 : 0 ≤ i) (h1 : i < l.length) :
    Calls Tryd.prog 36 #[.agg #[.slice A l.length c, .int .i64 now], .int .i64 i] w fun e w' => e = .returned (.bool (rd l i == 1)) ∧ Below w.heap.size w w' :=
  block_cells_is.calls A c l now i _ w hr hc (by unfold block_cells_is.f; rw [if_pos h0, if_pos h1])
/-- the block of a row, and no other -/
abbrev Own (v : Value) : Nat → Prop := fun k => v.ownBlock = some k
theorem R_own {e base : Nat} {w : World} {ok : Nat → Prop} {v : Value} {l : List Int} (h : Kd.R kI e w base ok v l) : Kd.R kI e w base (Own v) v l := ⟨fun _ hk => hk, h.2⟩
theorem set_any (l : List Int) (now i : Int) (b : Bool) (v : Value) (w0 w : World) (hB : Below w0.heap.size w0 w) (ho : Kd.R kI 2 w w0.heap.size (fun _ => True) v l) (h0 : 0 ≤ i) (h1 : i < l.length) :
    Calls Tryd.prog 35 #[.agg #[v, .int .i64 now], .int .i64 i, .bool b] w fun e w' => e = .returned (.tuple #[]) ∧ Kd.R kI 2 w' w0.heap.size (fun _ => True) v (l.set i.toNat (if b = true then 1 else 0)) ∧ Below w0.heap.size w0 w' ∧ Kept w w' (Own v) := by
  refine (block_cells_set.calls (Own v) v l now i b (l.set i.toNat (if b = true then 1 else 0)) w0 w hB (R_own ho) ?_).mono ?_
  · unfold block_cells_set.f
    rw [if_pos h0, if_pos h1]
    cases b <;> simp
  · rintro e w' ⟨rfl, h, hb, hk⟩
    exact ⟨rfl, Kd.R_mono h (fun _ _ => trivial), hb, hk⟩

end Go.Proofs.YtefflkmegodafaaDoor.PBlockKeeps
