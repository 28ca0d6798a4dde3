/-
  The walk of layer 12: what a timer's methods make of its cells: stop, begin.
-/
import Derived.Test.YtefflkmegodafaaDoorBlockKeepsBlE
namespace Go.Proofs.YtefflkmegodafaaDoor.PBlockKeeps
open Go.RowKit Go.Proofs.YtefflkmegodafaaDoorW.PrintWords Go.Proofs.YtefflkmegodafaaDoorW.PrintLast Go.Proofs.YtefflkmegodafaaDoorW.PrintMore
attribute [local go_sem] Oper.semAt_some

/-- the cells are l in the world W; what else there was stays -/
def Has (w0 w : World) (g cap n : Nat) (l : List Int) (W : World) : Prop := l.length = n ∧ Kd.R kI 2 W w0.heap.size (fun _ => True) (.slice (some ⟨g, 0, none⟩) n cap) l ∧ Below w0.heap.size w0 W ∧ Kept w W (Own (.slice (some ⟨g, 0, none⟩) n cap))
theorem Has.start {w0 w : World} {g cap : Nat} {l : List Int} (hB : Below w0.heap.size w0 w) (ho : Kd.R kI 2 w w0.heap.size (fun _ => True) (.slice (some ⟨g, 0, none⟩) l.length cap) l) : Has w0 w g cap l.length l w := ⟨rfl, ho, hB, Kept.refl _ _⟩
theorem Has.lt {w0 w W : World} {g cap n : Nat} {l : List Int} (h : Has w0 w g cap n l W) : g < W.heap.size := by
  obtain ⟨_, ⟨_, inner, ho, _⟩, _⟩ := h
  exact own_lt ho g rfl
theorem Has.ge {w0 w W : World} {g cap n : Nat} {l : List Int} (h : Has w0 w g cap n l W) : w0.heap.size ≤ g := by
  obtain ⟨_, ⟨_, inner, ho, _⟩, _⟩ := h
  exact own_base ho g rfl
theorem Has.below {w0 w W W' : World} {g cap n : Nat} {l : List Int} (h : Has w0 w g cap n l W) (hb : Below W.heap.size W W') : Has w0 w g cap n l W' :=
  ⟨h.1, Kd.R_below h.2.1 hb, h.2.2.1.trans (hb.mono h.2.2.1.size), Kept.then_ h.2.2.2 (Kept.of_below hb (Own (.slice (some ⟨g, 0, none⟩) n cap))) (fun _ h => .inl h)⟩
theorem Has.put {w0 w W : World} {g cap n : Nat} {l : List Int} (h : Has w0 w g cap n l W) (i : Nat) (x : Int) : Has w0 w g cap n (l.set i x) (W.setCell ⟨g, i, none⟩ (.int .i64 x)) :=
  ⟨by simpa using h.1, Kd.R_putn h.2.1 (i : Int) x, h.2.2.1.setCell (p := ⟨g, i, none⟩) h.ge _, h.2.2.2.setCell (p := ⟨g, i, none⟩) (.inl rfl) _⟩
theorem Has.cell {w0 w W : World} {g cap n : Nat} {l : List Int} (h : Has w0 w g cap n l W) (i : Nat) (hi : i < n) : W.cell? ⟨g, i, none⟩ = some (.int .i64 (l.getD i 0)) ∧ W.frozen? ⟨g, i, none⟩ = false :=
  Kd.R_celln 0 h.2.1 (i : Int) (by omega) (by omega)
/-- a truth as a number -/
def bitI (b : Bool) : Int := if b = true then 1 else 0
theorem Has.set {w0 w W : World} {g cap n : Nat} {l : List Int} (h : Has w0 w g cap n l W) (now : Int) (i : Nat) (b : Bool) (hi : i < n) :
    Calls Tryd.prog 35 #[.agg #[.slice (some ⟨g, 0, none⟩) n cap, .int .i64 now], .int .i64 i, .bool b] W fun e W' => e = .returned (.tuple #[]) ∧ Has w0 w g cap n (l.set i (bitI b)) W' ∧ Kept W W' (Own (.slice (some ⟨g, 0, none⟩) n cap)) := by
  refine (set_any l now i b _ w0 W h.2.2.1 h.2.1 (by omega) (by rw [h.1]; omega)).mono ?_
  rintro e W' ⟨rfl, hr, hb, hk⟩
  exact ⟨rfl, ⟨by simpa using h.1, hr, hb, Kept.then_ h.2.2.2 hk (fun _ h => .inl h)⟩, hk⟩

end Go.Proofs.YtefflkmegodafaaDoor.PBlockKeeps
