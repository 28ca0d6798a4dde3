/-
  The walk of layer 12: a method's receiver in its box, and the cells behind it (At); a timer's stop and begin told so.
-/
import Derived.Test.YtefflkmegodafaaDoorBlockKeepsBlU
namespace Go.Proofs.YtefflkmegodafaaDoor.PBlockKeeps
open Go.RowKit Go.Proofs.YtefflkmegodafaaDoorW.PrintWords Go.Proofs.YtefflkmegodafaaDoorW.PrintLast Go.Proofs.YtefflkmegodafaaDoorW.PrintMore

theorem below_drew' (w : World) : Below w.heap.size w w.drew := (Below.refl _ _).drew
theorem Has.self {w0 w W : World} {g cap n : Nat} {l : List Int} (h : Has w0 w g cap n l W) : Has w0 W g cap n l W := ⟨h.1, h.2.1, h.2.2.1, Kept.refl _ _⟩
theorem Has.trans {w0 w W W' : World} {g cap n : Nat} {l l' : List Int} (h : Has w0 w g cap n l W) (h' : Has w0 W g cap n l' W') : Has w0 w g cap n l' W' :=
  ⟨h'.1, h'.2.1, h'.2.2.1, h.2.2.2.then_ h'.2.2.2 (fun _ h => .inl h)⟩
/-- the cells are l; the receiver lies in block B -/
def At (w0 w : World) (g cap n : Nat) (B : Nat) (now : Int) (l : List Int) (W : World) : Prop :=
  Has w0 w g cap n l W ∧ (W.cell? ⟨B, 0, none⟩ = some (.slice (some ⟨g, 0, none⟩) n cap) ∧ W.cell? ⟨B, 1, none⟩ = some (.int .i64 now)) ∧ B ≠ g ∧ B < W.heap.size
section
variable {w0 w W W' : World} {g cap n B : Nat} {now : Int} {l l' : List Int}
theorem At.enter (h : Has w0 w g cap n l w) (now : Int) (t : TypeId) : At w0 w g cap n w.heap.size now l (w.alloc (.cells #[.slice (some ⟨g, 0, none⟩) n cap, .int .i64 now] t)) :=
  ⟨h.below (bnew' w _), box_new w _ _ t, by have := h.lt; omega, by simp⟩
theorem At.has (h : At w0 w g cap n B now l W) : Has w0 w g cap n l W := h.1
theorem At.box (h : At w0 w g cap n B now l W) : W.cell? ⟨B, 0, none⟩ = some (.slice (some ⟨g, 0, none⟩) n cap) ∧ W.cell? ⟨B, 1, none⟩ = some (.int .i64 now) := h.2.1
theorem At.cell (h : At w0 w g cap n B now l W) (i : Nat) (hi : i < n) : W.cell? ⟨g, i, none⟩ = some (.int .i64 (l.getD i 0)) ∧ W.frozen? ⟨g, i, none⟩ = false := h.1.cell i hi
theorem At.below (h : At w0 w g cap n B now l W) (hb : Below W.heap.size W W') : At w0 w g cap n B now l W' :=
  ⟨h.1.below hb, box_kept h.2.2.2 hb h.2.1, h.2.2.1, Nat.lt_of_lt_of_le h.2.2.2 hb.size⟩
theorem At.drew (h : At w0 w g cap n B now l W) : At w0 w g cap n B now l W.drew := h.below (below_drew' _)
theorem At.after (h : At w0 w g cap n B now l W) (h' : Has w0 W g cap n l' W') : At w0 w g cap n B now l' W' :=
  ⟨h.1.trans h', box_own h.2.2.2 h.2.2.1 h'.2.2.2 h.2.1, h.2.2.1, Nat.lt_of_lt_of_le h.2.2.2 h'.2.2.2.1⟩
theorem At.put (h : At w0 w g cap n B now l W) (i : Nat) (x : Int) : At w0 w g cap n B now (l.set i x) (W.setCell ⟨g, i, none⟩ (.int .i64 x)) := h.after (h.1.self.put i x)
theorem At.is (h : At w0 w g cap n B now l W) (i : Nat) (hi : i < n) (b : Bool) (hb : (l.getD i 0 == 1) = b) :
    Calls Tryd.prog 36 #[.agg #[.slice (some ⟨g, 0, none⟩) n cap, .int .i64 now], .int .i64 (i : Int)] W fun e W' => e = .returned (.bool b) ∧ At w0 w g cap n B now l W' := by
  have hl := h.1.1
  subst hl
  refine (is_at (l := l) (b := b) now i (some ⟨g, 0, none⟩) cap w0 W h.1.2.1 (by omega) (by omega) ?_).mono ?_
  · rw [← hb, rd]; simp
  · rintro e W' ⟨rfl, hb⟩
    exact ⟨rfl, h.below hb⟩
theorem At.set (h : At w0 w g cap n B now l W) (i : Nat) (hi : i < n) (b : Bool) :
    Calls Tryd.prog 35 #[.agg #[.slice (some ⟨g, 0, none⟩) n cap, .int .i64 now], .int .i64 (i : Int), .bool b] W fun e W' => e = .returned (.tuple #[]) ∧ At w0 w g cap n B now (l.set i (bitI b)) W' :=
  (h.1.self.set now i b hi).mono fun _ _ ⟨he, h', _⟩ => ⟨he, h.after h'⟩
theorem At.stop {a b c d e f : Int} (h : At w0 w g cap 6 B now [a, b, c, d, e, f] W) (q : Bool) :
    Calls Tryd.prog 48 #[.agg #[.slice (some ⟨g, 0, none⟩) 6 cap, .int .i64 now], .bool q] W fun x W' => x = .returned (.tuple #[]) ∧ At w0 w g cap 6 B now [a, b, bitI q, 0, e, 0] W' :=
  (stop_any now q h.1.self).mono fun _ _ ⟨he, h'⟩ => ⟨he, h.after h'⟩
theorem At.begin_ {a b c d e f : Int} (h : At w0 w g cap 6 B now [a, b, c, d, e, f] W) (hf : Bit f) :
    Calls Tryd.prog 49 #[.agg #[.slice (some ⟨g, 0, none⟩) 6 cap, .int .i64 now], .bool true] W fun x W' => x = .returned (.tuple #[]) ∧ At w0 w g cap 6 B now [a, b, c, d, if f = 1 then e else now, 1] W' :=
  (begin_any now h.1.self hf).mono fun _ _ ⟨he, h'⟩ => ⟨he, h.after h'⟩
end

end Go.Proofs.YtefflkmegodafaaDoor.PBlockKeeps
