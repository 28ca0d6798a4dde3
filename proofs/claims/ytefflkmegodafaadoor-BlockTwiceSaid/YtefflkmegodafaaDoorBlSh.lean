/-
  The world in which the named variable (an array of complex numbers) holds its zero value is shaped: a row's witness for this seat.
-/
import Derived.Test.YtefflkmegodafaaDoorRows
import Derived.LaidLaws
import Derived.ProofKit
namespace Go.Proofs.YtefflkmegodafaaDoor.Sh
open Go Go.RowKit

def cellC (P : Program) (t : TypeId) (v : Value) : Bool := Cell.okB P t v || match P.underlying t, v with
  | some (.complex .f64), .complex .f64 re im => decide (re < 2 ^ 64) && decide (im < 2 ^ 64)
  | _, _ => false
theorem cellC_ok {P : Program} {w : World} {r : Reach} {base : Nat} {t : TypeId} {v : Value} (h : cellC P t v = true) : Cell.ok P w r base t v := by
  unfold cellC at h
  rw [Bool.or_eq_true] at h
  rcases h with h | h
  · exact Cell.ok_of_okB h
  · unfold Cell.ok
    split at h
    · rename_i hu
      rw [hu]
      simpa [FloatKind.has] using h
    · cases h
def rowC (P : Program) (t : TypeId) (cs : Array Value) : Bool :=
  match P.cellTypes P.depth t with
  | some ts => cs.size % ts.length == 0 && (List.range cs.size).all fun i =>
      match cs[i]?, ts[i % ts.length]? with
      | some v, some u => cellC P u v
      | _, _ => false
  | none => false
theorem rowC_ok {P : Program} {w : World} {r : Reach} {base : Nat} {t : TypeId} {cs : Array Value} (h : rowC P t cs = true) : Row.ok P w r base t cs := by
  unfold rowC at h
  split at h
  · rename_i ts hts
    simp only [Bool.and_eq_true, beq_iff_eq, List.all_eq_true, List.mem_range] at h
    refine ⟨ts, hts, ⟨cs.size / ts.length, (Nat.div_mul_cancel (Nat.dvd_of_mod_eq_zero h.1)).symm⟩, fun i v hv => ?_⟩
    have hi : i < cs.size := (Array.getElem?_eq_some_iff.1 hv).1
    have h2 := h.2 i hi
    rw [hv] at h2
    cases hu : ts[i % ts.length]? with
    | none => simp [hu] at h2
    | some u => simp only [hu] at h2; exact ⟨u, rfl, cellC_ok h2⟩
  · cases h
def varsC (P : Program) (w : World) : Bool :=
  (List.range P.globals.size).all fun g =>
    match ((begin P (fun _ _ => 0) default).world.heap[g]?).bind Obj.row? with
    | none => true
    | some (zero, t) =>
      match w.heap[g]? with
      | some (.cells cs t' frozen) => decide (t' = t) && decide (frozen = (0, 0)) && cs.size == zero.size && rowC P t cs
      | _ => false
theorem shaped_of_C {P : Program} {w : World} (hv : varsC P w = true)
    (hr : (w.heap.toList.drop P.globals.size).take ((begin P (fun _ _ => 0) default).world.heap.size - P.globals.size) =
      (begin P (fun _ _ => 0) default).world.heap.toList.drop P.globals.size) : w.Shaped P := by
  refine ⟨fun g zero t hg hz => ?_, fun k h1 h2 => ?_⟩
  case refine_2 =>
    have h3 := congrArg (·[k - P.globals.size]?) hr
    simp only [List.getElem?_take, List.getElem?_drop, Array.getElem?_toList] at h3
    rw [if_pos (by omega), Nat.add_sub_cancel' h1] at h3
    exact h3
  unfold varsC at hv
  simp only [List.all_eq_true, List.mem_range] at hv
  have h3 := hv g hg
  rw [hz] at h3
  simp only at h3
  split at h3
  · rename_i cs t' fr hw
    simp only [Bool.and_eq_true, decide_eq_true_eq, beq_iff_eq] at h3
    obtain ⟨⟨⟨rfl, rfl⟩, hs⟩, hb⟩ := h3
    exact ⟨cs, hw, hs, fun _ => rowC_ok hb⟩
  · cases h3
/-- a row's witness, the settled world being shaped by varsC -/
theorem witness {H : Type} {enc : TypeId × Value → H} {C : Checked} {os : Os} {f : FuncId} {fn : Func} {s : ChangeSpec} {conds : List PathCond} {apart : Bool} (modest : Bool) (args : Array Value) (fuel : Nat)
    (hv : varsC C.prog ((World.settled C.prog os).forCall (fun _ _ => 0) ⟨#[], args, []⟩) = true)
    (hr : (((World.settled C.prog os).forCall (fun _ _ => 0) ⟨#[], args, []⟩).heap.toList.drop C.prog.globals.size).take ((begin C.prog (fun _ _ => 0) default).world.heap.size - C.prog.globals.size) =
      (begin C.prog (fun _ _ => 0) default).world.heap.toList.drop C.prog.globals.size)
    (hok : Input.okWideB C.prog ((World.settled C.prog os).forCall (fun _ _ => 0) ⟨#[], args, []⟩) f ⟨#[], args, []⟩ = true)
    (hpre : s.preB enc C.prog fn conds apart ((World.settled C.prog os).forCall (fun _ _ => 0) ⟨#[], args, []⟩).memory args fuel = true)
    (hsz : s.sizedB enc C.prog fn apart ((World.settled C.prog os).forCall (fun _ _ => 0) ⟨#[], args, []⟩).memory args fuel = true) :
    ∃ (w : World) (tape : Tape) (i : Input), w.os = os ∧ (w.forCall tape i).Shaped C.prog ∧ i.vars = [] ∧ Input.okWide C.prog (w.forCall tape i) .any w.heap.size f i ∧
      s.pre6 enc C.prog fn conds apart (w.forCall tape i).memory i.args ∧ ({ modest := modest } : Assume).holds C.prog (lone (Frame.enter C.prog f i.args .normal) [] (w.forCall tape i)) := by
  obtain ⟨w, tape, i, h1, h2, h3, h4, ⟨⟨hp, _⟩, hs⟩, h5⟩ := ChangeSpec.witness_shaped (enc := enc) (C := C) (f := f) (fn := fn) (s := s) (conds := conds) (apart := apart) (X := fun _ _ => True) modest (World.settled C.prog os) args fuel rfl (shaped_of_C hv hr) hok hpre hsz trivial
  exact ⟨w, tape, i, h1, h2, h3, h4, ⟨hp, hs⟩, h5⟩

end Go.Proofs.YtefflkmegodafaaDoor.Sh
