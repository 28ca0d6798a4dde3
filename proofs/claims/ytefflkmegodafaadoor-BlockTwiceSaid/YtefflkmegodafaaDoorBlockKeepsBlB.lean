/-
  The walk of layer 12: slices.Clone over cells.
-/
import Derived.Test.YtefflkmegodafaaDoorBlockKeepsBlA
import Derived.Shelf.Abstract
import Derived.WalkKit
import Derived.Lib.Hide
import Derived.Deep.Cut
import Derived.RegionTactic
import Derived.LoopTactic
namespace Go.Proofs.YtefflkmegodafaaDoor.PBlockKeeps
open Go.RowKit Go.Proofs.YtefflkmegodafaaDoorW.PrintWords Go.Proofs.YtefflkmegodafaaDoorW.PrintLast Go.Proofs.YtefflkmegodafaaDoorW.PrintMore
attribute [local go_sem] Oper.semAt_some

theorem infoI : (Tryd.prog.info? 2).map (fun i => (i.zero, i.size, i.bytes)) = some (some (.int .i64 0), 1, 8) := by kernel_rfl
set_option maxRecDepth 100000 in
theorem eq_nil (ad : Addr) (n c : Nat) (w : World) : Sem.run Tryd.prog (binOp BinOp.eql 22 (.slice (some ad) n c) (.slice none 0 0)) w = .ok (.bool false) w := by rfl
abbrev kI : Kd Int := Kd.int .i64
theorem I_some {W : World} {A : Option Addr} {l : List Int} (h : Kd.C kI W A l.length l) (hm : 0 < l.length) : ∃ ad, A = some ad := by
  obtain ⟨ad, e, _⟩ := h.2.2 hm
  exact ⟨ad, e⟩

set_option maxRecDepth 100000 in
theorem clone_any (ad : Addr) (c : Nat) (l : List Int) (w : World) (hr : Kd.C kI w (some ad) l.length l) (hl : l.length ≤ 32) :
    Calls Tryd.prog 19 #[.slice (some ad) l.length c] w fun e w' => ∃ v, e = .returned v ∧ Kd.R kI 2 w' w.heap.size (fun _ => True) v l ∧ Below w.heap.size w w' := by
  have HR := Lib.hid hr
  have en := eq_nil ad l.length c
  clear hr
  go_enter Tryd.func19, Tryd.ntmps19
  go_wp2_with (first
    | ((with_reducible refine gate_dst (N := 5) rfl ?_); refine Kd.R_lit kI w.heap.size 2 ?hg (N := 5) ?hd (w0 := w) (xs := ([] : List Int)) (inner := []) (ok := fun _ => True) (okp := fun _ => True) ?hr ?hp (fun _ hk => hk) trivial (Below.refl _ _) (Nat.le_refl _) (by simp) ?_; (case hd => rfl); (case hg => rfl); (case hr => first | (go_simp; done) | (go_simp; rfl)); (case hp => exact (Reps.none _ _)); intro v5 w5 ho hb hg_ hnew_; have HO := Lib.hid ho; have HB := Lib.hid hb; clear ho hb hg_ hnew_)
    | ((with_reducible refine gate_builtin (b := .append) (xs := #[.tmp 5, .tmp 6]) rfl ?_); at_builtin; refine Kd.R_append_rows kI (w0 := w) w.heap.size rfl (.tmp 5) (.tmp 6) 22 2 (.int .i64 0) 8 rfl Tryd.underlying22 infoI rfl (by decide) (by omega) v5 ([] : List Int) l (some ad) l.length c (fun _ => True) (fun _ => False) rfl rfl HO.out (Kd.C_below HR.out HB.out) (fun _ _ h => h) (fun _ h => h.elim) (fun _ _ => trivial) HB.out HB.out.size (by simp; omega) ?_; intro v1 w1 ho hb hg hat; have HO1 := Lib.hid ho; have HB1 := Lib.hid hb; clear ho hb hg hat))
  go_ret
  exact ⟨_, rfl, by simpa using HO1.out, HB1.out⟩

end Go.Proofs.YtefflkmegodafaaDoor.PBlockKeeps
