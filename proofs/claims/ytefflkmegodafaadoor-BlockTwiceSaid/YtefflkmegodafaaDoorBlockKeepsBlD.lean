/-
  The walk of layer 12: block.Step, out of what (cells).do makes of the cells.
-/
import Derived.Test.YtefflkmegodafaaDoorBlockKeepsBlC
namespace Go.Proofs.YtefflkmegodafaaDoor.PBlockKeeps
open Go.RowKit Go.Proofs.YtefflkmegodafaaDoorW.PrintWords Go.Proofs.YtefflkmegodafaaDoorW.PrintLast Go.Proofs.YtefflkmegodafaaDoorW.PrintMore
attribute [local go_sem] Oper.semAt_some

set_option maxRecDepth 100000 in
theorem step_of (k : Int) (l l' : List Int) (now : Int) (n : Nat) (hl : 0 < l.length) (hl2 : l.length ≤ 32) (hn0 : 0 ≤ now) (hn1 : now ≤ 2147483647) (hw : block_wrong.f n k l = some 0)
    (hdo : ∀ (A : Option Addr) (c : Nat) (w0 w : World), Below w0.heap.size w0 w → Kd.R kI 2 w w0.heap.size (fun _ => True) (.slice A l.length c) l →
      Calls Tryd.prog 20 #[.agg #[.slice A l.length c, .int .i64 now], .int .i64 k] w fun e w' => e = .returned (.tuple #[]) ∧ Kd.R kI 2 w' w0.heap.size (fun _ => True) (.slice A l.length c) l' ∧ Below w0.heap.size w0 w' ∧ Kept w w' (Own (.slice A l.length c)))
    (A : Option Addr) (c : Nat) (w : World) (hr : Kd.C kI w A l.length l) (hc : l.length ≤ c) :
    Calls Tryd.prog 10 #[.int .i64 k, .slice A l.length c, .int .i64 now] w fun e w' => ∃ v, e = .returned (.tuple #[v, .int .i64 0]) ∧ Kd.R kI 2 w' w.heap.size (fun _ => True) v l' ∧ Below w.heap.size w w' := by
  obtain ⟨ad, rfl⟩ := I_some hr hl
  have HR := Lib.hid hr
  have HC := Lib.hid hc
  have HW := Lib.hid hw
  have HD := Lib.hid hdo
  clear hr hc hw hdo
  go_enter Tryd.func10, Tryd.ntmps10
  go_wp2_with fail
  refine (block_wrong.calls n k _ c l 0 _ HR.out HC.out HW.out).mono ?_
  rintro e w1 ⟨rfl, hb⟩
  have r1 := Lib.hid (Kd.C_below HR.out hb)
  have B1 := Lib.hid hb
  clear hb
  go_wp2_with fail
  refine (clone_any ad c l _ r1.out hl2).mono ?_
  rintro e w2 ⟨v, rfl, hv, hb⟩
  obtain ⟨A2, c2, rfl⟩ := Kd.R_slice hv
  have HV := Lib.hid hv
  have B2 := Lib.hid hb
  clear hb hv
  go_wp2_with fail
  have hne : ¬ Own (.slice A2 l.length c2) w2.heap.size := fun h => by
    obtain ⟨_, inner, ho, _⟩ := HV.out
    have := own_lt ho _ h
    omega
  refine (HD.out A2 c2 w1 _ (B2.out.alloc B2.out.size _) (Kd.R_alloc HV.out _)).mono ?_
  rintro e w3 ⟨rfl, hr3, hb3, hk3⟩
  have bk := (hk3.2 w2.heap.size (by simp) hne).trans (blk_new w2 _)
  have c0 : w3.cell? ⟨w2.heap.size, 0, none⟩ = some (.slice A2 l.length c2) := (blk_cell bk 0).trans rfl
  have R3 := Lib.hid (Kd.R_lower hr3 B1.out.size)
  have B3 := Lib.hid (B1.out.trans (hb3.mono B1.out.size))
  clear hr3 hb3 hk3 bk hne
  go_wp2
  go_ret2
  exact ⟨_, rfl, R3.out, B3.out⟩

end Go.Proofs.YtefflkmegodafaaDoor.PBlockKeeps
