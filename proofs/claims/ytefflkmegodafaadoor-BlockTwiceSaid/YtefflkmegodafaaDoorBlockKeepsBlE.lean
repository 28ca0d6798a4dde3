/-
  The walk of layer 12: block.Step of SR and RS.
-/
import Derived.Test.YtefflkmegodafaaDoorBlockKeepsBlD
namespace Go.Proofs.YtefflkmegodafaaDoor.PBlockKeeps
open Go.RowKit Go.Proofs.YtefflkmegodafaaDoorW.PrintWords Go.Proofs.YtefflkmegodafaaDoorW.PrintLast Go.Proofs.YtefflkmegodafaaDoorW.PrintMore

def srV (s r q : Int) : Int := if s = 1 then 1 else if r = 1 then 0 else q
def rsV (s r q : Int) : Int := if r = 1 then 0 else if s = 1 then 1 else q
theorem srV_bit {s r q : Int} (hq : Bit q) : Bit (srV s r q) := by unfold srV; split; exact .inr rfl; split; exact .inl rfl; exact hq
theorem rsV_bit {s r q : Int} (hq : Bit q) : Bit (rsV s r q) := by unfold rsV; split; exact .inl rfl; split; exact .inr rfl; exact hq
theorem step_sr (s r q now : Int) (hs : Bit s) (hr : Bit r) (hq : Bit q) (h0 : 0 ≤ now) (h1 : now ≤ 2147483647) (A : Option Addr) (c : Nat) (w : World) (hk : Kd.C kI w A 3 [s, r, q]) (hc : 3 ≤ c) :
    Calls Tryd.prog 10 #[.int .i64 8, .slice A 3 c, .int .i64 now] w fun e w' => ∃ v, e = .returned (.tuple #[v, .int .i64 0]) ∧ Kd.R kI 2 w' w.heap.size (fun _ => True) v [s, r, srV s r q] ∧ Below w.heap.size w w' := by
  refine step_of 8 [s, r, q] [s, r, srV s r q] now 4 (by simp) (by simp) h0 h1 (wrong_three (by omega) hs hr hq) ?_ A c w hk hc
  intro A c w0 w hB ho
  rcases hs with rfl | rfl
  · rcases hr with rfl | rfl
    · rcases hq with rfl | rfl
      · exact do_sr000 now A c w0 w hB ho
      · exact do_sr001 now A c w0 w hB ho
    · exact do_sr01 q now A c w0 w hB ho
  · exact do_sr1 r q now A c w0 w hB ho
theorem step_rs (s r q now : Int) (hs : Bit s) (hr : Bit r) (hq : Bit q) (h0 : 0 ≤ now) (h1 : now ≤ 2147483647) (A : Option Addr) (c : Nat) (w : World) (hk : Kd.C kI w A 3 [s, r, q]) (hc : 3 ≤ c) :
    Calls Tryd.prog 10 #[.int .i64 9, .slice A 3 c, .int .i64 now] w fun e w' => ∃ v, e = .returned (.tuple #[v, .int .i64 0]) ∧ Kd.R kI 2 w' w.heap.size (fun _ => True) v [s, r, rsV s r q] ∧ Below w.heap.size w w' := by
  refine step_of 9 [s, r, q] [s, r, rsV s r q] now 4 (by simp) (by simp) h0 h1 (wrong_three (by omega) hs hr hq) ?_ A c w hk hc
  intro A c w0 w hB ho
  rcases hr with rfl | rfl
  · rcases hs with rfl | rfl
    · rcases hq with rfl | rfl
      · exact do_rs000 now A c w0 w hB ho
      · exact do_rs001 now A c w0 w hB ho
    · exact do_rs01 q now A c w0 w hB ho
  · exact do_rs1 s q now A c w0 w hB ho

end Go.Proofs.YtefflkmegodafaaDoor.PBlockKeeps
