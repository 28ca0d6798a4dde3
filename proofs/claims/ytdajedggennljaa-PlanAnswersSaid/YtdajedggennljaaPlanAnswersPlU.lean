/-
  A plan that a law is handed holds no more windows than its weight allows.
-/
import Derived.Test.YtdajedggennljaaPlanAnswersPlO
import Derived.SizedLaws
namespace Go.Proofs.Ytdajedggennljaa.PPlanAnswers
open Go.RowKit Go.Proofs.YtdajedggennljaaW.PrintWords Go.Proofs.YtdajedggennljaaW.PrintLast Go.Proofs.YtdajedggennljaaW.PrintMore
open Go.ChangeShapes Go.WideShapes Go.ChangeAt Go.Deep
theorem bytesW : Try.prog.bytesOf 36 = 24 := by kernel_rfl
theorem plan_len {H : Type} {enc : TypeId × Value → H} {W : World} {base : Nat} {r : Reach} {b0 : Nat} {F : Int} {A : Option Addr} {c n : Nat} {d : DataW H} {p : List MemPlace} {ts : List TypeId} {ds : List (DataW H)} {j : Nat}
    (hsz : (DataW.weightsEach Try.prog ts ds).all (· ≤ reachBytes) = true) (ht : ts[j]? = some 24) (hd : ds[j]? = some d)
    (hv : Value.okWide Try.prog W r b0 24 (.agg #[.int .i64 F, .slice A n c])) (h : DataW.Trod enc Try.prog W base (fun _ => true) true 24 (.agg #[.int .i64 F, .slice A n c]) d p) : n < 5864062014805 := by
  obtain ⟨v0, v1, y0, y1, m, hv01, rfl, _, h0, h1⟩ := Joins.open_agg2 Try.underlying24 (by kernel_rfl) cellsPl hv h
  simp at hv01
  obtain ⟨rfl, rfl⟩ := hv01
  rcases open_slice Try.underlying22 h1 with ⟨e, _⟩ | ⟨a, len, cap, k, q, D, Pl, e, _, hl, hm, hk, hx, _⟩
  · simp at e
    obtain ⟨_, rfl, _⟩ := e
    omega
  · simp at e
    obtain ⟨_, rfl, rfl⟩ := e
    have hy : y1.1 = .slice ((List.range n).map D) ((List.range (k - n)).map fun j => D (n + j)) := by rw [hx]
    have hmem : ((((List.range n).map D).length + ((List.range (k - n)).map fun j => D (n + j)).length) * Try.prog.bytesOf 36) ∈ (DataW.agg [y0.1, y1.1]).weights Try.prog 24 := by
      rw [hy]
      simp [DataW.weights, Try.underlying24, DataW.weightsEach, Try.underlying22]
    have z := List.all_eq_true.1 hsz _ (DataW.weights_mem_each ht hd _ hmem)
    simp only [decide_eq_true_eq, bytesW, List.length_map, List.length_range] at z
    have : reachBytes = 140737488351232 := rfl
    rw [this] at z
    omega
theorem wf64 {a : Int} (h : (Lit.int .i64 a).wf = true) : a ≤ 9223372036854775807 := by
  simp [Lit.wf, IntKind.min, IntKind.max, IntKind.signed, IntKind.bits] at h
  omega

end Go.Proofs.Ytdajedggennljaa.PPlanAnswers
