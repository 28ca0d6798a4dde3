/-
  The boxes of a law function of layer 21: its plan and its ask, kept over calls.
-/
import Derived.Test.YtdajedggennljaaPlanAnswersPlE
import Derived.Test.YtdajedggennljaaPlanAnswersPlF
namespace Go.Proofs.Ytdajedggennljaa.PPlanAnswers
open Go.RowKit Go.Shelf Go.Proofs.YtdajedggennljaaW.PrintWords Go.Proofs.YtdajedggennljaaW.PrintLast Go.Proofs.YtdajedggennljaaW.PrintMore

structure Bx (w W : World) (F : Int) (A : Option Addr) (c : Nat) (ws : List S36) (N T P K : Int) : Prop where
  bel : Below w.heap.size w W
  row : Kd.C k36 W A ws.length ws
  cF : W.cell? ⟨w.heap.size, 0, none⟩ = some (.int .i64 F)
  cS : W.cell? ⟨w.heap.size, 1, none⟩ = some (.slice A ws.length c)
  cN : W.cell? ⟨w.heap.size + 1, 0, none⟩ = some (.int .i64 N)
  cT : W.cell? ⟨w.heap.size + 1, 1, none⟩ = some (.int .i64 T)
  cP : W.cell? ⟨w.heap.size + 1, 2, none⟩ = some (.int .i64 P)
  cK : W.cell? ⟨w.heap.size + 1, 3, none⟩ = some (.int .i64 K)
  lt : w.heap.size + 1 < W.heap.size

theorem Bx.new (w : World) (F : Int) (A : Option Addr) (c : Nat) (ws : List S36) (N T P K : Int) (t u : TypeId) (hr : Kd.C k36 w A ws.length ws) :
    Bx w ((w.alloc (.cells #[.int .i64 F, .slice A ws.length c] t)).alloc (.cells #[.int .i64 N, .int .i64 T, .int .i64 P, .int .i64 K] u)) F A c ws N T P K :=
  ⟨(bnew _ _).alloc (by simp) _, Kd.C_alloc (Kd.C_alloc hr _) _, by simp [go_sem], by simp [go_sem], by simp [go_sem], by simp [go_sem], by simp [go_sem], by simp [go_sem], by simp⟩
theorem Bx.next {w W W' : World} {F : Int} {A : Option Addr} {c : Nat} {ws : List S36} {N T P K : Int} (h : Bx w W F A c ws N T P K) (hb : Below W.heap.size W W') : Bx w W' F A c ws N T P K :=
  have h0 : w.heap.size < W.heap.size := by have := h.lt; omega
  ⟨bnext h.bel hb, Kd.C_below h.row hb, (hb.cell (p := ⟨w.heap.size, 0, none⟩) h0).trans h.cF, (hb.cell (p := ⟨w.heap.size, 1, none⟩) h0).trans h.cS, (hb.cell (p := ⟨w.heap.size + 1, 0, none⟩) h.lt).trans h.cN,
   (hb.cell (p := ⟨w.heap.size + 1, 1, none⟩) h.lt).trans h.cT, (hb.cell (p := ⟨w.heap.size + 1, 2, none⟩) h.lt).trans h.cP, (hb.cell (p := ⟨w.heap.size + 1, 3, none⟩) h.lt).trans h.cK, Nat.lt_of_lt_of_le h.lt hb.size⟩

/-- uint64 of an int, modulo a small number, as an int again -/
def umod (x N : Int) : Int := IntKind.u64.wrap x % N
theorem umod_in {x N : Int} (h : 0 < N) : 0 ≤ umod x N ∧ umod x N < N := ⟨Int.emod_nonneg _ (by omega), Int.emod_lt_of_pos _ h⟩

theorem wrapK (K : Int) {n : Int} (h : 0 < n) (h2 : n ≤ 9223372036854775807) : wrap64 ((IntKind.u64.wrap K).tmod n) = umod K n := by
  have h0 : 0 ≤ IntKind.u64.wrap K := by rw [IntKind.wrap_u64]; omega
  have h1 := umod_in (x := K) h
  rw [Int.tmod_eq_emod_of_nonneg h0]
  exact IntWalk.wrap64_in _ (by unfold umod at h1; omega)
theorem at_win {W : World} {ad : Addr} {ws : List S36} {m : Nat} (h : Kd.C k36 W (some ad) ws.length ws) (hm : m < ws.length) :
    W.cell? (ad.add (m * 3)) = some (.int .i64 (win ws m).f0) ∧ W.cell? ⟨(ad.add (m * 3)).block, (ad.add (m * 3)).off + 1, none⟩ = some (.int .i64 (win ws m).f1) ∧ W.cell? ⟨(ad.add (m * 3)).block, (ad.add (m * 3)).off + 2, none⟩ = some (.int .i64 (win ws m).f2) := by
  obtain ⟨a', e, c0, c1, c2⟩ := at_T36 h (m : Int) (by omega) (by omega)
  cases e
  rw [Int.toNat_natCast] at c0 c1 c2
  rw [rd_win] at c0 c1 c2
  exact ⟨c0, c1, c2⟩
theorem C_some {W : World} {A : Option Addr} {ws : List S36} (h : Kd.C k36 W A ws.length ws) (hm : 0 < ws.length) : ∃ ad, A = some ad := by
  obtain ⟨a', e, _⟩ := at_T36 h 0 (by omega) (by omega)
  exact ⟨a', e⟩

end Go.Proofs.Ytdajedggennljaa.PPlanAnswers
