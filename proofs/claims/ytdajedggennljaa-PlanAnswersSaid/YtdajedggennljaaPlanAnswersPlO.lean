/-
  A plan that a law is handed, opened: a frame, and a slice of windows that reads as a list of windows; an ask, opened: four whole numbers.
-/
import Derived.Test.YtdajedggennljaaPlanAnswersPlB
import Derived.Deep.Slices
import Derived.Deep.Fields
import Derived.ChangeSame
import Derived.Lib.SmallJoins
import Derived.WalkKit
import Derived.ProofKit
import Derived.OpenShut
namespace Go.Proofs.Ytdajedggennljaa.PPlanAnswers
open Go.RowKit Go.Proofs.YtdajedggennljaaW.PrintWords Go.Proofs.YtdajedggennljaaW.PrintLast Go.Proofs.YtdajedggennljaaW.PrintMore
open Go.ChangeShapes Go.WideShapes Go.ChangeAt Go.Deep
section
variable {H : Type} {enc : TypeId × Value → H} {P : Program} {w : World} {base : Nat} {spare : Nat → Bool} {held : Bool}
theorem open_slice_fields {t e : TypeId} {fs : Array Field} {fuel : Nat} {cs : List Value} {x : DataW H × List MemPlace} (ht : P.underlying t = some (.slice e)) (he : P.underlying e = some (.struct fs))
    (hone : oneCellFields P fs = true) (hC : P.cellsOf e = fs.size) (h : DataW.trod enc P w base spare held fuel t cs = some x) :
    (cs = [.slice none 0 0]) ∨
    ∃ (a : Addr) (len cap m : Nat), cs = [.slice (some a) len cap] ∧ len ≤ cap ∧ cap ≤ maxLen ∧ m = (if spare a.block then cap else len) ∧
      ∀ i, i < m → ∃ (ys : List (DataW H × List MemPlace)) (n : Nat),
        ∀ (j : Nat) (f : Field), fs[j]? = some f → ∃ (v : Value) (y : DataW H × List MemPlace), w.cell? (a.add (i * fs.size + j)) = some v ∧ ys[j]? = some y ∧ DataW.trod enc P w base spare held n f.type [v] = some y := by
  rcases open_slice ht h with h0 | ⟨a, len, cap, m, n, D, Pl, hcs, hb, hl, hm, hmm, hx, hi⟩
  · exact .inl h0.1
  · refine .inr ⟨a, len, cap, m, hcs, hl, hm, hmm, fun i him => ?_⟩
    obtain ⟨cs', hc, ht'⟩ := hi i him
    rw [hC] at hc
    obtain ⟨ys, n', _, _, hlen, hyl, hf⟩ := DataW.trod_struct he ht'
    obtain ⟨_, hcl, hat⟩ := World.cells?_some hc
    refine ⟨ys, n', fun j f hj => ?_⟩
    obtain ⟨ho, hk⟩ := hone_of hone j f hj
    have hjl : j < fs.size := (Array.getElem?_eq_some_iff.1 hj).1
    have hcell := hat j hjl
    have hv : cs'[j]? = some (cs'[j]'(by omega)) := List.getElem?_eq_getElem (by omega)
    have h1 := hf j f hj
    rw [ho, hk] at h1
    have hone' : (cs'.drop j).take 1 = [cs'[j]'(by omega)] := by
      rw [List.drop_eq_getElem_cons (by omega)]
      rfl
    rw [hone'] at h1
    have hys : ys[j]? = some (ys[j]'(by omega)) := List.getElem?_eq_getElem (by omega)
    refine ⟨_, _, ?_, hys, h1.trans hys⟩
    rw [← Go.Deep.add_add, hcell, hv]
end

theorem cellsW : Try.prog.cellsOf 36 = 3 := by kernel_rfl
theorem cellsPl : Try.prog.cellsOf 24 = 2 := by kernel_rfl

theorem open_plan {H : Type} {enc : TypeId × Value → H} {W : World} {base : Nat} {r : Reach} {b0 : Nat} {v : Value} {d : DataW H} {p : List MemPlace} (hv : Value.okWide Try.prog W r b0 24 v)
    (h : DataW.Trod enc Try.prog W base (fun _ => true) true 24 v d p) :
    ∃ (F : Int) (A : Option Addr) (c : Nat) (ws : List S36), v = .agg #[.int .i64 F, .slice A ws.length c] ∧ (Lit.int .i64 F).wf = true ∧ Kd.C k36 W A ws.length ws ∧ ws.length ≤ c := by
  obtain ⟨v0, v1, y0, y1, n, rfl, _, _, h0, h1⟩ := Joins.open_agg2 Try.underlying24 (by kernel_rfl) cellsPl hv h
  obtain ⟨F, e0, _, wF⟩ := DataW.trod_int Try.underlying3 h0
  simp at e0
  subst e0
  rcases open_slice_fields Try.underlying22 Try.underlying36 (by kernel_rfl) (by kernel_rfl) h1 with e1 | ⟨a, len, cap, m, e1, hl, hm, hmm, hi⟩
  · simp at e1
    subst e1
    exact ⟨F, none, 0, [], rfl, wF, ⟨rfl, by simp, fun h => absurd h (by simp)⟩, Nat.le_refl _⟩
  · simp at e1
    subst e1
    simp only [if_true] at hmm
    subst hmm
    have one : ∀ i, ∃ x : S36, i < m → W.cell? (a.add (i * 3 + 0)) = some (.int .i64 x.f0) ∧ W.cell? (a.add (i * 3 + 1)) = some (.int .i64 x.f1) ∧ W.cell? (a.add (i * 3 + 2)) = some (.int .i64 x.f2) := by
      intro i
      by_cases him : i < m
      · obtain ⟨ys, n', hf⟩ := hi i him
        obtain ⟨u0, z0, q0, _, t0⟩ := hf 0 _ rfl
        obtain ⟨u1, z1, q1, _, t1⟩ := hf 1 _ rfl
        obtain ⟨u2, z2, q2, _, t2⟩ := hf 2 _ rfl
        obtain ⟨x0, r0, _, _⟩ := DataW.trod_int Try.underlying3 t0
        obtain ⟨x1, r1, _, _⟩ := DataW.trod_int Try.underlying3 t1
        obtain ⟨x2, r2, _, _⟩ := DataW.trod_int Try.underlying3 t2
        simp at r0 r1 r2
        subst r0 r1 r2
        exact ⟨⟨x0, x1, x2⟩, fun _ => ⟨q0, q1, q2⟩⟩
      · exact ⟨⟨0, 0, 0⟩, fun h => absurd h him⟩
    obtain ⟨f, hf⟩ := Classical.axiomOfChoice one
    refine ⟨F, some a, m, (List.range len).map f, by simp, wF, ?_, by simpa using hl⟩
    simp only [List.length_map, List.length_range]
    refine ⟨by simp, Nat.le_trans hl hm, fun _ => ⟨a, rfl, fun j p hp => ?_⟩⟩
    rw [List.getElem?_map] at hp
    by_cases hj : j < len
    · rw [List.getElem?_range hj] at hp
      simp at hp
      subst hp
      obtain ⟨g0, g1, g2⟩ := hf j (by omega)
      refine ⟨_, rfl, k36_mk _ _, fun i u hu => ?_⟩
      rcases i with _ | _ | _ | i <;> simp at hu
      · subst hu; exact g0
      · subst hu; exact g1
      · subst hu; exact g2
    · rw [List.getElem?_eq_none (by simpa using hj)] at hp
      simp at hp

theorem cellsAsk : Try.prog.cellsOf 26 = 4 := by kernel_rfl
theorem open_ask {H : Type} {enc : TypeId × Value → H} {W : World} {base : Nat} {r : Reach} {b0 : Nat} {v : Value} {d : DataW H} {p : List MemPlace} (hv : Value.okWide Try.prog W r b0 26 v)
    (h : DataW.Trod enc Try.prog W base (fun _ => true) true 26 v d p) :
    ∃ (N T P K : Int), v = .agg #[.int .i64 N, .int .i64 T, .int .i64 P, .int .i64 K] ∧ (Lit.int .i64 N).wf = true ∧ (Lit.int .i64 T).wf = true ∧ (Lit.int .i64 P).wf = true ∧ (Lit.int .i64 K).wf = true := by
  obtain ⟨v0, v1, v2, v3, y0, y1, y2, y3, n, rfl, _, _, h0, h1, h2, h3⟩ := Joins.open_agg4 Try.underlying26 (by kernel_rfl) cellsAsk hv h
  obtain ⟨N, e0, _, w0⟩ := DataW.trod_int Try.underlying3 h0
  obtain ⟨T, e1, _, w1⟩ := DataW.trod_int Try.underlying3 h1
  obtain ⟨P, e2, _, w2⟩ := DataW.trod_int Try.underlying3 h2
  obtain ⟨K, e3, _, w3⟩ := DataW.trod_int Try.underlying3 h3
  simp at e0 e1 e2 e3
  subst e0 e1 e2 e3
  exact ⟨N, T, P, K, rfl, w0, w1, w2, w3⟩

end Go.Proofs.Ytdajedggennljaa.PPlanAnswers
