/-
  The walks of layer 21: which window a tick is in (slices.IndexFunc with plan.At's own closure, and plan.At).
-/
import Derived.Test.YtdajedggennljaaPlanAnswersPlA
import Derived.WalkSpells
import Derived.WalkLawsBesides
import Derived.Lib.Hide
import Derived.Deep.QuietTactic
import Derived.BigQuiet
namespace Go.Proofs.Ytdajedggennljaa.PPlanAnswers
open Go.RowKit Go.Proofs.YtdajedggennljaaW.PrintWords Go.Proofs.YtdajedggennljaaW.PrintLast Go.Proofs.YtdajedggennljaaW.PrintMore

theorem bnext {w a b : World} (h : Below w.heap.size w a) (k : Below a.heap.size a b) : Below w.heap.size w b := h.trans (k.mono h.size)
theorem bnew (w : World) (o : Obj) : Below w.heap.size w (w.alloc o) := (Below.refl _ _).alloc (Nat.le_refl _) o

/-- is a tick of the frame in a window? -/
def inW (x : Int) (v : S36) : Bool := decide (v.f1 ≤ x) && decide (wrap64 (x - v.f1) < v.f2)
/-- the first window that a tick is in -/
def idxFrom (x : Int) : Int → List S36 → Int
  | _, [] => -1
  | i, v :: r => if inW x v = true then i else idxFrom x (i + 1) r

set_option maxHeartbeats 1000000 in
theorem at_cl (v : S36) (x : Int) (p : Addr) (w : World) (hp : w.cell? p = some (.int .i64 x)) :
    Calls Try.prog 24 #[.agg #[.int .i64 v.f0, .int .i64 v.f1, .int .i64 v.f2], .pointer (some p)] w fun e w' => e = .returned (.bool (inW x v)) ∧ Below w.heap.size w w' := by
  obtain ⟨f0, f1, f2⟩ := v
  have hq : ∀ o, (w.alloc o).cell? p = some (.int .i64 x) := fun o => (World.cell?_alloc_lt _ _ _ (World.block_lt_of_cell? w p hp)).trans hp
  clear hp
  by_cases h1 : f1 ≤ x
  · by_cases h2 : wrap64 (x - f1) < f2
    · have e : inW x ⟨f0, f1, f2⟩ = true := by simp [inW, h1, h2]
      rw [e]
      clear e
      go_enter Try.func24, Try.ntmps24
      go_wp2
      go_ret
      exact ⟨rfl, bnew _ _⟩
    · have e : inW x ⟨f0, f1, f2⟩ = false := by simp [inW, h2]
      rw [e]
      clear e
      go_enter Try.func24, Try.ntmps24
      go_wp2
      go_ret
      exact ⟨rfl, bnew _ _⟩
  · have e : inW x ⟨f0, f1, f2⟩ = false := by simp [inW, h1]
    rw [e]
    clear e
    go_enter Try.func24, Try.ntmps24
    go_wp2
    go_ret
    exact ⟨rfl, bnew _ _⟩

theorem idx_drop (x : Int) (ws : List S36) (i : Nat) (h : i < ws.length) : idxFrom x (i : Int) (ws.drop i) = if inW x (rd_T36 ws (i : Int)) = true then (i : Int) else idxFrom x ((i + 1 : Nat) : Int) (ws.drop (i + 1)) := by
  rw [drop_at ws i h]; rfl

set_option maxRecDepth 100000 in
set_option maxHeartbeats 2000000 in
theorem index_any (A : Option Addr) (c : Nat) (ws : List S36) (x : Int) (p : Addr) (w : World) (hr : Kd.C k36 w A ws.length ws) (hp : w.cell? p = some (.int .i64 x)) :
    Calls Try.prog 23 #[.slice A ws.length c, .func (.func 24) #[] #[.pointer (some p)]] w fun e w' => e = .returned (.int .i64 (idxFrom x 0 ws)) ∧ Below w.heap.size w w' := by
  have hn := Kd.C_max hr
  have HR := Lib.hid hr
  have HP := Lib.hid hp
  clear hr hp
  go_enter Try.func23, Try.ntmps23
  go_wp2
  go_loopw [8] (fun s wr => ∃ k : Nat, k ≤ ws.length ∧ s = .int .i64 k ∧ Hid (idxFrom x 0 ws = idxFrom x (k : Int) (ws.drop k)) ∧ Below w.heap.size w wr) (fun s _ => ws.length - (intOf s).toNat)
  case atStart => exact ⟨0, by omega, rfl, rfl, Below.refl _ _⟩
  case round =>
    obtain ⟨k, hk, rfl, HI, hB⟩ := hrel
    by_cases hlt : k < ws.length
    · obtain ⟨ad, rfl, c0, c1, c2⟩ := at_T36 (Kd.C_below HR.out hB) (k : Int) (by omega) (by omega)
      have hpw : wr.cell? p = some (.int .i64 x) := (hB.cell (World.block_lt_of_cell? w p HP.out)).trans HP.out
      have hi := idx_drop x ws k hlt
      rw [Int.toNat_natCast] at c0 c1 c2
      generalize hv : rd_T36 ws (k : Int) = v at c0 c1 c2 hi
      clear hv
      have HI2 := Lib.hid hi
      clear hi
      cases hb : inW x v
      · go_wp2_with fail
        refine (at_cl v x p _ hpw).mono ?_
        rintro e w2 ⟨rfl, hb2⟩
        go_wp2
        go_roundw
        case rel => exact ⟨k + 1, by omega, by go_num, by show _ = _; rw [HI.out, HI2.out, hb]; rfl, bnext hB hb2⟩
        case measure => simp [intOf]; omega
      · go_wp2_with fail
        refine (at_cl v x p _ hpw).mono ?_
        rintro e w2 ⟨rfl, hb2⟩
        go_wp2
        go_ret
        exact ⟨by rw [HI.out, HI2.out, hb]; rfl, bnext hB hb2⟩
    · obtain rfl : k = ws.length := by omega
      have hd : idxFrom x 0 ws = -1 := by rw [HI.out, List.drop_length]; rfl
      have HD := Lib.hid hd
      clear hd
      go_wp2
      go_ret
      exact ⟨by rw [HD.out]; rfl, hB⟩

/-- plan.At -/
def atV (F : Int) (ws : List S36) (N t : Int) : Int × Int × Int :=
  if ¬ (checkV F ws N).2 = 0 then (0, 0, (checkV F ws N).2) else if t < 0 then (0, 0, 1) else (idxFrom (t % F) 0 ws, t / F, 0)

theorem check_ok {F : Int} {ws : List S36} {N : Int} (h : (checkV F ws N).2 = 0) :
    1 ≤ N ∧ N ≤ 8 ∧ 1 ≤ F ∧ F ≤ 65536 ∧ 1 ≤ ws.length ∧ ws.length ≤ 32 ∧ firstBad F N 0 0 ws = none ∧ cnt (-1) ws ≤ 1 ∧ noneOf ws N.toNat 0 = false ∧ checkV F ws N = (0, 0) := by
  unfold checkV at h ⊢
  by_cases h1 : N < 1 ∨ 8 < N
  · rw [if_pos h1] at h; simp at h
  · rw [if_neg h1] at h ⊢
    by_cases h2 : F < 1 ∨ 65536 < F ∨ ws.length < 1 ∨ 32 < ws.length
    · rw [if_pos h2] at h; simp at h
    · rw [if_neg h2] at h ⊢
      cases hb : firstBad F N 0 0 ws with
      | some i => rw [hb] at h; simp at h
      | none =>
        rw [hb] at h
        simp only at h ⊢
        by_cases h3 : 1 < cnt (-1) ws
        · rw [if_pos h3] at h; simp at h
        · rw [if_neg h3] at h ⊢
          by_cases h4 : noneOf ws N.toNat 0 = true
          · rw [if_pos h4] at h; simp at h
          · rw [if_neg h4]
            exact ⟨by omega, by omega, by omega, by omega, by omega, by omega, by trivial, by omega, by simpa using h4, rfl⟩

theorem check_at {F : Int} {A : Option Addr} {c : Nat} {ws : List S36} {N a e : Int} (w : World) (hr : Kd.C k36 w A ws.length ws) (hc : ws.length ≤ c) (h : checkV F ws N = (a, e)) :
    Calls Try.prog 8 #[.agg #[.int .i64 F, .slice A ws.length c], .int .i64 N] w fun x w' => x = .returned (.tuple #[.int .i64 a, .int .i64 e]) ∧ Below w.heap.size w w' :=
  (check_any F A c ws N w hr hc (Kd.C_max hr)).mono fun x w' hx => by rw [h] at hx; exact hx

def AtTo (w : World) (v : Int × Int × Int) (e : Ending) (w' : World) : Prop := e = .returned (.tuple #[.int .i64 v.1, .int .i64 v.2.1, .int .i64 v.2.2]) ∧ Below w.heap.size w w'
theorem at_to {F : Int} {A : Option Addr} {c : Nat} {ws : List S36} {N t : Int} {w : World} {v : Int × Int × Int} (h : Calls Try.prog 10 #[.agg #[.int .i64 F, .slice A ws.length c], .int .i64 N, .int .i64 t] w (AtTo w v)) (e : atV F ws N t = v) :
    Calls Try.prog 10 #[.agg #[.int .i64 F, .slice A ws.length c], .int .i64 N, .int .i64 t] w (AtTo w (atV F ws N t)) := by rw [e]; exact h

theorem bcell {W w1 : World} (hb : Below W.heap.size W w1) : (∀ b o, b < W.heap.size → w1.cell? ⟨b, o, none⟩ = W.cell? ⟨b, o, none⟩) ∧ (∀ b o, b < W.heap.size → w1.frozen? ⟨b, o, none⟩ = W.frozen? ⟨b, o, none⟩) :=
  ⟨fun b o h => hb.cell (p := ⟨b, o, none⟩) h, fun b o h => hb.frozen (p := ⟨b, o, none⟩) h⟩
theorem bdrewN {B : Nat} {a w : World} (h : Below B a w) (n : Nat) : Below B a (w.drewN n) := ⟨h.os, h.tape, h.output, h.size, h.block⟩

set_option maxRecDepth 100000 in
set_option maxHeartbeats 2000000 in
theorem plan_at_any (F : Int) (A : Option Addr) (c : Nat) (ws : List S36) (N t : Int) (w : World) (hr : Kd.C k36 w A ws.length ws) (hc : ws.length ≤ c) (ht64 : t ≤ 9223372036854775807) :
    Calls Try.prog 10 #[.agg #[.int .i64 F, .slice A ws.length c], .int .i64 N, .int .i64 t] w (AtTo w (atV F ws N t)) := by
  have HR := Lib.hid hr
  have HC := Lib.hid hc
  clear hr hc
  obtain ⟨a, e, hv⟩ : ∃ a e, checkV F ws N = (a, e) := ⟨_, _, rfl⟩
  have HV := Lib.hid hv
  by_cases he : e = 0
  · subst he
    have hok := check_ok (F := F) (ws := ws) (N := N) (by rw [hv])
    obtain ⟨_, _, hF1, hF2, _, _, _, _, _, _⟩ := hok
    by_cases ht : t < 0
    · refine at_to (v := (0, 0, 1)) ?_ (by unfold atV; rw [hv]; simp [ht])
      clear hv
      go_enter Try.func10, Try.ntmps10
      go_wp2_with fail
      refine (check_at _ (Kd.C_alloc HR.out _) HC.out HV.out).mono ?_
      rintro e w1 ⟨rfl, hb⟩
      go_wp2
      refine bodyPost_ret (results_tmp3 rfl _ _ _) rfl ⟨rfl, bnext (bnew _ _) hb⟩
    · refine at_to (v := (idxFrom (t % F) 0 ws, t / F, 0)) ?_ (by unfold atV; rw [hv]; simp [ht])
      have ht0 : 0 ≤ t := by omega
      clear hv ht
      go_enter Try.func10, Try.ntmps10
      go_wp2_with fail
      refine (check_at _ (Kd.C_alloc HR.out _) HC.out HV.out).mono ?_
      rintro e w1 ⟨rfl, hb⟩
      obtain ⟨hc1, hf1⟩ := bcell hb
      have hz1 : w.heap.size < w1.heap.size := by have := hb.size; simp at this; omega
      have r1 := Kd.C_below (Kd.C_alloc HR.out (.cells #[.int .i64 F, .slice A ws.length c] 24)) hb
      go_wp2_with fail
      refine (index_any _ _ _ (t % F) _ _ (Kd.C_alloc r1 _) (by simp)).mono ?_
      rintro e w2 ⟨rfl, hb2⟩
      have hc3 : w2.cell? ⟨w.heap.size, 0, none⟩ = some (.int .i64 F) := by
        rw [hb2.cell (p := ⟨w.heap.size, 0, none⟩) (by simp; omega), World.cell?_alloc_lt _ _ _ (by exact hz1), hc1 _ _ (by simp)]; simp
      go_wp2_with fail
      go_quiet (fail)
      go_wp2_with fail
      refine bodyPost_ret (results_tmp3 rfl _ _ _) rfl ⟨rfl, bdrewN (bnext ((bnext (bnew _ _) hb).alloc (by omega) _) hb2) _⟩
  · refine at_to (v := (0, 0, e)) ?_ (by unfold atV; rw [hv]; simp [he])
    clear hv
    go_enter Try.func10, Try.ntmps10
    go_wp2_with fail
    refine (check_at _ (Kd.C_alloc HR.out _) HC.out HV.out).mono ?_
    rintro e w1 ⟨rfl, hb⟩
    go_wp2
    refine bodyPost_ret (results_tmp3 rfl _ _ _) rfl ⟨rfl, bnext (bnew _ _) hb⟩

end Go.Proofs.Ytdajedggennljaa.PPlanAnswers
