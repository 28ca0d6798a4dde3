/-
  The walk of layer 21: plan.starts, an iterator: its contract.
-/
import Derived.RangeFuncNested
import Derived.RangeFuncBound
import Derived.RangeFuncCalls
import Derived.RangeFuncLeaves
import Derived.Shelf.Abstract
import Derived.Shelf.RegionOpen
import Derived.OwnWalkIn
import Derived.TacticsInMore
import Derived.LoopNIn
import Derived.LoopIn
import Derived.Test.YtdajedggennljaaPlanAnswersPlB
import Derived.Test.YtdajedggennljaaPlR
namespace Go.Proofs.Ytdajedggennljaa.PPlanAnswers
open Go.RowKit Go.Shelf Go.Proofs.YtdajedggennljaaW.PrintWords Go.Proofs.YtdajedggennljaaW.PrintLast Go.Proofs.YtdajedggennljaaW.PrintMore
attribute [local go_sem] Oper.semAt_some

/-- the starts of a partition's windows, numbered from k on -/
def sq (p : Int) : Nat → List S36 → List (Nat × Int)
  | _, [] => []
  | k, x :: r => if x.f0 = p then (k, x.f1) :: sq p (k + 1) r else sq p k r
theorem sq_length (p : Int) (ws : List S36) : ∀ k, (sq p k ws).length = cnt p ws := by
  induction ws with
  | nil => intro k; rfl
  | cons x r ih => intro k; simp only [sq, cnt]; split <;> simp [ih]; omega
theorem cnt_append (p : Int) (a b : List S36) : cnt p (a ++ b) = cnt p a + cnt p b := by
  induction a with
  | nil => simp [cnt]
  | cons x r ih => simp only [List.cons_append, cnt, ih]; omega
theorem sq_append (p : Int) (a b : List S36) : ∀ k, sq p k (a ++ b) = sq p k a ++ sq p (k + cnt p a) b := by
  induction a with
  | nil => intro k; simp [sq, cnt]
  | cons x r ih =>
    intro k
    simp only [List.cons_append, sq, cnt]
    split
    · rw [ih, List.cons_append]; congr 2; congr 1; omega
    · rw [ih]; congr 2; omega
theorem take_at (ws : List S36) (i : Nat) (h : i < ws.length) : ws.take (i + 1) = ws.take i ++ [rd_T36 ws (i : Int)] := by
  rw [rd_at ws i h, List.take_succ_eq_append_getElem h]
theorem sq_take (p : Int) (ws : List S36) (i : Nat) (h : i < ws.length) :
    sq p 0 (ws.take (i + 1)) = sq p 0 (ws.take i) ++ (if (rd_T36 ws (i : Int)).f0 = p then [(cnt p (ws.take i), (rd_T36 ws (i : Int)).f1)] else []) := by
  rw [take_at ws i h, sq_append, Nat.zero_add]; rfl
theorem cnt_take (p : Int) (ws : List S36) (i : Nat) (h : i < ws.length) : cnt p (ws.take (i + 1)) = cnt p (ws.take i) + (if (rd_T36 ws (i : Int)).f0 = p then 1 else 0) := by
  rw [take_at ws i h, cnt_append]; simp [cnt]
theorem cnt_take_le (p : Int) (ws : List S36) (i : Nat) : cnt p (ws.take i) ≤ cnt p ws := by
  have h := cnt_append p (ws.take i) (ws.drop i)
  rw [List.take_append_drop] at h; omega
theorem sq_prefix (p : Int) (ws : List S36) (i : Nat) : sq p 0 (ws.take i) <+: sq p 0 ws := by
  have h := sq_append p (ws.take i) (ws.drop i) 0
  rw [List.take_append_drop] at h
  exact ⟨_, h.symm⟩

abbrev encP (x : Nat × Int) : Array Value := #[Value.int .i64 (x.1 : Int), Value.int .i64 x.2]
/-- what a round must keep for the iterator: what lay below n₀, and its own box of the partition -/
def keepP (n₀ B2 : Nat) (W W' : World) : Prop := Below n₀ W W' ∧ ∀ v, W.cell? ⟨B2, 0, none⟩ = some v → W'.cell? ⟨B2, 0, none⟩ = some v

set_option maxRecDepth 100000 in
set_option maxHeartbeats 4000000 in
theorem starts1_in (F : Fence) (n : Nat) (hf : F.fn 27) (hro : F.round = none) (hn : 1 ≤ n) (l B1 B2 n₀ : Nat) (p : Int) (A : Option Addr) (c : Nat) (ws : List S36) (J Jx : List (Nat × Int) → World → Prop)
    (hY : ∀ pre x W, J pre W → pre.length < cnt p ws → YieldAt F (n - 1) Try.prog l #[.int .i64 (x.1 : Int), .int .i64 x.2] W fun e W' =>
      (e = .returned (.bool true) ∧ J (pre ++ [x]) W' ∧ keepP n₀ B2 W W') ∨ (e = .returned (.bool false) ∧ Jx (pre ++ [x]) W'))
    (W : World) (hJ : AbidesFrom W.heap.size J) (w0 : World) (hn₀ : w0.heap.size = n₀) (hw0 : Below n₀ w0 W) (hr : Kd.C k36 w0 A ws.length ws) (hB1 : W.cell? ⟨B1, 1, none⟩ = some (.slice A ws.length c)) (hB2 : W.cell? ⟨B2, 0, none⟩ = some (.int .i64 p)) (h0 : J [] W) :
    CallsIn F n Try.prog 27 #[.func (.yield l) #[] #[], .pointer (some ⟨B1, 0, none⟩), .pointer (some ⟨B2, 0, none⟩)] W fun e W' => (∃ v, e = .returned v) ∧
      ((∃ ys, ys = sq p 0 ws ∧ J ys W') ∨ (∃ pre, pre <+: sq p 0 ws ∧ Jx pre W')) := by
  have hn64 := Kd.C_max hr
  refine callsIn_of_wp Try.func27 rfl hf ?_ hro
  simp only [Try.ntmps27, List.size_toArray, List.length_cons, List.length_nil, Nat.reduceAdd, Nat.reduceSub, Array.replicate_succ, Array.replicate_zero, List.push_toArray, List.append_toArray, List.nil_append, List.cons_append]
  gi_wp2
  gi_loopw [4, 10] (fun kq i wr => ∃ m : Nat, m ≤ ws.length ∧ i = .int .i64 m ∧ kq = .int .i64 (cnt p (ws.take m) : Nat) ∧ J (sq p 0 (ws.take m)) wr ∧ Below n₀ w0 wr ∧ wr.cell? ⟨B2, 0, none⟩ = some (.int .i64 p) ∧ W.heap.size ≤ wr.heap.size)
    (fun _ i _ => ws.length - (intOf i).toNat)
  case atStart => exact ⟨0, Nat.zero_le _, rfl, rfl, h0, hw0, hB2, Nat.le_refl _⟩
  case round =>
    obtain ⟨m, hm, rfl, rfl, hJs, hBw, hB2w, hsz⟩ := hrel
    clear hB1 hB2 h0
    by_cases hlt : m < ws.length
    · subst hn₀
      obtain ⟨ad, rfl, c0, c1, c2⟩ := at_T36 (Kd.C_below hr hBw) (m : Int) (by omega) (by omega)
      rw [Int.toNat_natCast] at c0 c1 c2
      have hs := sq_take p ws m hlt
      have hct := cnt_take p ws m hlt
      have hcl := cnt_take_le p ws (m + 1)
      have hm1 : cnt p (ws.take m) ≤ m := Nat.le_trans (cnt_le p _) (List.length_take_le _ _)
      generalize rd_T36 ws (m : Int) = v at c0 c1 c2 hs hct
      obtain ⟨f0, f1, f2⟩ := v
      simp only at c0 c1 c2 hs hct
      have hB2a : (wr.alloc (.cells #[.int .i64 f0, .int .i64 f1, .int .i64 f2] 36)).cell? ⟨B2, 0, none⟩ = some (.int .i64 p) := (World.cell?_alloc_lt _ _ _ (World.block_lt_of_cell? wr _ hB2w)).trans hB2w
      have hJa := hJ _ _ (wr.alloc (.cells #[.int .i64 f0, .int .i64 f1, .int .i64 f2] 36)) none hJs (World.grownBy_alloc wr _ none) (by simp)
      have hBa : Below w0.heap.size w0 (wr.alloc (.cells #[.int .i64 f0, .int .i64 f1, .int .i64 f2] 36)) := hBw.alloc hBw.size _
      by_cases hv : f0 = p
      · subst hv
        rw [if_pos rfl] at hs hct
        have HS := Lib.hid hs
        have HCT := Lib.hid hct
        obtain ⟨fn, tmps, assign, body, hy, hR⟩ := hY _ (cnt f0 (ws.take m), f1) _ hJa (by rw [sq_length]; omega)
        dsimp only at hy
        clear hs hct
        have hcn : cnt f0 (ws.take m) < 9223372036854775807 := by omega
        gi_wp2
        refine hR.mono ?_
        rintro e W3 (⟨rfl, hJ3, hk3⟩ | ⟨rfl, hJx3⟩)
        · gi_wp2
          go_roundw
          case rel => exact ⟨m + 1, by omega, by go_num, by rw [HCT.out]; go_num, by rw [HS.out]; exact hJ3, hBa.trans hk3.1, hk3.2 _ hB2a, Nat.le_trans hsz (Nat.le_trans (by simp) hk3.1.size)⟩
          case measure => simp [intOf]; omega
        · gi_wp2
          refine bodyPost_ret (results_none rfl _ _ _) rfl ?_
          exact ⟨⟨_, rfl⟩, .inr ⟨_, by rw [← HS.out]; exact sq_prefix _ _ _, hJx3⟩⟩
      · rw [if_neg hv] at hs hct
        rw [List.append_nil] at hs
        have HS := Lib.hid hs
        have HCT := Lib.hid hct
        clear hs hct
        gi_wp2
        go_roundw
        case rel => exact ⟨m + 1, by omega, by go_num, by rw [HCT.out]; rfl, by rw [HS.out]; exact hJa, hBa, hB2a, Nat.le_trans hsz (by simp)⟩
        case measure => simp [intOf]; omega
    · obtain rfl : m = ws.length := by omega
      have HS : Hid (ws.take ws.length = ws) := List.take_length
      gi_wp2
      go_end0
      exact ⟨⟨_, rfl⟩, .inl ⟨_, by rw [HS.out], hJs⟩⟩

set_option maxHeartbeats 1000000 in
/-- plan.starts: it boxes the plan and the partition; the function value captures the boxes. -/
theorem starts_in (F : Fence) (n : Nat) (hf : F.fn 22) (hro : F.round = none) (fr p : Int) (sv : Value) (w : World) :
    CallsIn F n Try.prog 22 #[.agg #[.int .i64 fr, sv], .int .i64 p] w fun e w' => e = .returned (.func (.func 27) #[] #[.pointer (some ⟨w.heap.size, 0, none⟩), .pointer (some ⟨w.heap.size + 1, 0, none⟩)]) ∧
      w' = (w.alloc (.cells #[.int .i64 fr, sv] 24)).alloc (.cells #[.int .i64 p] 3) := by
  refine callsIn_of_wp Try.func22 rfl hf ?_ hro
  simp only [Try.ntmps22, List.size_toArray, List.length_cons, List.length_nil, Nat.reduceAdd, Nat.reduceSub, Array.replicate_succ, Array.replicate_zero, List.push_toArray, List.append_toArray, List.nil_append, List.cons_append]
  gi_wp2
  go_ret
  exact ⟨rfl, rfl⟩

theorem keepP_t {n₀ B2 : Nat} {A B C : World} (h : keepP n₀ B2 A B) (k : keepP n₀ B2 B C) : keepP n₀ B2 A C := ⟨h.1.trans k.1, fun v hv => k.2 v (h.2 v hv)⟩

/-- plan.starts hands back a value that is an iterator over the numbered starts, all or the first few of them -/
theorem starts_stops (F : Fence) (n : Nat) (hf : F.fn 27) (hro : F.round = none) (hn : 1 ≤ n) (B1 B2 : Nat) (p : Int) (A : Option Addr) (c : Nat) (ws : List S36) (w0 w : World) (hw0 : Below w0.heap.size w0 w) (hr : Kd.C k36 w0 A ws.length ws)
    (hB1 : w.cell? ⟨B1, 1, none⟩ = some (.slice A ws.length c)) (hB2 : w.cell? ⟨B2, 0, none⟩ = some (.int .i64 p)) :
    SeqStopsK F n Try.prog 27 #[.pointer (some ⟨B1, 0, none⟩), .pointer (some ⟨B2, 0, none⟩)] encP (keepP w0.heap.size B2) (fun ys => ys = sq p 0 ws) (fun pre => pre <+: sq p 0 ws) (cnt p ws) w := fun l J Jx W hW hJ _ hY h0 =>
  starts1_in F n hf hro hn l B1 B2 _ p A c ws J Jx hY W hJ w0 rfl (hw0.trans (hW.mono hw0.size)) hr
    ((hW.cell (p := ⟨B1, 1, none⟩) (World.block_lt_of_cell? w _ hB1)).trans hB1) ((hW.cell (p := ⟨B2, 0, none⟩) (World.block_lt_of_cell? w _ hB2)).trans hB2) h0

/-- the j-th start of a partition -/
def st (p : Int) (ws : List S36) (j : Nat) : Int := ((sq p 0 ws).getD j (0, 0)).2
theorem sq_at (p : Int) (ws : List S36) : ∀ (k j : Nat), j < cnt p ws → ((sq p k ws).getD j (0, 0)).1 = k + j := by
  induction ws with
  | nil => intro k j h; simp [cnt] at h
  | cons x r ih =>
    intro k j h
    simp only [sq, cnt] at h ⊢
    split
    · rename_i hx
      rw [if_pos hx] at h
      cases j with
      | zero => simp
      | succ j => rw [List.getD_cons_succ, ih (k + 1) j (by omega)]; omega
    · rename_i hx
      rw [if_neg hx] at h
      exact ih k j (by omega)

set_option maxRecDepth 100000 in
set_option maxHeartbeats 4000000 in
theorem starts_try (F : Int) (A : Option Addr) (c n : Nat) (ws : List S36) (N p k a V : Int) (w : World) (hr : Kd.C k36 w A ws.length ws) (hc : ws.length ≤ c) (hv : checkV F ws N = (a, 0)) (hF1 : 1 ≤ F) (hF2 : F ≤ 65536)
    (hp0 : 0 ≤ p) (hp1 : p < N) (hk0 : 0 ≤ k) (hk1 : k ≤ 1048576) (hcnt : 0 < cnt p ws) (hst : ∀ j, j < cnt p ws → 0 ≤ st p ws j ∧ st p ws j ≤ F) (HN : Hid (cnt p ws = n)) (HW : Hid (k / (n : Int) * F + st p ws (k.toNat % n) = V)) :
    Calls Try.prog 9 #[.agg #[.int .i64 F, .slice A ws.length c], .int .i64 N, .int .i64 p, .int .i64 k] w fun e w' => e = .returned (.tuple #[.int .i64 V, .int .i64 0]) ∧ Below w.heap.size w w' := by
  have HST := Lib.hid hst
  have HR := Lib.hid hr
  have HC := Lib.hid hc
  have HV := Lib.hid hv
  have HCNT := Lib.hid hcnt
  clear hr hc hv hcnt hst
  refine (callsIn_wide (n := 5)).1 ?_
  refine callsIn_of_wp_marks Try.func9 rfl trivial ?_ rfl
  simp only [Try.ntmps9, List.size_toArray, List.length_cons, List.length_nil, Nat.reduceAdd, Nat.reduceSub, Array.replicate_succ, Array.replicate_zero, List.push_toArray, List.append_toArray, List.nil_append, List.cons_append]
  gi_wp2_with (refine ⟨trivial, ?_⟩; gi_at_call 8; refine (callsIn_wide.2 (check_at _ (Kd.C_alloc (Kd.C_alloc (Kd.C_alloc HR.out _) _) _) HC.out HV.out)).mono ?_; rintro e w1 ⟨rfl, hb⟩; obtain ⟨hc1, hf1⟩ := bcell hb; have hz1 : w.heap.size + 2 < w1.heap.size := by have := hb.size; simp at this; omega)
  have hbw : Below w.heap.size w w1 := bnext (((bnew _ _).alloc (by simp) _).alloc (by simp; omega) _) hb
  have cF : w1.cell? ⟨w.heap.size, 0, none⟩ = some (.int .i64 F) := by rw [hc1 _ _ (by simp; omega)]; simp [go_sem]
  have cS : w1.cell? ⟨w.heap.size, 1, none⟩ = some (.slice A ws.length c) := by rw [hc1 _ _ (by simp; omega)]; simp [go_sem]
  have cK : w1.cell? ⟨w.heap.size + 1, 0, none⟩ = some (.int .i64 k) := by rw [hc1 _ _ (by simp)]; simp [go_sem]
  have cT : w1.cell? ⟨w.heap.size + 2, 0, none⟩ = some (.int .i64 0) := by rw [hc1 _ _ (by simp)]; simp [go_sem]
  have fT : w1.frozen? ⟨w.heap.size + 2, 0, none⟩ = false := by rw [hf1 _ _ (by simp)]; simp [go_sem]
  have r1 := Kd.C_below HR.out hbw
  have HR1 := Lib.hid r1
  clear hb hc1 hf1 r1
  refine ⟨trivial, ?_⟩
  refine (callsIn_wide.2 (many_any F A c ws p w1 HR1.out HC.out (Kd.C_max HR1.out))).mono ?_
  rintro e w2 ⟨rfl, hb⟩
  rw [HN.out]
  have cF2 := (hb.cell (p := ⟨w.heap.size, 0, none⟩) (by simp; omega)).trans cF
  have cS2 := (hb.cell (p := ⟨w.heap.size, 1, none⟩) (by simp; omega)).trans cS
  have cK2 := (hb.cell (p := ⟨w.heap.size + 1, 0, none⟩) (by simp; omega)).trans cK
  have cT2 := (hb.cell (p := ⟨w.heap.size + 2, 0, none⟩) (by simp; omega)).trans cT
  have fT2 := (hb.frozen (p := ⟨w.heap.size + 2, 0, none⟩) (by simp; omega)).trans fT
  have hz2 : w.heap.size + 2 < w2.heap.size := Nat.lt_of_lt_of_le hz1 hb.size
  have hz20 : w.heap.size < w2.heap.size := by omega
  have hz21 : w.heap.size + 1 < w2.heap.size := by omega
  have hbw2 := bnext hbw hb
  clear cF cS cK cT fT hz1 hb hbw HR1
  gi_wp2_with fail
  refine ⟨trivial, ?_⟩
  refine (starts_in Fence.wide _ trivial rfl _ _ _ _).mono ?_
  rintro e w' ⟨rfl, rfl⟩
  have cN3 : (((w2.alloc (.cells #[.int .i64 (n : Int)] 3)).alloc (.cells #[.int .i64 F, .slice A ws.length c] 24)).alloc (.cells #[.int .i64 p] 3)).cell? ⟨w2.heap.size, 0, none⟩ = some (.int .i64 (n : Int)) := by simp [go_sem]
  have cB1 : (((w2.alloc (.cells #[.int .i64 (n : Int)] 3)).alloc (.cells #[.int .i64 F, .slice A ws.length c] 24)).alloc (.cells #[.int .i64 p] 3)).cell? ⟨w2.heap.size + 1, 1, none⟩ = some (.slice A ws.length c) := by simp [go_sem]
  have cB2 : (((w2.alloc (.cells #[.int .i64 (n : Int)] 3)).alloc (.cells #[.int .i64 F, .slice A ws.length c] 24)).alloc (.cells #[.int .i64 p] 3)).cell? ⟨w2.heap.size + 1 + 1, 0, none⟩ = some (.int .i64 p) := by simp [go_sem]
  have kp : ∀ {b o v}, w2.cell? ⟨b, o, none⟩ = some v → (((w2.alloc (.cells #[.int .i64 (n : Int)] 3)).alloc (.cells #[.int .i64 F, .slice A ws.length c] 24)).alloc (.cells #[.int .i64 p] 3)).cell? ⟨b, o, none⟩ = some v := fun {b o v} h => by
    have hb := World.block_lt_of_cell? w2 _ h
    simp only at hb
    rw [World.cell?_alloc_lt _ _ _ (by simp; omega), World.cell?_alloc_lt _ _ _ (by simp; omega), World.cell?_alloc_lt _ _ _ hb]; exact h
  have cF3 := kp cF2
  have cK3 := kp cK2
  have cT3 := kp cT2
  have fT3 : (((w2.alloc (.cells #[.int .i64 (n : Int)] 3)).alloc (.cells #[.int .i64 F, .slice A ws.length c] 24)).alloc (.cells #[.int .i64 p] 3)).frozen? ⟨w.heap.size + 2, 0, none⟩ = false := by
    rw [frozen?_alloc_cells, frozen?_alloc_cells, frozen?_alloc_cells]; exact fT2
  have b3 : Below w.heap.size w (((w2.alloc (.cells #[.int .i64 (n : Int)] 3)).alloc (.cells #[.int .i64 F, .slice A ws.length c] 24)).alloc (.cells #[.int .i64 p] 3)) := (((hbw2.alloc (by omega) _).alloc (by simp; omega) _).alloc (by simp; omega) _)
  have z3 : w2.heap.size + 2 < (((w2.alloc (.cells #[.int .i64 (n : Int)] 3)).alloc (.cells #[.int .i64 F, .slice A ws.length c] 24)).alloc (.cells #[.int .i64 p] 3)).heap.size := by simp
  generalize ((w2.alloc (.cells #[.int .i64 (n : Int)] 3)).alloc (.cells #[.int .i64 F, .slice A ws.length c] 24)).alloc (.cells #[.int .i64 p] 3) = W4 at cN3 cB1 cB2 cF3 cK3 cT3 fT3 b3 z3 ⊢
  clear kp cF2 cS2 cK2 cT2 fT2 hbw2
  gi_wp2_with fail
  have hz3 : w.heap.size ≤ W4.heap.size := b3.size
  have hn0 : 0 < n := by rw [← HN.out]; exact HCNT.out
  have hm1 : 0 ≤ k % (n : Int) := Int.emod_nonneg _ (by omega)
  have hm2 : k % (n : Int) < n := Int.emod_lt_of_pos _ (by omega)
  have hd1 : 0 ≤ k / (n : Int) := Int.ediv_nonneg hk0 (by omega)
  have hd2 : k / (n : Int) ≤ 1048576 := Int.le_trans (Int.ediv_le_self _ hk0) hk1
  have hp1' : 0 ≤ k / (n : Int) * F := Int.mul_nonneg hd1 (by omega)
  have hp2' : k / (n : Int) * F ≤ 68719476736 := Int.le_trans (Int.mul_le_mul hd2 hF2 (by omega) (by omega)) (by omega)
  have HM := Lib.hid (And.intro hm1 hm2)
  clear hm1 hm2
  refine wpIn_rangeFunc_ownG (F := Fence.wide) (n := 5) rfl (by omega) (gf := 27) (lb := #[.pointer (some ⟨w2.heap.size + 1, 0, none⟩), .pointer (some ⟨w2.heap.size + 1 + 1, 0, none⟩)]) rfl trivial (enters_of Try.func27 (by kernel_rfl) rfl)
    (starts_stops Fence.wide (5 - 1) trivial rfl (by omega) (w2.heap.size + 1) (w2.heap.size + 1 + 1) p A c ws w W4 b3 HR.out cB1 cB2) keepP_t
    (fun W l o o' hl h h1 h2 => ⟨belowK_b (w := W4) hz3 W l o o' hl h h1 h2, fun v hv => (World.cell?_of_block (w := W) (World.putObj_heap_other (by simp only; omega))).trans hv⟩) (Below.refl _ _) (fun _ => rfl)
    (fun pre W => ((∀ x ∈ pre, ¬ (x.1 : Int) = k % (n : Int)) ∧ W.cell? ⟨w.heap.size + 2, 0, none⟩ = some (.int .i64 0) ∧ W.frozen? ⟨w.heap.size + 2, 0, none⟩ = false ∧ W.cell? ⟨w.heap.size + 1, 0, none⟩ = some (.int .i64 k) ∧ W.cell? ⟨w2.heap.size, 0, none⟩ = some (.int .i64 (n : Int)) ∧ W.cell? ⟨w.heap.size, 0, none⟩ = some (.int .i64 F)) ∧ Below w.heap.size w W)
    (fun cd pre W => (cd = .exit 0 ∧ ∃ ini last, pre = ini ++ [last] ∧ (last.1 : Int) = k % (n : Int) ∧ W.cell? ⟨w.heap.size + 2, 0, none⟩ = some (.int .i64 (wrap64 (k / (n : Int) * F + last.2))) ∧ W.frozen? ⟨w.heap.size + 2, 0, none⟩ = false) ∧ Below w.heap.size w W)
    (OwnFrom.and (Own.from (fun s A B row hs hg hr => ⟨hs.1, cell_kept hs.2.1 hg hr, (frozen_kept hs.2.1 hg hr).trans hs.2.2.1, cell_kept hs.2.2.2.1 hg hr, cell_kept hs.2.2.2.2.1 hg hr, cell_kept hs.2.2.2.2.2 hg hr⟩) _) (ownFrom_below (Nat.le_refl _) hz3))
    (fun cd => OwnFrom.and (Own.from (fun s A B row hs hg hr => by obtain ⟨hc, ini, last, e1, e2, e3, e4⟩ := hs; exact ⟨hc, ini, last, e1, e2, cell_kept e3 hg hr, (frozen_kept e3 hg hr).trans e4⟩) _) (ownFrom_below (Nat.le_refl _) hz3))
    ⟨⟨by simp, cT3, fT3, cK3, cN3, cF3⟩, b3⟩ ?a1 ?assign ?body ?done ?stop
  case assign =>
    intro l x W K hK
    have HK := Lib.hid hK
    clear hK
    gi_wp2
    exact HK.out
  case body =>
    rintro l pre x W ⟨⟨hpre, iT, gT, iK, iN, iF⟩, hB⟩ _
    clear cN3 cB1 cB2 cF3 cK3 cT3 fT3 b3
    obtain ⟨x1, x2⟩ := x
    by_cases hx : (x1 : Int) = k % (n : Int)
    · have hx' : ((x1 : Int) == k % (n : Int)) = true := by rw [beq_iff_eq]; exact hx
      have HX := Lib.hid hx
      clear hx
      gi_wp2_with fail
      have g1 : ¬ n = 0 := by omega
      have g2 : ((n : Int) == 0) = false := by rw [beq_eq_false_iff_ne]; omega
      have e1 : IntKind.i64.wrap (k.tdiv (n : Int)) = k / (n : Int) := by rw [Int.tdiv_eq_ediv_of_nonneg hk0]; exact IntWalk.i64_in _ (by omega)
      have e2 : IntKind.i64.wrap (k / (n : Int) * F) = k / (n : Int) * F := IntWalk.i64_in _ (by omega)
      have e3 : IntKind.i64.wrap (k / (n : Int) * F + x2) = wrap64 (k / (n : Int) * F + x2) := by rw [IntKind.wrap_i64]; unfold wrap64; rfl
      refine Rnd.wpIn_round_tail 8 (fun ⟨_, _, h⟩ => h) (fun i o hi cc => by
        rcases i with _ | _ | _ | _ | _ | _ | _ | _ | _ | i <;> simp at hi <;> (subst hi; simp)) (by kernel_rfl) (by kernel_rfl) ?_
      simp only [List.take_succ_cons, List.take_zero, List.drop_succ_cons, List.drop_zero]
      repeat still_step
      refine wpStill_nil ?_
      go_wp2
      gi_wp2
      exact ⟨((KeepsOthers.setCell W ⟨w.heap.size + 2, 0, none⟩ _).trans (KeepsOthers.drew _)).from _, ⟨rfl, pre, (x1, x2), rfl, HX.out, World.cell?_setCell_same' W ⟨w.heap.size + 2, 0, none⟩ _ (congrArg Option.isSome iT), (World.frozen?_setCell W ⟨w.heap.size + 2, 0, none⟩ _ _).trans gT⟩, (hB.setCell (p := ⟨w.heap.size + 2, 0, none⟩) (by simp) _).drew⟩
    · have hx' : ((x1 : Int) == k % (n : Int)) = false := by rw [beq_eq_false_iff_ne]; exact hx
      have HX := Lib.hid hx
      clear hx
      gi_wp2
      exact ⟨KeepsFrom.refl _ _, ⟨Below.refl _ _, fun v hv => hv⟩, ⟨fun y hy => (List.mem_append.1 hy).elim (hpre y) (fun e => by simp at e; subst e; exact HX.out), iT, gT, iK, iN, iF⟩, hB⟩
  case done =>
    rintro D ys W hD rfl ⟨⟨hpre, _⟩, _⟩ hK
    exfalso
    have hm := HM.out
    obtain ⟨j, hj⟩ := Int.eq_ofNat_of_zero_le hm.1
    have hjn : j < cnt p ws := by rw [HN.out]; omega
    have hlen : j < (sq p 0 ws).length := by rw [sq_length]; exact hjn
    have h1 := sq_at p ws 0 j hjn
    rw [List.getD_eq_getElem?_getD, List.getElem?_eq_getElem hlen] at h1
    simp at h1
    refine hpre _ (List.getElem_mem hlen) ?_
    rw [h1, hj]
  case stop =>
    rintro D cd pre W hD hpr ⟨⟨rfl, ini, last, rfl, hlast, iT, gT⟩, hB⟩ hK
    clear cN3 cB1 cB2 cF3 cK3 cT3 fT3 b3
    obtain ⟨tl, htl⟩ := hpr
    have hini : ini.length < cnt p ws := by rw [← sq_length p ws 0, ← htl]; simp
    have hg : (sq p 0 ws).getD ini.length (0, 0) = last := by rw [← htl]; simp
    have h1 := sq_at p ws 0 ini.length hini
    rw [hg] at h1
    have hjn : ini.length = k.toNat % n := by
      have : ((k.toNat % n : Nat) : Int) = k % (n : Int) := by rw [Int.natCast_emod, Int.toNat_of_nonneg hk0]
      omega
    have hs2 : last.2 = st p ws (k.toNat % n) := by unfold st; rw [← hjn, hg]
    have hb2 := HST.out _ hini
    rw [hjn] at hb2
    have iT2 : W.cell? ⟨w.heap.size + 1 + 1, 0, none⟩ = some (.int .i64 (k / (n : Int) * F + st p ws (k.toNat % n))) := by
      rw [hs2, show wrap64 (k / (n : Int) * F + st p ws (k.toNat % n)) = k / (n : Int) * F + st p ws (k.toNat % n) from IntWalk.wrap64_in _ (by omega)] at iT
      exact iT
    have gT2 : W.frozen? ⟨w.heap.size + 1 + 1, 0, none⟩ = false := gT
    rw [HW.out] at iT2
    clear iT gT htl hini hg h1 hjn hs2 hb2 hlast
    gi_wp2
    have hK' := (KeepsOthers.setCell W ⟨w.heap.size + 1 + 1, 0, none⟩ (.int .i64 V)).same D _ hK rfl
    refine ⟨by simp, .inl ⟨_, _, rfl, run_takeDeferred hK', ?_⟩⟩
    have hc5 := cell_kept (World.cell?_setCell_same' W ⟨w.heap.size + 1 + 1, 0, none⟩ (.int .i64 V) (by rw [iT2]; rfl)) (grownBy_putObj' _ D (.deferred none)) (fun r e => by cases e; exact ⟨_, hK', rfl⟩)
    refine ⟨.tuple #[.int .i64 V, .int .i64 0], ?_, rfl, (hB.setCell (p := ⟨w.heap.size + 1 + 1, 0, none⟩) (by simp only; omega) _).trans (belowK_b (w := W4) hz3 _ D _ _ hD hK' rfl rfl)⟩
    simp [results, Try.f9, go_sem, hc5]

end Go.Proofs.Ytdajedggennljaa.PPlanAnswers
