/-
  The walk of layer 21: plan.Gaps.
-/
import Derived.Test.YtdajedggennljaaPlanAnswersPlH
import Derived.Test.YtdajedggennljaaPlanAnswersPlG
namespace Go.Proofs.Ytdajedggennljaa.PPlanAnswers
open Go.RowKit Go.Shelf Go.Proofs.YtdajedggennljaaW.PrintWords Go.Proofs.YtdajedggennljaaW.PrintLast Go.Proofs.YtdajedggennljaaW.PrintMore
attribute [local go_sem] Oper.semAt_some

/-- a slice of one window, of the call's own -/
theorem lit1_C (w : World) (x : S36) : Kd.C k36 (w.alloc (.cells #[.int .i64 x.f0, .int .i64 x.f1, .int .i64 x.f2] 36)) (some ⟨w.heap.size, 0, none⟩) 1 [x] := by
  refine ⟨rfl, by omega, fun _ => ⟨_, rfl, fun j p hp => ?_⟩⟩
  rcases j with _ | j
  · simp at hp; subst hp
    refine ⟨_, rfl, k36_mk _ _, fun i u hu => ?_⟩
    rcases i with _ | _ | _ | i <;> simp at hu
    · subst hu; simp [go_sem, Addr.add]
    · subst hu; simp [go_sem, Addr.add]
    · subst hu; simp [go_sem, Addr.add]
  · simp at hp

/-- what lies between windows, from the tick e on -/
def gp : Int → List S36 → List S36
  | _, [] => []
  | e, x :: r => (if e < x.f1 then [⟨-2, e, x.f1 - e⟩] else []) ++ gp (x.f1 + x.f2) r

theorem gp_drop (e : Int) (xs : List S36) (m : Nat) (h : m < xs.length) : gp e (xs.drop m) = (if e < (win xs m).f1 then [⟨-2, e, (win xs m).f1 - e⟩] else []) ++ gp ((win xs m).f1 + (win xs m).f2) (xs.drop (m + 1)) := by
  have hw : win xs m = xs[m] := by simp [win, List.getD_eq_getElem?_getD, List.getElem?_eq_getElem h]
  rw [List.drop_eq_getElem_cons h, gp, hw]
theorem tail_in {F : Int} {ws : List S36} {N : Int} (g : Good F ws N) (m : Nat) (hm : m < (ws ++ [(⟨0, F, 0⟩ : S36)]).length) : 0 ≤ (win (ws ++ [(⟨0, F, 0⟩ : S36)]) m).f1 ∧ (win (ws ++ [(⟨0, F, 0⟩ : S36)]) m).f1 ≤ F ∧ 0 ≤ (win (ws ++ [(⟨0, F, 0⟩ : S36)]) m).f2 ∧ (win (ws ++ [(⟨0, F, 0⟩ : S36)]) m).f2 ≤ F := by
  have hF := g.f1
  by_cases h : m < ws.length
  · have hw : win (ws ++ [(⟨0, F, 0⟩ : S36)]) m = win ws m := by simp [win, List.getD_eq_getElem?_getD, List.getElem?_append_left h]
    have := chain_at g.chain h
    rw [hw]; omega
  · have hm' : m = ws.length := by simp at hm; omega
    subst hm'
    have hw : win (ws ++ [(⟨0, F, 0⟩ : S36)]) ws.length = ⟨0, F, 0⟩ := by simp [win, List.getD_eq_getElem?_getD]
    rw [hw]; simp; omega
theorem R_box {w : World} {base : Nat} {v : Value} {xs : List S36} (h : Kd.R k36 36 w base (fun _ => True) v xs) : some w.heap.size ≠ v.ownBlock := by
  obtain ⟨_, inner, ho, _⟩ := h
  intro e
  have := own_lt ho _ e.symm
  omega

set_option maxRecDepth 100000 in
set_option maxHeartbeats 4000000 in
theorem gaps_try (F : Int) (ad : Addr) (c : Nat) (ws : List S36) (N : Int) (w : World) (hr : Kd.C k36 w (some ad) ws.length ws) (hc : ws.length ≤ c) (g : Good F ws N) :
    Calls Try.prog 16 #[.agg #[.int .i64 F, .slice (some ad) ws.length c], .int .i64 N] w fun e w' => ∃ v, e = .returned (.tuple #[v, .int .i64 0]) ∧ Kd.R k36 36 w' w.heap.size (fun _ => True) v (gp 0 (ws ++ [(⟨0, F, 0⟩ : S36)])) ∧ Below w.heap.size w w' := by
  have HR := Lib.hid hr
  have HC := Lib.hid hc
  have G := Lib.hid g
  have l2 := g.l2
  clear hr hc g
  go_enter Try.func16, Try.ntmps16
  go_wp2_with fail
  refine (check_at _ (Kd.C_alloc HR.out _) HC.out G.out.is).mono ?_
  rintro e w1 ⟨rfl, hb⟩
  have hc1 := (bcell hb).1
  have hz1 : w.heap.size < w1.heap.size := by have := hb.size; simp at this; omega
  have c0 : w1.cell? ⟨w.heap.size, 0, none⟩ = some (.int .i64 F) := by rw [hc1 _ _ (by simp)]; simp [go_sem]
  have c1 : w1.cell? ⟨w.heap.size, 1, none⟩ = some (.slice (some ad) ws.length c) := by rw [hc1 _ _ (by simp)]; simp [go_sem]
  have b1 := bnext (bnew _ _) hb
  clear hb hc1
  go_wp2_with fail
  refine start_ (n := 10) (S := fun w' => w'.cell? ⟨w.heap.size, 0, none⟩ = some (.int .i64 F) ∧ w'.cell? ⟨w.heap.size, 1, none⟩ = some (.slice (some ad) ws.length c)) (ds := []) #[false, false, false, false, false, false, false, false, false, false] (by kernel_rfl) rfl rfl ⟨c0, c1⟩ (fun hHeld => ?_)
  have b5 := b1.drew
  have hz5 : w.heap.size < w1.drew.heap.size := hz1
  clear c0 c1 b1 hz1
  generalize w1.drew = w5 at b5 hz5 hHeld ⊢
  have R5 := Lib.hid (Kd.C_below HR.out b5)
  refine pure_ (i := 0) (N := some 21) (v := ?_) (a' := ?_) #[true, false, false, false, false, false, false, false, false, false] rfl rfl (by kernel_rfl) (fun _ _ _ h => h) (Or.inl ⟨by rfl, ?_⟩) ?_ ?_
  rotate_left
  · intro w'
    go_simp
    with_reducible rfl
  rotate_left
  · simp only [Act.put, List.setIfInBounds_toArray, List.set_cons_zero, List.set_cons_succ]
    rfl
  refine pure_ (i := 3) (N := some 24) (v := ?_) (a' := ?_) #[true, false, false, true, false, false, false, false, false, false] rfl rfl (by kernel_rfl) (fun _ _ _ h => h) (Or.inl ⟨by rfl, ?_⟩) ?_ ?_
  rotate_left
  · intro w'
    go_simp
    with_reducible rfl
  rotate_left
  · simp only [Act.put, List.setIfInBounds_toArray, List.set_cons_zero, List.set_cons_succ]
    rfl
  refine pure_ (i := 9) (N := some 30) (v := ?_) (a' := ?_) #[true, false, false, true, false, false, false, false, false, true] rfl rfl (by kernel_rfl) (fun _ _ _ h => h) (Or.inl ⟨by rfl, ?_⟩) ?_ ?_
  rotate_left
  · intro w'
    go_simp
    with_reducible rfl
  rotate_left
  · simp only [Act.put, List.setIfInBounds_toArray, List.set_cons_zero, List.set_cons_succ]
    rfl
  refine take_ (i := 1) (N := some 22) (v := ?_) (a' := ?_) #[true, true, false, true, false, false, false, false, false, true] rfl rfl (by kernel_rfl) (fun _ _ _ h => h) (Or.inl ⟨by rfl, ?_⟩) hHeld ?_ ?_
  rotate_left
  · rintro w' ⟨s0, s1⟩
    go_simp
    with_reducible rfl
  rotate_left
  · simp only [Act.put, List.setIfInBounds_toArray, List.set_cons_zero, List.set_cons_succ]
    rfl
  refine take_ (i := 4) (N := some 25) (v := ?_) (a' := ?_) #[true, true, false, true, true, false, false, false, false, true] rfl rfl (by kernel_rfl) (fun _ _ _ h => h) (Or.inl ⟨by rfl, ?_⟩) hHeld ?_ ?_
  rotate_left
  · rintro w' ⟨s0, s1⟩
    go_simp
    with_reducible rfl
  rotate_left
  · simp only [Act.put, List.setIfInBounds_toArray, List.set_cons_zero, List.set_cons_succ]
    rfl
  refine pure_ (i := 5) (N := some 26) (v := ?_) (a' := ?_) #[true, true, false, true, true, true, false, false, false, true] rfl rfl (by kernel_rfl) (fun _ _ _ h => h) (Or.inl ⟨by rfl, ?_⟩) ?_ ?_
  rotate_left
  · intro w'
    go_simp
    with_reducible rfl
  rotate_left
  · simp only [Act.put, List.setIfInBounds_toArray, List.set_cons_zero, List.set_cons_succ]
    rfl
  refine join_ (σ := Value × Value) 2 #[true, true, true, true, true, true, true, false, false, true] (fun s => [(23, s.1), (27, s.2)])
    (fun s w' => (w'.cell? ⟨w.heap.size, 0, none⟩ = some (.int .i64 F) ∧ w'.cell? ⟨w.heap.size, 1, none⟩ = some (.slice (some ad) ws.length c)) ∧ (∃ b, s.2 = .slice (some ⟨b, 0, none⟩) 1 1 ∧ Kd.C k36 w' (some ⟨b, 0, none⟩) 1 [⟨0, F, 0⟩]) ∧ Kd.R k36 36 w' w5.heap.size (fun _ => True) s.1 ws ∧ Below w5.heap.size w5 w') ?_ (fun hcont => ?_)
  rotate_left
  · refine two_ (i := 2) (j := 6) (Ni := some 23) (Nj := some 27) #[true, true, true, true, true, true, false, false, false, true] #[true, true, false, true, true, true, true, false, false, true] rfl rfl rfl rfl (by kernel_rfl) (by decide) (by decide) (fun K hK => ?_) (fun K hK => ?_)
    · refine goes_ Try.func26 (by kernel_rfl) rfl #[.slice (some ad) ws.length c] (by rfl) rfl rfl (by first | (go_simp; done) | simp [Act.eval]) ?_
      refine (clone_any ad c ws w5 R5.out l2).mono ?_
      rintro e w6 ⟨v, rfl, hv, hb⟩
      have hS6 : w6.cell? ⟨w.heap.size, 0, none⟩ = some (.int .i64 F) ∧ w6.cell? ⟨w.heap.size, 1, none⟩ = some (.slice (some ad) ws.length c) := ⟨(hb.cell (p := ⟨w.heap.size, 0, none⟩) hz5).trans hHeld.1, (hb.cell (p := ⟨w.heap.size, 1, none⟩) hz5).trans hHeld.2⟩
      refine ⟨v, rfl, hK.out _ _ hS6 (fun hHeld6 => ?_)⟩
      refine one_ (i := 6) (N := some 27) #[true, true, true, true, true, true, true, false, false, true] rfl rfl (by kernel_rfl) (by decide) (fun K2 hK2 => ?_)
      refine value_ (v := .slice (some ⟨w6.heap.size, 0, none⟩) 1 1) (w1 := w6.alloc (.cells #[.int .i64 0, .int .i64 F, .int .i64 0] 36)) (by rfl) rfl (by first | (go_simp; done) | (go_simp; rfl)) ?_
      have hz6 := Nat.lt_of_lt_of_le hz5 hb.size
      have hS7 : (w6.alloc (.cells #[.int .i64 0, .int .i64 F, .int .i64 0] 36)).cell? ⟨w.heap.size, 0, none⟩ = some (.int .i64 F) ∧ (w6.alloc (.cells #[.int .i64 0, .int .i64 F, .int .i64 0] 36)).cell? ⟨w.heap.size, 1, none⟩ = some (.slice (some ad) ws.length c) := ⟨(World.cell?_alloc_lt _ _ _ hz6).trans hS6.1, (World.cell?_alloc_lt _ _ _ hz6).trans hS6.2⟩
      refine hK2.out _ _ hS7 (fun hHeld7 => ?_)
      exact hcont (v, .slice (some ⟨w6.heap.size, 0, none⟩) 1 1) _ ⟨hS7, ⟨_, rfl, lit1_C w6 ⟨0, F, 0⟩⟩, Kd.R_alloc hv _, hb.alloc hb.size _⟩
    · refine value_ (v := .slice (some ⟨w5.heap.size, 0, none⟩) 1 1) (w1 := w5.alloc (.cells #[.int .i64 0, .int .i64 F, .int .i64 0] 36)) (by rfl) rfl (by first | (go_simp; done) | (go_simp; rfl)) ?_
      have hS6 : (w5.alloc (.cells #[.int .i64 0, .int .i64 F, .int .i64 0] 36)).cell? ⟨w.heap.size, 0, none⟩ = some (.int .i64 F) ∧ (w5.alloc (.cells #[.int .i64 0, .int .i64 F, .int .i64 0] 36)).cell? ⟨w.heap.size, 1, none⟩ = some (.slice (some ad) ws.length c) := ⟨(World.cell?_alloc_lt _ _ _ hz5).trans hHeld.1, (World.cell?_alloc_lt _ _ _ hz5).trans hHeld.2⟩
      refine hK.out _ _ hS6 (fun hHeld6 => ?_)
      refine one_ (i := 2) (N := some 23) #[true, true, true, true, true, true, true, false, false, true] rfl rfl (by kernel_rfl) (by decide) (fun K2 hK2 => ?_)
      refine goes_ Try.func26 (by kernel_rfl) rfl #[.slice (some ad) ws.length c] (by rfl) rfl rfl (by first | (go_simp; done) | simp [Act.eval]) ?_
      refine (clone_any ad c ws _ (Kd.C_alloc R5.out _) l2).mono ?_
      rintro e w6 ⟨v, rfl, hv, hb⟩
      have hz6 : w.heap.size < (w5.alloc (.cells #[.int .i64 0, .int .i64 F, .int .i64 0] 36)).heap.size := by simp; omega
      have hS7 : w6.cell? ⟨w.heap.size, 0, none⟩ = some (.int .i64 F) ∧ w6.cell? ⟨w.heap.size, 1, none⟩ = some (.slice (some ad) ws.length c) := ⟨(hb.cell (p := ⟨w.heap.size, 0, none⟩) hz6).trans hS6.1, (hb.cell (p := ⟨w.heap.size, 1, none⟩) hz6).trans hS6.2⟩
      refine ⟨v, rfl, hK2.out _ _ hS7 (fun hHeld7 => ?_)⟩
      exact hcont (v, .slice (some ⟨w5.heap.size, 0, none⟩) 1 1) _ ⟨hS7, ⟨_, rfl, Kd.C_below (lit1_C w5 ⟨0, F, 0⟩) hb⟩, Kd.R_lower hv (by simp), bnext (bnew _ _) hb⟩
  rintro ⟨v, s⟩ w6 ⟨hHeld6, ⟨b, hs, hx⟩, ho, hb⟩
  simp only at hs ho
  subst hs
  refine norm_ (a' := ?_) ?_ ?_
  rotate_left
  · simp only [putAll, Act.put, List.setIfInBounds_toArray, List.set_cons_zero, List.set_cons_succ]
    rfl
  refine one_ (i := 7) (N := some 28) #[true, true, true, true, true, true, true, true, false, true] rfl rfl (by kernel_rfl) (by decide) (fun K hK => ?_)
  refine Kd.R_append_rows_step k36 (w0 := w5) w5.heap.size (by rfl) (.tmp 23) (.tmp 27) 22 36 (.agg #[(.int .i64 0), (.int .i64 0), (.int .i64 0)]) 24 rfl Try.underlying22 infoW rfl (by decide) (by omega) v ws [⟨0, F, 0⟩] (some ⟨b, 0, none⟩) 1 1 (fun _ => True) (fun _ => False) rfl rfl ho hx (fun _ _ h => h) (fun _ h => h.elim) (fun _ _ => trivial) hb hb.size (by omega) ?_
  intro v7 w7 ho7 hb7 _ _
  refine hK.out _ _ ⟨(hb7.cell (p := ⟨w.heap.size, 0, none⟩) hz5).trans hHeld.1, (hb7.cell (p := ⟨w.heap.size, 1, none⟩) hz5).trans hHeld.2⟩ (fun hHeld7 => ?_)
  obtain ⟨A7, c7, rfl⟩ := Kd.R_slice ho7
  refine norm_ (a' := ?_) ?_ ?_
  rotate_left
  · show Act.put _ (some 28) _ = _
    simp only [Act.put, List.setIfInBounds_toArray, List.set_cons_zero, List.set_cons_succ]
    rfl
  refine pure_ (i := 8) (N := some 29) (v := ?_) (a' := ?_) #[true, true, true, true, true, true, true, true, true, true] rfl rfl (by kernel_rfl) (fun _ _ _ h => h) (Or.inl ⟨by rfl, ?_⟩) ?_ ?_
  rotate_left
  · intro w'
    go_simp
    with_reducible rfl
  rotate_left
  · simp only [Act.put, List.setIfInBounds_toArray, List.set_cons_zero, List.set_cons_succ]
    rfl
  refine done_ (by kernel_rfl) ?_
  have hr7 := (Kd.R_reads' ho7).2.2
  have b7 := bnext b5 hb7
  clear ho7 hx ho
  have HR7 := Lib.hid hr7
  clear hr7
  clear hK
  go_wp2_with fail
  have f1 := G.out.f1
  have f2 := G.out.f2
  have TI := fun m => tail_in G.out m
  have hxl : ((ws ++ [(⟨0, F, 0⟩ : S36)]).length : Nat) = ws.length + 1 := by simp
  have hxi : ((ws.length : Int) + 1) = ((ws ++ [(⟨0, F, 0⟩ : S36)]).length : Nat) := by simp
  rw [hxi]
  clear hxi
  generalize hxs : ws ++ [(⟨0, F, 0⟩ : S36)] = xs at HR7 TI hxl ⊢
  have HXS := Lib.hid hxs
  clear hxs
  obtain ⟨ad7, rfl⟩ := C_some HR7.out (by omega)
  have hx33 : xs.length ≤ 33 := by omega
  clear hxl
  go_loopw [8, 9, 30] (fun v8 v9 i wr => ∃ (m : Nat) (out : List S36) (e : Int), m ≤ xs.length ∧ i = .int .i64 m ∧ v9 = .int .i64 e ∧ 0 ≤ e ∧ e ≤ 131072 ∧ out.length ≤ m ∧ Hid (out ++ gp e (xs.drop m) = gp 0 xs) ∧ Hid (Kd.R k36 36 wr w7.heap.size (fun _ => True) v8 out) ∧ Below w7.heap.size w7 wr)
    (fun _ _ i _ => xs.length - (intOf i).toNat)
  case atStart => exact ⟨0, [], 0, Nat.zero_le _, rfl, rfl, by omega, by omega, Nat.le_refl _, rfl, Kd.R_nil _ _ _ _ _, Below.refl _ _⟩
  case round =>
    obtain ⟨m, out, e, hm, rfl, rfl, he0, he1, hol, HG, HO, hB⟩ := hrel
    by_cases hlt : m < xs.length
    · obtain ⟨x0, x1, x2⟩ := at_win (Kd.C_below HR7.out hB) hlt
      have hti := TI m hlt
      have hgd := gp_drop e xs m hlt
      generalize (win xs m).f0 = a0 at x0
      generalize (win xs m).f1 = a1 at x1 hti hgd
      generalize (win xs m).f2 = a2 at x2 hti hgd
      obtain ⟨t1, t2, t3, t4⟩ := hti
      have w1 : IntKind.i64.wrap (a1 + a2) = a1 + a2 := IntWalk.i64_in _ (by omega)
      have w2 : IntKind.i64.wrap (a1 - e) = a1 - e := IntWalk.i64_in _ (by omega)
      by_cases hlt2 : e < a1
      · rw [if_pos hlt2] at hgd
        have HG2 := Lib.hid hgd
        clear hgd
        go_wp2_with ((with_reducible refine gate_builtin (b := .append) (xs := #[.tmp 38, .tmp 45]) rfl ?_); at_builtin; refine Kd.R_append k36 (w0 := w7) w7.heap.size rfl (.tmp 38) (.tmp 45) 22 36 (.agg #[(.int .i64 0), (.int .i64 0), (.int .i64 0)]) 24 rfl Try.underlying22 infoW rfl (by decide) (by omega) u8 out ⟨-2, e, a1 - e⟩ [.int .i64 (-2), .int .i64 e, .int .i64 (a1 - e)] (fun _ => True) (fun _ => False) rfl (by first | rfl | (simp [Act.eval]; done) | (go_simp; done)) (k36_mkM _ _ _ ⟨-2, e, a1 - e⟩) (fun _ h => h.elim) (fun _ _ => trivial) (Kd.R_alloc HO.out _) (hB.alloc hB.size _) (Nat.le_trans hB.size (by simp)) (by omega) ?_; intro v1 w8 ho8 hb8 hg8 hat8; have bk := blk_grown (g := wr.heap.size) (o := .cells #[.int .i64 a0, .int .i64 a1, .int .i64 a2] 36 (0, 0)) (blk_new wr _) hg8 (R_box HO.out); have u1 : w8.cell? ⟨wr.heap.size, 1, none⟩ = some (.int .i64 a1) := (blk_cell bk 1).trans rfl; have u2 : w8.cell? ⟨wr.heap.size, 2, none⟩ = some (.int .i64 a2) := (blk_cell bk 2).trans rfl; have HO8 := Lib.hid ho8; have HB8 := Lib.hid hb8; clear ho8 hb8 hg8 hat8 bk)
        go_roundw
        case rel => exact ⟨m + 1, out ++ [⟨-2, e, a1 - e⟩], a1 + a2, by omega, by go_num, rfl, by omega, by omega, by simp; omega, Lib.hid (by rw [← HG.out, HG2.out]; simp), HO8, HB8.out⟩
        case measure => simp [intOf]; omega
      · rw [if_neg hlt2] at hgd
        have HG2 := Lib.hid hgd
        clear hgd
        go_wp2
        go_roundw
        case rel => exact ⟨m + 1, out, a1 + a2, by omega, by go_num, rfl, by omega, by omega, by omega, Lib.hid (by rw [← HG.out, HG2.out]; simp), Lib.hid (Kd.R_alloc HO.out _), hB.alloc hB.size _⟩
        case measure => simp [intOf]; omega
    · obtain rfl : m = xs.length := by omega
      go_wp2
      go_ret2
      have hg := HG.out
      rw [List.drop_length] at hg
      simp only [gp, List.append_nil] at hg
      rw [HXS.out, ← hg]
      exact ⟨_, rfl, Kd.R_lower HO.out (Nat.le_of_lt (Nat.lt_of_lt_of_le hz5 hb7.size)), bnext b7 hB⟩

end Go.Proofs.Ytdajedggennljaa.PPlanAnswers
