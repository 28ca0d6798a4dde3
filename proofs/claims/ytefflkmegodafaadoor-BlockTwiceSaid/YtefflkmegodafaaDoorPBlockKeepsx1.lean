-- PRINTED BY print.sh 35421559b90ae4d0a3588c463048766b98c2df88dd9212a6774a882060cdf62d: not written by this session
import Derived.Test.YtefflkmegodafaaDoorPBlockKeepsx0
namespace Go.Proofs.YtefflkmegodafaaDoor.PBlockKeeps
open Go.RowKit Go.Proofs.YtefflkmegodafaaDoorW.PrintWords Go.Proofs.YtefflkmegodafaaDoorW.PrintLast Go.Proofs.YtefflkmegodafaaDoorW.PrintMore
attribute [local go_sem] max2_int min2_int max_two min_two max_three min_three max_four min_four   -- for this text's walks alone
set_option linter.unusedVariables false
set_option linter.unusedSimpArgs false

/-! ### typed_in: function 44 -/
def typed_in.f (a0 : ByteArray) (a1 : Int) : Option (ByteArray × Int × Bool) := some (a0, a1, true)
set_option maxHeartbeats 8000000 in
set_option maxRecDepth 100000 in
theorem typed_in.calls (a0 : ByteArray) (a1 : Int) (r1 : ByteArray) (r2 : Int) (r3 : Bool) (w : World) (h : typed_in.f a0 a1 = some (r1, r2, r3)) :
    Calls Tryd.prog 44 #[.string a0, .int .i64 a1] w fun e w' => e = .returned (.agg #[.string r1, .int .i64 r2, .bool r3]) ∧ Below w.heap.size w w' := by
  have hu60 := Tryd.underlying60
  have HB := Aside0.mk (Below.refl w.heap.size w)
  have H : (some (a0, a1, true)) = some (r1, r2, r3) := h
  clear h
  simp only [Option.some.injEq, Prod.mk.injEq] at H
  obtain ⟨rfl, rfl, rfl⟩ := H
  go_enter Tryd.func44, Tryd.ntmps44
  go_wp2_with (first | ((with_reducible refine gate_dst (N := 4) rfl ?_); refine box_event ?hg (N := 4) ?hd (cs := #[.string (⟨#[]⟩ : ByteArray), .int .i64 0, .bool false]) (t := 60) ?hr ?_; (case hd => rfl); (case hg => rfl); (case hr => first | (go_simp; done) | (go_simp; rfl)); intro gb101 hg w3 hbox hb; have n0_ := Aside0.mk (below_step (by repeat (first | (with_reducible first | exact HB.out | apply below_alloc | apply pw_below_drewN | apply below_drew1) | exact HB.out)) hb); have n1_ := Aside0.mk (hbox); have n2_ := Aside0.mk ((by rw [hg]; exact (below_size (by repeat (first | (with_reducible first | exact HB.out | apply below_alloc | apply pw_below_drewN | apply below_drew1) | exact HB.out))) : w.heap.size ≤ gb101)); have n3_ := Aside0.mk ((by rw [hg]; exact (below_size (by repeat (first | (with_reducible first | exact HB.out | apply below_alloc | apply pw_below_drewN | apply below_drew1) | exact HB.out))) : w.heap.size ≤ gb101)); clear HB; have HB := n0_; have BK101 := n1_; have GW101 := n2_; have GE101 := n3_; clear n0_ n1_ n2_ n3_; clear hb hbox hg; have hcz4_0 : w3.cell? ⟨gb101, 0, none⟩ = some (.string (⟨#[]⟩ : ByteArray)) := (blk_cell BK101.out 0).trans rfl; have hcz4_1 : w3.cell? ⟨gb101, 1, none⟩ = some (.int .i64 0) := (blk_cell BK101.out 1).trans rfl; have hcz4_2 : w3.cell? ⟨gb101, 2, none⟩ = some (.bool false) := (blk_cell BK101.out 2).trans rfl; have hfz4_0 := blk_frozen BK101.out 0; have hfz4_1 := blk_frozen BK101.out 1; have hfz4_2 := blk_frozen BK101.out 2))
  refine bodyPost_ret (results_cell_row rfl _ _ gb101 60 #[.string a0, .int .i64 a1, .bool true] (0, 0) _ rfl (by (with_reducible repeat (first | refine blk_drewN ?_ _ | refine blk_drew ?_ | refine blk_alloc ?_ _)); refine blk_put (cs := #[.string a0, .int .i64 a1, .bool false]) ?_ 2 _ rfl; (with_reducible repeat (first | refine blk_drewN ?_ _ | refine blk_drew ?_ | refine blk_alloc ?_ _)); refine blk_put (cs := #[.string a0, .int .i64 0, .bool false]) ?_ 1 _ rfl; (with_reducible repeat (first | refine blk_drewN ?_ _ | refine blk_drew ?_ | refine blk_alloc ?_ _)); refine blk_put (cs := #[.string (⟨#[]⟩ : ByteArray), .int .i64 0, .bool false]) ?_ 0 _ rfl; (with_reducible repeat (first | refine blk_drewN ?_ _ | refine blk_drew ?_ | refine blk_alloc ?_ _)); exact BK101.out) Tryd.underlying60 rfl (by kernel_rfl)) rfl ?_
  exact ⟨by first | rfl | (simp [errW_none, errW_some] <;> rfl) | (simp [*, errW_none, errW_some] <;> rfl), by repeat (first | (with_reducible first | exact HB.out | apply below_alloc | apply pw_below_drewN | apply below_drew1 | refine below_set ?_ GE101.out) | exact HB.out)⟩

/-! ### typed_out: function 45 -/
def typed_out.f (a0 : ByteArray) (a1 : Int) : Option (ByteArray × Int × Bool) := some (a0, a1, false)
set_option maxHeartbeats 8000000 in
set_option maxRecDepth 100000 in
theorem typed_out.calls (a0 : ByteArray) (a1 : Int) (r1 : ByteArray) (r2 : Int) (r3 : Bool) (w : World) (h : typed_out.f a0 a1 = some (r1, r2, r3)) :
    Calls Tryd.prog 45 #[.string a0, .int .i64 a1] w fun e w' => e = .returned (.agg #[.string r1, .int .i64 r2, .bool r3]) ∧ Below w.heap.size w w' := by
  have hu60 := Tryd.underlying60
  have HB := Aside0.mk (Below.refl w.heap.size w)
  have H : (some (a0, a1, false)) = some (r1, r2, r3) := h
  clear h
  simp only [Option.some.injEq, Prod.mk.injEq] at H
  obtain ⟨rfl, rfl, rfl⟩ := H
  go_enter Tryd.func45, Tryd.ntmps45
  go_wp2_with (first | ((with_reducible refine gate_dst (N := 4) rfl ?_); refine box_event ?hg (N := 4) ?hd (cs := #[.string (⟨#[]⟩ : ByteArray), .int .i64 0, .bool false]) (t := 60) ?hr ?_; (case hd => rfl); (case hg => rfl); (case hr => first | (go_simp; done) | (go_simp; rfl)); intro gb102 hg w3 hbox hb; have n0_ := Aside0.mk (below_step (by repeat (first | (with_reducible first | exact HB.out | apply below_alloc | apply pw_below_drewN | apply below_drew1) | exact HB.out)) hb); have n1_ := Aside0.mk (hbox); have n2_ := Aside0.mk ((by rw [hg]; exact (below_size (by repeat (first | (with_reducible first | exact HB.out | apply below_alloc | apply pw_below_drewN | apply below_drew1) | exact HB.out))) : w.heap.size ≤ gb102)); have n3_ := Aside0.mk ((by rw [hg]; exact (below_size (by repeat (first | (with_reducible first | exact HB.out | apply below_alloc | apply pw_below_drewN | apply below_drew1) | exact HB.out))) : w.heap.size ≤ gb102)); clear HB; have HB := n0_; have BK102 := n1_; have GW102 := n2_; have GE102 := n3_; clear n0_ n1_ n2_ n3_; clear hb hbox hg; have hcz4_0 : w3.cell? ⟨gb102, 0, none⟩ = some (.string (⟨#[]⟩ : ByteArray)) := (blk_cell BK102.out 0).trans rfl; have hcz4_1 : w3.cell? ⟨gb102, 1, none⟩ = some (.int .i64 0) := (blk_cell BK102.out 1).trans rfl; have hcz4_2 : w3.cell? ⟨gb102, 2, none⟩ = some (.bool false) := (blk_cell BK102.out 2).trans rfl; have hfz4_0 := blk_frozen BK102.out 0; have hfz4_1 := blk_frozen BK102.out 1; have hfz4_2 := blk_frozen BK102.out 2))
  refine bodyPost_ret (results_cell_row rfl _ _ gb102 60 #[.string a0, .int .i64 a1, .bool false] (0, 0) _ rfl (by (with_reducible repeat (first | refine blk_drewN ?_ _ | refine blk_drew ?_ | refine blk_alloc ?_ _)); refine blk_put (cs := #[.string a0, .int .i64 a1, .bool false]) ?_ 2 _ rfl; (with_reducible repeat (first | refine blk_drewN ?_ _ | refine blk_drew ?_ | refine blk_alloc ?_ _)); refine blk_put (cs := #[.string a0, .int .i64 0, .bool false]) ?_ 1 _ rfl; (with_reducible repeat (first | refine blk_drewN ?_ _ | refine blk_drew ?_ | refine blk_alloc ?_ _)); refine blk_put (cs := #[.string (⟨#[]⟩ : ByteArray), .int .i64 0, .bool false]) ?_ 0 _ rfl; (with_reducible repeat (first | refine blk_drewN ?_ _ | refine blk_drew ?_ | refine blk_alloc ?_ _)); exact BK102.out) Tryd.underlying60 rfl (by kernel_rfl)) rfl ?_
  exact ⟨by first | rfl | (simp [errW_none, errW_some] <;> rfl) | (simp [*, errW_none, errW_some] <;> rfl), by repeat (first | (with_reducible first | exact HB.out | apply below_alloc | apply pw_below_drewN | apply below_drew1 | refine below_set ?_ GE102.out) | exact HB.out)⟩

/-! ### typed_Fields: function 27 -/
mutual
def typed_Fields.j0 : Nat → Int → Bool → Option ((List (S60)) × Int)
  | 0, _, _ => none
  | k + 1, x4, x5 => if x5 = true then ((typed_in.f (⟨#[73, 78]⟩ : ByteArray) 1).bind fun bt103 => ((typed_in.f (⟨#[80, 84]⟩ : ByteArray) 4).bind fun bt106 => ((typed_out.f (⟨#[81]⟩ : ByteArray) 1).bind fun bt109 => ((typed_out.f (⟨#[69, 84]⟩ : ByteArray) 4).bind fun bt112 => ((typed_out.f (⟨#[83, 84, 65, 82, 84]⟩ : ByteArray) 4).bind fun bt115 => ((typed_out.f (⟨#[82, 85, 78]⟩ : ByteArray) 1).bind fun bt118 => (some ((([(⟨bt103.1, bt103.2.1, bt103.2.2⟩ : S60), (⟨bt106.1, bt106.2.1, bt106.2.2⟩ : S60), (⟨bt109.1, bt109.2.1, bt109.2.2⟩ : S60), (⟨bt112.1, bt112.2.1, bt112.2.2⟩ : S60), (⟨bt115.1, bt115.2.1, bt115.2.2⟩ : S60), (⟨bt118.1, bt118.2.1, bt118.2.2⟩ : S60)] : List (S60))), 0)))))))) else (if x4 = 4 then ((typed_in.f (⟨#[67, 85]⟩ : ByteArray) 1).bind fun bt124 => ((typed_in.f (⟨#[82]⟩ : ByteArray) 1).bind fun bt127 => ((typed_in.f (⟨#[80, 86]⟩ : ByteArray) 2).bind fun bt130 => ((typed_out.f (⟨#[81]⟩ : ByteArray) 1).bind fun bt133 => ((typed_out.f (⟨#[67, 86]⟩ : ByteArray) 2).bind fun bt136 => ((typed_out.f (⟨#[77]⟩ : ByteArray) 1).bind fun bt139 => (some ((([(⟨bt124.1, bt124.2.1, bt124.2.2⟩ : S60), (⟨bt127.1, bt127.2.1, bt127.2.2⟩ : S60), (⟨bt130.1, bt130.2.1, bt130.2.2⟩ : S60), (⟨bt133.1, bt133.2.1, bt133.2.2⟩ : S60), (⟨bt136.1, bt136.2.1, bt136.2.2⟩ : S60), (⟨bt139.1, bt139.2.1, bt139.2.2⟩ : S60)] : List (S60))), 0)))))))) else (if x4 = 5 then ((typed_in.f (⟨#[67, 68]⟩ : ByteArray) 1).bind fun bt145 => ((typed_in.f (⟨#[76, 68]⟩ : ByteArray) 1).bind fun bt148 => ((typed_in.f (⟨#[80, 86]⟩ : ByteArray) 2).bind fun bt151 => ((typed_out.f (⟨#[81]⟩ : ByteArray) 1).bind fun bt154 => ((typed_out.f (⟨#[67, 86]⟩ : ByteArray) 2).bind fun bt157 => ((typed_out.f (⟨#[77]⟩ : ByteArray) 1).bind fun bt160 => (some ((([(⟨bt145.1, bt145.2.1, bt145.2.2⟩ : S60), (⟨bt148.1, bt148.2.1, bt148.2.2⟩ : S60), (⟨bt151.1, bt151.2.1, bt151.2.2⟩ : S60), (⟨bt154.1, bt154.2.1, bt154.2.2⟩ : S60), (⟨bt157.1, bt157.2.1, bt157.2.2⟩ : S60), (⟨bt160.1, bt160.2.1, bt160.2.2⟩ : S60)] : List (S60))), 0)))))))) else (if x4 = 6 then (typed_Fields.j1 k x4 (x4 == 6)) else (typed_Fields.j1 k x4 (x4 == 7)))))
def typed_Fields.j1 : Nat → Int → Bool → Option ((List (S60)) × Int)
  | 0, _, _ => none
  | k + 1, x4, x34 => if x34 = true then ((typed_in.f (⟨#[67, 76, 75]⟩ : ByteArray) 1).bind fun bt166 => ((typed_out.f (⟨#[81]⟩ : ByteArray) 1).bind fun bt169 => ((typed_out.f (⟨#[77]⟩ : ByteArray) 1).bind fun bt172 => (some ((([(⟨bt166.1, bt166.2.1, bt166.2.2⟩ : S60), (⟨bt169.1, bt169.2.1, bt169.2.2⟩ : S60), (⟨bt172.1, bt172.2.1, bt172.2.2⟩ : S60)] : List (S60))), 0))))) else (if x4 = 8 then ((typed_in.f (⟨#[83, 49]⟩ : ByteArray) 1).bind fun bt178 => ((typed_in.f (⟨#[82]⟩ : ByteArray) 1).bind fun bt181 => ((typed_out.f (⟨#[81, 49]⟩ : ByteArray) 1).bind fun bt184 => (some ((([(⟨bt178.1, bt178.2.1, bt178.2.2⟩ : S60), (⟨bt181.1, bt181.2.1, bt181.2.2⟩ : S60), (⟨bt184.1, bt184.2.1, bt184.2.2⟩ : S60)] : List (S60))), 0))))) else (if x4 = 9 then ((typed_in.f (⟨#[83]⟩ : ByteArray) 1).bind fun bt190 => ((typed_in.f (⟨#[82, 49]⟩ : ByteArray) 1).bind fun bt193 => ((typed_out.f (⟨#[81, 49]⟩ : ByteArray) 1).bind fun bt196 => (some ((([(⟨bt190.1, bt190.2.1, bt190.2.2⟩ : S60), (⟨bt193.1, bt193.2.1, bt193.2.2⟩ : S60), (⟨bt196.1, bt196.2.1, bt196.2.2⟩ : S60)] : List (S60))), 0))))) else (if x4 = 10 then ((typed_in.f (⟨#[65]⟩ : ByteArray) 1).bind fun bt202 => ((typed_in.f (⟨#[66]⟩ : ByteArray) 1).bind fun bt205 => ((typed_in.f (⟨#[82]⟩ : ByteArray) 1).bind fun bt208 => ((typed_out.f (⟨#[67, 86]⟩ : ByteArray) 3).bind fun bt211 => ((typed_out.f (⟨#[69, 82, 82]⟩ : ByteArray) 1).bind fun bt214 => ((typed_out.f (⟨#[76, 65, 83, 84]⟩ : ByteArray) 2).bind fun bt217 => (some ((([(⟨bt202.1, bt202.2.1, bt202.2.2⟩ : S60), (⟨bt205.1, bt205.2.1, bt205.2.2⟩ : S60), (⟨bt208.1, bt208.2.1, bt208.2.2⟩ : S60), (⟨bt211.1, bt211.2.1, bt211.2.2⟩ : S60), (⟨bt214.1, bt214.2.1, bt214.2.2⟩ : S60), (⟨bt217.1, bt217.2.1, bt217.2.2⟩ : S60)] : List (S60))), 0)))))))) else (some (([] : List (S60)), 92)))))
end
def typed_Fields.f (k : Nat) (a0 : Int) : Option ((List (S60)) × Int) := if a0 = 1 then (typed_Fields.j0 k a0 (a0 == 1)) else (if a0 = 2 then (typed_Fields.j0 k a0 (a0 == 2)) else (typed_Fields.j0 k a0 (a0 == 3)))
theorem typed_Fields.mono_l : ∀ k, (∀ y0 y1, LeO (typed_Fields.j0 k y0 y1) (typed_Fields.j0 (k + 1) y0 y1)) ∧ (∀ y0 y1, LeO (typed_Fields.j1 k y0 y1) (typed_Fields.j1 (k + 1) y0 y1))
  | 0 => ⟨fun _ _ r h => by simp [typed_Fields.j0] at h, fun _ _ r h => by simp [typed_Fields.j1] at h⟩
  | k + 1 => by
    obtain ⟨ih0, ih1⟩ := typed_Fields.mono_l k
    refine ⟨?_, ?_⟩
    · intro y0 y1
      unfold typed_Fields.j0
      repeat' first
      | (with_reducible exact ih0 _ _)
      | (with_reducible exact ih1 _ _)
      | (with_reducible exact LeO.refl _)
      | (with_reducible exact LeO.none _)
      | (with_reducible refine LeO.ite ?_ ?_)
      | (with_reducible refine LeO.bind ?_ (fun _ => ?_))
      | exact ih0 _ _
      | exact ih1 _ _
      | exact LeO.none _
      | refine LeO.ite ?_ ?_
      | refine LeO.bind ?_ (fun _ => ?_)
    · intro y0 y1
      unfold typed_Fields.j1
      repeat' first
      | (with_reducible exact ih0 _ _)
      | (with_reducible exact ih1 _ _)
      | (with_reducible exact LeO.refl _)
      | (with_reducible exact LeO.none _)
      | (with_reducible refine LeO.ite ?_ ?_)
      | (with_reducible refine LeO.bind ?_ (fun _ => ?_))
      | exact ih0 _ _
      | exact ih1 _ _
      | exact LeO.none _
      | refine LeO.ite ?_ ?_
      | refine LeO.bind ?_ (fun _ => ?_)
theorem typed_Fields.mono : ∀ a0 k, LeO (typed_Fields.f k a0) (typed_Fields.f (k + 1) a0) := by
  intro a0 k
  obtain ⟨ih0, ih1⟩ := typed_Fields.mono_l k
  unfold typed_Fields.f
  repeat' first
      | (with_reducible exact ih0 _ _)
      | (with_reducible exact ih1 _ _)
      | (with_reducible exact LeO.refl _)
      | (with_reducible exact LeO.none _)
      | (with_reducible refine LeO.ite ?_ ?_)
      | (with_reducible refine LeO.bind ?_ (fun _ => ?_))
      | exact ih0 _ _
      | exact ih1 _ _
      | exact LeO.none _
      | refine LeO.ite ?_ ?_
      | refine LeO.bind ?_ (fun _ => ?_)
set_option maxHeartbeats 8000000 in
set_option maxRecDepth 100000 in
theorem typed_Fields.calls (k : Nat) (a0 : Int) (r1 : List (S60)) (r2 : Int) (w : World) (h : typed_Fields.f k a0 = some (r1, r2)) :
    Calls Tryd.prog 27 #[.int .i64 a0] w fun e w' => ∃ v0_ : Value, e = .returned (.tuple #[v0_, .int .i64 r2]) ∧ Kd.R k60 60 w' w.heap.size (fun _ => True) v0_ r1 ∧ Below w.heap.size w w' := by
  have HB := Aside0.mk (Below.refl w.heap.size w)
  have H : (if a0 = 1 then (typed_Fields.j0 k a0 (a0 == 1)) else (if a0 = 2 then (typed_Fields.j0 k a0 (a0 == 2)) else (typed_Fields.j0 k a0 (a0 == 3)))) = some (r1, r2) := h
  clear h
  have HC2 := Aside0.mk H
  clear H
  go_enter Tryd.func27, Tryd.ntmps27
  go_upto_if 5 with (fail)
  go_cut [5] (fun v5 wc => ∃ (kq : Nat) (x5_1 : Bool), v5 = .bool x5_1 ∧ Aside0 (typed_Fields.j0 kq a0 x5_1 = some (r1, r2)) ∧ Aside0 (kq ≤ k) ∧ Aside0 (Below w.heap.size w wc))
  case first =>
    have H := HC2.out
    clear HC2
    by_cases c3 : a0 = 1
    · rw [if_pos c3] at H
      have c3b0 : (a0 == 1) = true := beq_iff_eq.mpr c3
      have c3b1 : (a0 != 1) = false := bne_eq_false_iff_eq.mpr c3
      clear c3
      (first | rw [c3b0] | (simp only [i64_w, i32_w]; rw [c3b0]) | skip)
      have H' := Aside0.mk H
      clear H
      go_wp2
      go_meet
      case rel => exact ⟨_, ((a0 == 1)), (by first | rfl | (simp; done) | (simp [*]; done)), H', ⟨by first | omega | exact Nat.le_refl _⟩, ⟨by repeat (first | (with_reducible first | exact HB.out | apply below_alloc | apply pw_below_drewN | apply below_drew1) | exact HB.out)⟩⟩
    · rw [if_neg c3] at H
      have c3b0 : (a0 == 1) = false := beq_eq_false_iff_ne.mpr c3
      have c3b1 : (a0 != 1) = true := bne_iff_ne.mpr c3
      (first | rw [c3b0] | (simp only [i64_w, i32_w]; rw [c3b0]) | skip)
      by_cases c4 : a0 = 2
      · rw [if_pos c4] at H
        have c4b0 : (a0 == 2) = true := beq_iff_eq.mpr c4
        have c4b1 : (a0 != 2) = false := bne_eq_false_iff_eq.mpr c4
        clear c4
        have H' := Aside0.mk H
        clear H
        go_wp2
        go_meet
        case rel => exact ⟨_, ((a0 == 2)), (by first | rfl | (simp; done) | (simp [*]; done)), H', ⟨by first | omega | exact Nat.le_refl _⟩, ⟨by repeat (first | (with_reducible first | exact HB.out | apply below_alloc | apply pw_below_drewN | apply below_drew1) | exact HB.out)⟩⟩
      · rw [if_neg c4] at H
        have c4b0 : (a0 == 2) = false := beq_eq_false_iff_ne.mpr c4
        have c4b1 : (a0 != 2) = true := bne_iff_ne.mpr c4
        have H' := Aside0.mk H
        clear H
        go_wp2
        go_meet
        case rel => exact ⟨_, ((a0 == 3)), (by first | rfl | (simp; done) | (simp [*]; done)), H', ⟨by first | omega | exact Nat.le_refl _⟩, ⟨by repeat (first | (with_reducible first | exact HB.out | apply below_alloc | apply pw_below_drewN | apply below_drew1) | exact HB.out)⟩⟩
  case rest =>
    clear HC2
    try clear c2
    try clear p2
    try clear c3
    try clear c3b0
    try clear c3b1
    try clear c4
    try clear c4b0
    try clear c4b1
    obtain ⟨kq, x5_1, rfl, HA, HJ1, HB⟩ := hcut
    cases kq with
    | zero => exact absurd HA.out (by simp [typed_Fields.j0])
    | succ kj1 =>
      have H := HA.out
      clear HA
      simp only [typed_Fields.j0] at H
      by_cases c5 : x5_1 = true
      · subst c5
        have H1 : ((typed_in.f (⟨#[73, 78]⟩ : ByteArray) 1).bind fun bt103 => ((typed_in.f (⟨#[80, 84]⟩ : ByteArray) 4).bind fun bt106 => ((typed_out.f (⟨#[81]⟩ : ByteArray) 1).bind fun bt109 => ((typed_out.f (⟨#[69, 84]⟩ : ByteArray) 4).bind fun bt112 => ((typed_out.f (⟨#[83, 84, 65, 82, 84]⟩ : ByteArray) 4).bind fun bt115 => ((typed_out.f (⟨#[82, 85, 78]⟩ : ByteArray) 1).bind fun bt118 => (some ((([(⟨bt103.1, bt103.2.1, bt103.2.2⟩ : S60), (⟨bt106.1, bt106.2.1, bt106.2.2⟩ : S60), (⟨bt109.1, bt109.2.1, bt109.2.2⟩ : S60), (⟨bt112.1, bt112.2.1, bt112.2.2⟩ : S60), (⟨bt115.1, bt115.2.1, bt115.2.2⟩ : S60), (⟨bt118.1, bt118.2.1, bt118.2.2⟩ : S60)] : List (S60))), 0)))))))) = some (r1, r2) := by rw [if_pos rfl] at H; exact H
        clear H
        have H := H1
        clear H1
        replace H := Option.bind_eq_some_iff.mp H
        obtain ⟨⟨t103, t104, t105⟩, A60, H⟩ := H
        replace H : ((typed_in.f (⟨#[80, 84]⟩ : ByteArray) 4).bind fun bt106 => ((typed_out.f (⟨#[81]⟩ : ByteArray) 1).bind fun bt109 => ((typed_out.f (⟨#[69, 84]⟩ : ByteArray) 4).bind fun bt112 => ((typed_out.f (⟨#[83, 84, 65, 82, 84]⟩ : ByteArray) 4).bind fun bt115 => ((typed_out.f (⟨#[82, 85, 78]⟩ : ByteArray) 1).bind fun bt118 => (some ((([(⟨t103, t104, t105⟩ : S60), (⟨bt106.1, bt106.2.1, bt106.2.2⟩ : S60), (⟨bt109.1, bt109.2.1, bt109.2.2⟩ : S60), (⟨bt112.1, bt112.2.1, bt112.2.2⟩ : S60), (⟨bt115.1, bt115.2.1, bt115.2.2⟩ : S60), (⟨bt118.1, bt118.2.1, bt118.2.2⟩ : S60)] : List (S60))), 0))))))) = some (r1, r2) := H
        have A6 := Aside0.mk A60
        clear A60
        replace H := Option.bind_eq_some_iff.mp H
        obtain ⟨⟨t106, t107, t108⟩, A70, H⟩ := H
        replace H : ((typed_out.f (⟨#[81]⟩ : ByteArray) 1).bind fun bt109 => ((typed_out.f (⟨#[69, 84]⟩ : ByteArray) 4).bind fun bt112 => ((typed_out.f (⟨#[83, 84, 65, 82, 84]⟩ : ByteArray) 4).bind fun bt115 => ((typed_out.f (⟨#[82, 85, 78]⟩ : ByteArray) 1).bind fun bt118 => (some ((([(⟨t103, t104, t105⟩ : S60), (⟨t106, t107, t108⟩ : S60), (⟨bt109.1, bt109.2.1, bt109.2.2⟩ : S60), (⟨bt112.1, bt112.2.1, bt112.2.2⟩ : S60), (⟨bt115.1, bt115.2.1, bt115.2.2⟩ : S60), (⟨bt118.1, bt118.2.1, bt118.2.2⟩ : S60)] : List (S60))), 0)))))) = some (r1, r2) := H
        have A7 := Aside0.mk A70
        clear A70
        replace H := Option.bind_eq_some_iff.mp H
        obtain ⟨⟨t109, t110, t111⟩, A80, H⟩ := H
        replace H : ((typed_out.f (⟨#[69, 84]⟩ : ByteArray) 4).bind fun bt112 => ((typed_out.f (⟨#[83, 84, 65, 82, 84]⟩ : ByteArray) 4).bind fun bt115 => ((typed_out.f (⟨#[82, 85, 78]⟩ : ByteArray) 1).bind fun bt118 => (some ((([(⟨t103, t104, t105⟩ : S60), (⟨t106, t107, t108⟩ : S60), (⟨t109, t110, t111⟩ : S60), (⟨bt112.1, bt112.2.1, bt112.2.2⟩ : S60), (⟨bt115.1, bt115.2.1, bt115.2.2⟩ : S60), (⟨bt118.1, bt118.2.1, bt118.2.2⟩ : S60)] : List (S60))), 0))))) = some (r1, r2) := H
        have A8 := Aside0.mk A80
        clear A80
        replace H := Option.bind_eq_some_iff.mp H
        obtain ⟨⟨t112, t113, t114⟩, A90, H⟩ := H
        replace H : ((typed_out.f (⟨#[83, 84, 65, 82, 84]⟩ : ByteArray) 4).bind fun bt115 => ((typed_out.f (⟨#[82, 85, 78]⟩ : ByteArray) 1).bind fun bt118 => (some ((([(⟨t103, t104, t105⟩ : S60), (⟨t106, t107, t108⟩ : S60), (⟨t109, t110, t111⟩ : S60), (⟨t112, t113, t114⟩ : S60), (⟨bt115.1, bt115.2.1, bt115.2.2⟩ : S60), (⟨bt118.1, bt118.2.1, bt118.2.2⟩ : S60)] : List (S60))), 0)))) = some (r1, r2) := H
        have A9 := Aside0.mk A90
        clear A90
        replace H := Option.bind_eq_some_iff.mp H
        obtain ⟨⟨t115, t116, t117⟩, A100, H⟩ := H
        replace H : ((typed_out.f (⟨#[82, 85, 78]⟩ : ByteArray) 1).bind fun bt118 => (some ((([(⟨t103, t104, t105⟩ : S60), (⟨t106, t107, t108⟩ : S60), (⟨t109, t110, t111⟩ : S60), (⟨t112, t113, t114⟩ : S60), (⟨t115, t116, t117⟩ : S60), (⟨bt118.1, bt118.2.1, bt118.2.2⟩ : S60)] : List (S60))), 0))) = some (r1, r2) := H
        have A10 := Aside0.mk A100
        clear A100
        replace H := Option.bind_eq_some_iff.mp H
        obtain ⟨⟨t118, t119, t120⟩, A110, H⟩ := H
        replace H : (some ((([(⟨t103, t104, t105⟩ : S60), (⟨t106, t107, t108⟩ : S60), (⟨t109, t110, t111⟩ : S60), (⟨t112, t113, t114⟩ : S60), (⟨t115, t116, t117⟩ : S60), (⟨t118, t119, t120⟩ : S60)] : List (S60))), 0)) = some (r1, r2) := H
        have A11 := Aside0.mk A110
        clear A110
        obtain ⟨y121, hy121⟩ : ∃ y_ : List (S60), y_ = (([(⟨t103, t104, t105⟩ : S60), (⟨t106, t107, t108⟩ : S60), (⟨t109, t110, t111⟩ : S60), (⟨t112, t113, t114⟩ : S60), (⟨t115, t116, t117⟩ : S60), (⟨t118, t119, t120⟩ : S60)] : List (S60))) := ⟨_, rfl⟩
        replace H : (some (y121, 0)) = some (r1, r2) := by first | (rw [hy121]; with_reducible exact H) | (have H2_ := (Option.bind_some _ _).symm.trans H; rw [hy121]; with_reducible exact H2_) | (have H2_ := (Option.bind_some _ _).symm.trans H; with_reducible exact H2_) | with_reducible exact H | (rw [hy121]; exact H) | exact H
        have Ny121 := Aside0.mk hy121
        clear hy121
        simp only [Option.some.injEq, Prod.mk.injEq] at H
        obtain ⟨rfl, rfl⟩ := H
        go_wp2_with (first | ((with_reducible refine gate_callee (f := 44) rfl ?_); refine goesL_ (some 9) rfl rfl Tryd.func44 (by kernel_rfl) rfl #[.string (⟨#[73, 78]⟩ : ByteArray), .int .i64 1] rfl (by (try simp only [List.map_toArray, List.map_cons, List.map_nil]); first | done | rfl | (simp only [List.length_drop, List.length_take]; rfl)) ?_; (with_reducible refine (typed_in.calls (⟨#[73, 78]⟩ : ByteArray) 1 t103 t104 t105 _ A6.out).mono ?_); rintro e w12 ⟨rfl, hb⟩; refine ⟨_, rfl, ?_⟩; have n0_ := Aside0.mk (below_step (by repeat (first | (with_reducible first | exact HB.out | apply below_alloc | apply pw_below_drewN | apply below_drew1) | exact HB.out)) hb); clear HB; have HB := n0_; clear n0_; (try clear hb); (try clear hb2); (try clear hk); (try clear hi)) | ((with_reducible refine gate_callee (f := 44) rfl ?_); refine goesL_ (some 10) rfl rfl Tryd.func44 (by kernel_rfl) rfl #[.string (⟨#[80, 84]⟩ : ByteArray), .int .i64 4] rfl (by (try simp only [List.map_toArray, List.map_cons, List.map_nil]); first | done | rfl | (simp only [List.length_drop, List.length_take]; rfl)) ?_; (with_reducible refine (typed_in.calls (⟨#[80, 84]⟩ : ByteArray) 4 t106 t107 t108 _ A7.out).mono ?_); rintro e w13 ⟨rfl, hb⟩; refine ⟨_, rfl, ?_⟩; have n0_ := Aside0.mk (below_step (by repeat (first | (with_reducible first | exact HB.out | apply below_alloc | apply pw_below_drewN | apply below_drew1) | exact HB.out)) hb); clear HB; have HB := n0_; clear n0_; (try clear hb); (try clear hb2); (try clear hk); (try clear hi)) | ((with_reducible refine gate_callee (f := 45) rfl ?_); refine goesL_ (some 11) rfl rfl Tryd.func45 (by kernel_rfl) rfl #[.string (⟨#[81]⟩ : ByteArray), .int .i64 1] rfl (by (try simp only [List.map_toArray, List.map_cons, List.map_nil]); first | done | rfl | (simp only [List.length_drop, List.length_take]; rfl)) ?_; (with_reducible refine (typed_out.calls (⟨#[81]⟩ : ByteArray) 1 t109 t110 t111 _ A8.out).mono ?_); rintro e w14 ⟨rfl, hb⟩; refine ⟨_, rfl, ?_⟩; have n0_ := Aside0.mk (below_step (by repeat (first | (with_reducible first | exact HB.out | apply below_alloc | apply pw_below_drewN | apply below_drew1) | exact HB.out)) hb); clear HB; have HB := n0_; clear n0_; (try clear hb); (try clear hb2); (try clear hk); (try clear hi)) | ((with_reducible refine gate_callee (f := 45) rfl ?_); refine goesL_ (some 12) rfl rfl Tryd.func45 (by kernel_rfl) rfl #[.string (⟨#[69, 84]⟩ : ByteArray), .int .i64 4] rfl (by (try simp only [List.map_toArray, List.map_cons, List.map_nil]); first | done | rfl | (simp only [List.length_drop, List.length_take]; rfl)) ?_; (with_reducible refine (typed_out.calls (⟨#[69, 84]⟩ : ByteArray) 4 t112 t113 t114 _ A9.out).mono ?_); rintro e w15 ⟨rfl, hb⟩; refine ⟨_, rfl, ?_⟩; have n0_ := Aside0.mk (below_step (by repeat (first | (with_reducible first | exact HB.out | apply below_alloc | apply pw_below_drewN | apply below_drew1) | exact HB.out)) hb); clear HB; have HB := n0_; clear n0_; (try clear hb); (try clear hb2); (try clear hk); (try clear hi)) | ((with_reducible refine gate_callee (f := 45) rfl ?_); refine goesL_ (some 13) rfl rfl Tryd.func45 (by kernel_rfl) rfl #[.string (⟨#[83, 84, 65, 82, 84]⟩ : ByteArray), .int .i64 4] rfl (by (try simp only [List.map_toArray, List.map_cons, List.map_nil]); first | done | rfl | (simp only [List.length_drop, List.length_take]; rfl)) ?_; (with_reducible refine (typed_out.calls (⟨#[83, 84, 65, 82, 84]⟩ : ByteArray) 4 t115 t116 t117 _ A10.out).mono ?_); rintro e w16 ⟨rfl, hb⟩; refine ⟨_, rfl, ?_⟩; have n0_ := Aside0.mk (below_step (by repeat (first | (with_reducible first | exact HB.out | apply below_alloc | apply pw_below_drewN | apply below_drew1) | exact HB.out)) hb); clear HB; have HB := n0_; clear n0_; (try clear hb); (try clear hb2); (try clear hk); (try clear hi)) | ((with_reducible refine gate_callee (f := 45) rfl ?_); refine goesL_ (some 14) rfl rfl Tryd.func45 (by kernel_rfl) rfl #[.string (⟨#[82, 85, 78]⟩ : ByteArray), .int .i64 1] rfl (by (try simp only [List.map_toArray, List.map_cons, List.map_nil]); first | done | rfl | (simp only [List.length_drop, List.length_take]; rfl)) ?_; (with_reducible refine (typed_out.calls (⟨#[82, 85, 78]⟩ : ByteArray) 1 t118 t119 t120 _ A11.out).mono ?_); rintro e w17 ⟨rfl, hb⟩; refine ⟨_, rfl, ?_⟩; have n0_ := Aside0.mk (below_step (by repeat (first | (with_reducible first | exact HB.out | apply below_alloc | apply pw_below_drewN | apply below_drew1) | exact HB.out)) hb); clear HB; have HB := n0_; clear n0_; (try clear hb); (try clear hb2); (try clear hk); (try clear hi)) | ((with_reducible refine gate_dst (N := 15) rfl ?_); refine Kd.R_lit k60 _ 60 ?hg (N := 15) ?hd (xs := ([(⟨t103, t104, t105⟩ : S60), (⟨t106, t107, t108⟩ : S60), (⟨t109, t110, t111⟩ : S60), (⟨t112, t113, t114⟩ : S60), (⟨t115, t116, t117⟩ : S60), (⟨t118, t119, t120⟩ : S60)] : List (S60))) (inner := [.string t103, .int .i64 t104, .bool t105, .string t106, .int .i64 t107, .bool t108, .string t109, .int .i64 t110, .bool t111, .string t112, .int .i64 t113, .bool t114, .string t115, .int .i64 t116, .bool t117, .string t118, .int .i64 t119, .bool t120]) (ok := fun _ => True) (okp := fun _ => True) ?hr ?hp (fun _ hk => hk) trivial (Below.refl _ _) (Nat.le_refl _) (by simp) ?_; (case hd => rfl); (case hg => rfl); (case hr => first | (go_simp; done) | (go_simp; rfl)); (case hp => exact (Reps.c3 (show Kd.M k60 _ _ _ (⟨t103, t104, t105⟩ : S60) [.string t103, .int .i64 t104, .bool t105] from (k60_mkM _ _ _ (⟨t103, t104, t105⟩ : S60) )) (Reps.c3 (show Kd.M k60 _ _ _ (⟨t106, t107, t108⟩ : S60) [.string t106, .int .i64 t107, .bool t108] from (k60_mkM _ _ _ (⟨t106, t107, t108⟩ : S60) )) (Reps.c3 (show Kd.M k60 _ _ _ (⟨t109, t110, t111⟩ : S60) [.string t109, .int .i64 t110, .bool t111] from (k60_mkM _ _ _ (⟨t109, t110, t111⟩ : S60) )) (Reps.c3 (show Kd.M k60 _ _ _ (⟨t112, t113, t114⟩ : S60) [.string t112, .int .i64 t113, .bool t114] from (k60_mkM _ _ _ (⟨t112, t113, t114⟩ : S60) )) (Reps.c3 (show Kd.M k60 _ _ _ (⟨t115, t116, t117⟩ : S60) [.string t115, .int .i64 t116, .bool t117] from (k60_mkM _ _ _ (⟨t115, t116, t117⟩ : S60) )) (Reps.c3 (show Kd.M k60 _ _ _ (⟨t118, t119, t120⟩ : S60) [.string t118, .int .i64 t119, .bool t120] from (k60_mkM _ _ _ (⟨t118, t119, t120⟩ : S60) )) (Reps.none _ _)))))))); intro v122 w18 ho19 hb hg_ hnew_; clear hg_ hnew_; (first | rw [← Ny121.out] at ho19 | (simp only [Int.reduceToNat] at ho19; rw [← Ny121.out] at ho19)); have n0_ := Aside0.mk (Kd.R_lower ho19 (below_size (by repeat (first | (with_reducible first | exact HB.out | apply below_alloc | apply pw_below_drewN | apply below_drew1) | exact HB.out)))); have n1_ := Aside0.mk (below_step (by repeat (first | (with_reducible first | exact HB.out | apply below_alloc | apply pw_below_drewN | apply below_drew1) | exact HB.out)) hb); clear HB; have HO123 := n0_; have HB := n1_; clear n0_ n1_; clear hb ho19))
        go_ret2
        exact ⟨_, by first | rfl | (simp [errW_none, errW_some] <;> rfl) | (simp [*, errW_none, errW_some] <;> rfl), by (with_reducible repeat (first | apply Kd.R_alloc | apply Kd.R_drewN | apply Kd.R_drew)); exact HO123.out, by repeat (first | (with_reducible first | exact HB.out | apply below_alloc | apply pw_below_drewN | apply below_drew1) | exact HB.out)⟩
      · replace c5 := Bool.eq_false_iff.mpr c5
        subst c5
        have H1 : (if a0 = 4 then ((typed_in.f (⟨#[67, 85]⟩ : ByteArray) 1).bind fun bt124 => ((typed_in.f (⟨#[82]⟩ : ByteArray) 1).bind fun bt127 => ((typed_in.f (⟨#[80, 86]⟩ : ByteArray) 2).bind fun bt130 => ((typed_out.f (⟨#[81]⟩ : ByteArray) 1).bind fun bt133 => ((typed_out.f (⟨#[67, 86]⟩ : ByteArray) 2).bind fun bt136 => ((typed_out.f (⟨#[77]⟩ : ByteArray) 1).bind fun bt139 => (some ((([(⟨bt124.1, bt124.2.1, bt124.2.2⟩ : S60), (⟨bt127.1, bt127.2.1, bt127.2.2⟩ : S60), (⟨bt130.1, bt130.2.1, bt130.2.2⟩ : S60), (⟨bt133.1, bt133.2.1, bt133.2.2⟩ : S60), (⟨bt136.1, bt136.2.1, bt136.2.2⟩ : S60), (⟨bt139.1, bt139.2.1, bt139.2.2⟩ : S60)] : List (S60))), 0)))))))) else (if a0 = 5 then ((typed_in.f (⟨#[67, 68]⟩ : ByteArray) 1).bind fun bt145 => ((typed_in.f (⟨#[76, 68]⟩ : ByteArray) 1).bind fun bt148 => ((typed_in.f (⟨#[80, 86]⟩ : ByteArray) 2).bind fun bt151 => ((typed_out.f (⟨#[81]⟩ : ByteArray) 1).bind fun bt154 => ((typed_out.f (⟨#[67, 86]⟩ : ByteArray) 2).bind fun bt157 => ((typed_out.f (⟨#[77]⟩ : ByteArray) 1).bind fun bt160 => (some ((([(⟨bt145.1, bt145.2.1, bt145.2.2⟩ : S60), (⟨bt148.1, bt148.2.1, bt148.2.2⟩ : S60), (⟨bt151.1, bt151.2.1, bt151.2.2⟩ : S60), (⟨bt154.1, bt154.2.1, bt154.2.2⟩ : S60), (⟨bt157.1, bt157.2.1, bt157.2.2⟩ : S60), (⟨bt160.1, bt160.2.1, bt160.2.2⟩ : S60)] : List (S60))), 0)))))))) else (if a0 = 6 then (typed_Fields.j1 kj1 a0 (a0 == 6)) else (typed_Fields.j1 kj1 a0 (a0 == 7))))) = some (r1, r2) := by rw [if_neg (show ¬ (false = true) by decide)] at H; exact H
        clear H
        have H := H1
        clear H1
        by_cases c20 : a0 = 4
        · rw [if_pos c20] at H
          have c20b0 : (a0 == 4) = true := beq_iff_eq.mpr c20
          have c20b1 : (a0 != 4) = false := bne_eq_false_iff_eq.mpr c20
          clear c20
          replace H := Option.bind_eq_some_iff.mp H
          obtain ⟨⟨t124, t125, t126⟩, A210, H⟩ := H
          replace H : ((typed_in.f (⟨#[82]⟩ : ByteArray) 1).bind fun bt127 => ((typed_in.f (⟨#[80, 86]⟩ : ByteArray) 2).bind fun bt130 => ((typed_out.f (⟨#[81]⟩ : ByteArray) 1).bind fun bt133 => ((typed_out.f (⟨#[67, 86]⟩ : ByteArray) 2).bind fun bt136 => ((typed_out.f (⟨#[77]⟩ : ByteArray) 1).bind fun bt139 => (some ((([(⟨t124, t125, t126⟩ : S60), (⟨bt127.1, bt127.2.1, bt127.2.2⟩ : S60), (⟨bt130.1, bt130.2.1, bt130.2.2⟩ : S60), (⟨bt133.1, bt133.2.1, bt133.2.2⟩ : S60), (⟨bt136.1, bt136.2.1, bt136.2.2⟩ : S60), (⟨bt139.1, bt139.2.1, bt139.2.2⟩ : S60)] : List (S60))), 0))))))) = some (r1, r2) := H
          have A21 := Aside0.mk A210
          clear A210
          replace H := Option.bind_eq_some_iff.mp H
          obtain ⟨⟨t127, t128, t129⟩, A220, H⟩ := H
          replace H : ((typed_in.f (⟨#[80, 86]⟩ : ByteArray) 2).bind fun bt130 => ((typed_out.f (⟨#[81]⟩ : ByteArray) 1).bind fun bt133 => ((typed_out.f (⟨#[67, 86]⟩ : ByteArray) 2).bind fun bt136 => ((typed_out.f (⟨#[77]⟩ : ByteArray) 1).bind fun bt139 => (some ((([(⟨t124, t125, t126⟩ : S60), (⟨t127, t128, t129⟩ : S60), (⟨bt130.1, bt130.2.1, bt130.2.2⟩ : S60), (⟨bt133.1, bt133.2.1, bt133.2.2⟩ : S60), (⟨bt136.1, bt136.2.1, bt136.2.2⟩ : S60), (⟨bt139.1, bt139.2.1, bt139.2.2⟩ : S60)] : List (S60))), 0)))))) = some (r1, r2) := H
          have A22 := Aside0.mk A220
          clear A220
          replace H := Option.bind_eq_some_iff.mp H
          obtain ⟨⟨t130, t131, t132⟩, A230, H⟩ := H
          replace H : ((typed_out.f (⟨#[81]⟩ : ByteArray) 1).bind fun bt133 => ((typed_out.f (⟨#[67, 86]⟩ : ByteArray) 2).bind fun bt136 => ((typed_out.f (⟨#[77]⟩ : ByteArray) 1).bind fun bt139 => (some ((([(⟨t124, t125, t126⟩ : S60), (⟨t127, t128, t129⟩ : S60), (⟨t130, t131, t132⟩ : S60), (⟨bt133.1, bt133.2.1, bt133.2.2⟩ : S60), (⟨bt136.1, bt136.2.1, bt136.2.2⟩ : S60), (⟨bt139.1, bt139.2.1, bt139.2.2⟩ : S60)] : List (S60))), 0))))) = some (r1, r2) := H
          have A23 := Aside0.mk A230
          clear A230
          replace H := Option.bind_eq_some_iff.mp H
          obtain ⟨⟨t133, t134, t135⟩, A240, H⟩ := H
          replace H : ((typed_out.f (⟨#[67, 86]⟩ : ByteArray) 2).bind fun bt136 => ((typed_out.f (⟨#[77]⟩ : ByteArray) 1).bind fun bt139 => (some ((([(⟨t124, t125, t126⟩ : S60), (⟨t127, t128, t129⟩ : S60), (⟨t130, t131, t132⟩ : S60), (⟨t133, t134, t135⟩ : S60), (⟨bt136.1, bt136.2.1, bt136.2.2⟩ : S60), (⟨bt139.1, bt139.2.1, bt139.2.2⟩ : S60)] : List (S60))), 0)))) = some (r1, r2) := H
          have A24 := Aside0.mk A240
          clear A240
          replace H := Option.bind_eq_some_iff.mp H
          obtain ⟨⟨t136, t137, t138⟩, A250, H⟩ := H
          replace H : ((typed_out.f (⟨#[77]⟩ : ByteArray) 1).bind fun bt139 => (some ((([(⟨t124, t125, t126⟩ : S60), (⟨t127, t128, t129⟩ : S60), (⟨t130, t131, t132⟩ : S60), (⟨t133, t134, t135⟩ : S60), (⟨t136, t137, t138⟩ : S60), (⟨bt139.1, bt139.2.1, bt139.2.2⟩ : S60)] : List (S60))), 0))) = some (r1, r2) := H
          have A25 := Aside0.mk A250
          clear A250
          replace H := Option.bind_eq_some_iff.mp H
          obtain ⟨⟨t139, t140, t141⟩, A260, H⟩ := H
          replace H : (some ((([(⟨t124, t125, t126⟩ : S60), (⟨t127, t128, t129⟩ : S60), (⟨t130, t131, t132⟩ : S60), (⟨t133, t134, t135⟩ : S60), (⟨t136, t137, t138⟩ : S60), (⟨t139, t140, t141⟩ : S60)] : List (S60))), 0)) = some (r1, r2) := H
          have A26 := Aside0.mk A260
          clear A260
          obtain ⟨y142, hy142⟩ : ∃ y_ : List (S60), y_ = (([(⟨t124, t125, t126⟩ : S60), (⟨t127, t128, t129⟩ : S60), (⟨t130, t131, t132⟩ : S60), (⟨t133, t134, t135⟩ : S60), (⟨t136, t137, t138⟩ : S60), (⟨t139, t140, t141⟩ : S60)] : List (S60))) := ⟨_, rfl⟩
          replace H : (some (y142, 0)) = some (r1, r2) := by first | (rw [hy142]; with_reducible exact H) | (have H2_ := (Option.bind_some _ _).symm.trans H; rw [hy142]; with_reducible exact H2_) | (have H2_ := (Option.bind_some _ _).symm.trans H; with_reducible exact H2_) | with_reducible exact H | (rw [hy142]; exact H) | exact H
          have Ny142 := Aside0.mk hy142
          clear hy142
          simp only [Option.some.injEq, Prod.mk.injEq] at H
          obtain ⟨rfl, rfl⟩ := H
          go_wp2_with (first | ((with_reducible refine gate_callee (f := 44) rfl ?_); refine goesL_ (some 18) rfl rfl Tryd.func44 (by kernel_rfl) rfl #[.string (⟨#[67, 85]⟩ : ByteArray), .int .i64 1] rfl (by (try simp only [List.map_toArray, List.map_cons, List.map_nil]); first | done | rfl | (simp only [List.length_drop, List.length_take]; rfl)) ?_; (with_reducible refine (typed_in.calls (⟨#[67, 85]⟩ : ByteArray) 1 t124 t125 t126 _ A21.out).mono ?_); rintro e w27 ⟨rfl, hb⟩; refine ⟨_, rfl, ?_⟩; have n0_ := Aside0.mk (below_step (by repeat (first | (with_reducible first | exact HB.out | apply below_alloc | apply pw_below_drewN | apply below_drew1) | exact HB.out)) hb); clear HB; have HB := n0_; clear n0_; (try clear hb); (try clear hb2); (try clear hk); (try clear hi)) | ((with_reducible refine gate_callee (f := 44) rfl ?_); refine goesL_ (some 19) rfl rfl Tryd.func44 (by kernel_rfl) rfl #[.string (⟨#[82]⟩ : ByteArray), .int .i64 1] rfl (by (try simp only [List.map_toArray, List.map_cons, List.map_nil]); first | done | rfl | (simp only [List.length_drop, List.length_take]; rfl)) ?_; (with_reducible refine (typed_in.calls (⟨#[82]⟩ : ByteArray) 1 t127 t128 t129 _ A22.out).mono ?_); rintro e w28 ⟨rfl, hb⟩; refine ⟨_, rfl, ?_⟩; have n0_ := Aside0.mk (below_step (by repeat (first | (with_reducible first | exact HB.out | apply below_alloc | apply pw_below_drewN | apply below_drew1) | exact HB.out)) hb); clear HB; have HB := n0_; clear n0_; (try clear hb); (try clear hb2); (try clear hk); (try clear hi)) | ((with_reducible refine gate_callee (f := 44) rfl ?_); refine goesL_ (some 20) rfl rfl Tryd.func44 (by kernel_rfl) rfl #[.string (⟨#[80, 86]⟩ : ByteArray), .int .i64 2] rfl (by (try simp only [List.map_toArray, List.map_cons, List.map_nil]); first | done | rfl | (simp only [List.length_drop, List.length_take]; rfl)) ?_; (with_reducible refine (typed_in.calls (⟨#[80, 86]⟩ : ByteArray) 2 t130 t131 t132 _ A23.out).mono ?_); rintro e w29 ⟨rfl, hb⟩; refine ⟨_, rfl, ?_⟩; have n0_ := Aside0.mk (below_step (by repeat (first | (with_reducible first | exact HB.out | apply below_alloc | apply pw_below_drewN | apply below_drew1) | exact HB.out)) hb); clear HB; have HB := n0_; clear n0_; (try clear hb); (try clear hb2); (try clear hk); (try clear hi)) | ((with_reducible refine gate_callee (f := 45) rfl ?_); refine goesL_ (some 21) rfl rfl Tryd.func45 (by kernel_rfl) rfl #[.string (⟨#[81]⟩ : ByteArray), .int .i64 1] rfl (by (try simp only [List.map_toArray, List.map_cons, List.map_nil]); first | done | rfl | (simp only [List.length_drop, List.length_take]; rfl)) ?_; (with_reducible refine (typed_out.calls (⟨#[81]⟩ : ByteArray) 1 t133 t134 t135 _ A24.out).mono ?_); rintro e w30 ⟨rfl, hb⟩; refine ⟨_, rfl, ?_⟩; have n0_ := Aside0.mk (below_step (by repeat (first | (with_reducible first | exact HB.out | apply below_alloc | apply pw_below_drewN | apply below_drew1) | exact HB.out)) hb); clear HB; have HB := n0_; clear n0_; (try clear hb); (try clear hb2); (try clear hk); (try clear hi)) | ((with_reducible refine gate_callee (f := 45) rfl ?_); refine goesL_ (some 22) rfl rfl Tryd.func45 (by kernel_rfl) rfl #[.string (⟨#[67, 86]⟩ : ByteArray), .int .i64 2] rfl (by (try simp only [List.map_toArray, List.map_cons, List.map_nil]); first | done | rfl | (simp only [List.length_drop, List.length_take]; rfl)) ?_; (with_reducible refine (typed_out.calls (⟨#[67, 86]⟩ : ByteArray) 2 t136 t137 t138 _ A25.out).mono ?_); rintro e w31 ⟨rfl, hb⟩; refine ⟨_, rfl, ?_⟩; have n0_ := Aside0.mk (below_step (by repeat (first | (with_reducible first | exact HB.out | apply below_alloc | apply pw_below_drewN | apply below_drew1) | exact HB.out)) hb); clear HB; have HB := n0_; clear n0_; (try clear hb); (try clear hb2); (try clear hk); (try clear hi)) | ((with_reducible refine gate_callee (f := 45) rfl ?_); refine goesL_ (some 23) rfl rfl Tryd.func45 (by kernel_rfl) rfl #[.string (⟨#[77]⟩ : ByteArray), .int .i64 1] rfl (by (try simp only [List.map_toArray, List.map_cons, List.map_nil]); first | done | rfl | (simp only [List.length_drop, List.length_take]; rfl)) ?_; (with_reducible refine (typed_out.calls (⟨#[77]⟩ : ByteArray) 1 t139 t140 t141 _ A26.out).mono ?_); rintro e w32 ⟨rfl, hb⟩; refine ⟨_, rfl, ?_⟩; have n0_ := Aside0.mk (below_step (by repeat (first | (with_reducible first | exact HB.out | apply below_alloc | apply pw_below_drewN | apply below_drew1) | exact HB.out)) hb); clear HB; have HB := n0_; clear n0_; (try clear hb); (try clear hb2); (try clear hk); (try clear hi)) | ((with_reducible refine gate_dst (N := 24) rfl ?_); refine Kd.R_lit k60 _ 60 ?hg (N := 24) ?hd (xs := ([(⟨t124, t125, t126⟩ : S60), (⟨t127, t128, t129⟩ : S60), (⟨t130, t131, t132⟩ : S60), (⟨t133, t134, t135⟩ : S60), (⟨t136, t137, t138⟩ : S60), (⟨t139, t140, t141⟩ : S60)] : List (S60))) (inner := [.string t124, .int .i64 t125, .bool t126, .string t127, .int .i64 t128, .bool t129, .string t130, .int .i64 t131, .bool t132, .string t133, .int .i64 t134, .bool t135, .string t136, .int .i64 t137, .bool t138, .string t139, .int .i64 t140, .bool t141]) (ok := fun _ => True) (okp := fun _ => True) ?hr ?hp (fun _ hk => hk) trivial (Below.refl _ _) (Nat.le_refl _) (by simp) ?_; (case hd => rfl); (case hg => rfl); (case hr => first | (go_simp; done) | (go_simp; rfl)); (case hp => exact (Reps.c3 (show Kd.M k60 _ _ _ (⟨t124, t125, t126⟩ : S60) [.string t124, .int .i64 t125, .bool t126] from (k60_mkM _ _ _ (⟨t124, t125, t126⟩ : S60) )) (Reps.c3 (show Kd.M k60 _ _ _ (⟨t127, t128, t129⟩ : S60) [.string t127, .int .i64 t128, .bool t129] from (k60_mkM _ _ _ (⟨t127, t128, t129⟩ : S60) )) (Reps.c3 (show Kd.M k60 _ _ _ (⟨t130, t131, t132⟩ : S60) [.string t130, .int .i64 t131, .bool t132] from (k60_mkM _ _ _ (⟨t130, t131, t132⟩ : S60) )) (Reps.c3 (show Kd.M k60 _ _ _ (⟨t133, t134, t135⟩ : S60) [.string t133, .int .i64 t134, .bool t135] from (k60_mkM _ _ _ (⟨t133, t134, t135⟩ : S60) )) (Reps.c3 (show Kd.M k60 _ _ _ (⟨t136, t137, t138⟩ : S60) [.string t136, .int .i64 t137, .bool t138] from (k60_mkM _ _ _ (⟨t136, t137, t138⟩ : S60) )) (Reps.c3 (show Kd.M k60 _ _ _ (⟨t139, t140, t141⟩ : S60) [.string t139, .int .i64 t140, .bool t141] from (k60_mkM _ _ _ (⟨t139, t140, t141⟩ : S60) )) (Reps.none _ _)))))))); intro v143 w33 ho34 hb hg_ hnew_; clear hg_ hnew_; (first | rw [← Ny142.out] at ho34 | (simp only [Int.reduceToNat] at ho34; rw [← Ny142.out] at ho34)); have n0_ := Aside0.mk (Kd.R_lower ho34 (below_size (by repeat (first | (with_reducible first | exact HB.out | apply below_alloc | apply pw_below_drewN | apply below_drew1) | exact HB.out)))); have n1_ := Aside0.mk (below_step (by repeat (first | (with_reducible first | exact HB.out | apply below_alloc | apply pw_below_drewN | apply below_drew1) | exact HB.out)) hb); clear HB; have HO144 := n0_; have HB := n1_; clear n0_ n1_; clear hb ho34))
          go_ret2
          exact ⟨_, by first | rfl | (simp [errW_none, errW_some] <;> rfl) | (simp [*, errW_none, errW_some] <;> rfl), by (with_reducible repeat (first | apply Kd.R_alloc | apply Kd.R_drewN | apply Kd.R_drew)); exact HO144.out, by repeat (first | (with_reducible first | exact HB.out | apply below_alloc | apply pw_below_drewN | apply below_drew1) | exact HB.out)⟩
        · rw [if_neg c20] at H
          have c20b0 : (a0 == 4) = false := beq_eq_false_iff_ne.mpr c20
          have c20b1 : (a0 != 4) = true := bne_iff_ne.mpr c20
          by_cases c35 : a0 = 5
          · rw [if_pos c35] at H
            have c35b0 : (a0 == 5) = true := beq_iff_eq.mpr c35
            have c35b1 : (a0 != 5) = false := bne_eq_false_iff_eq.mpr c35
            clear c35
            replace H := Option.bind_eq_some_iff.mp H
            obtain ⟨⟨t145, t146, t147⟩, A360, H⟩ := H
            replace H : ((typed_in.f (⟨#[76, 68]⟩ : ByteArray) 1).bind fun bt148 => ((typed_in.f (⟨#[80, 86]⟩ : ByteArray) 2).bind fun bt151 => ((typed_out.f (⟨#[81]⟩ : ByteArray) 1).bind fun bt154 => ((typed_out.f (⟨#[67, 86]⟩ : ByteArray) 2).bind fun bt157 => ((typed_out.f (⟨#[77]⟩ : ByteArray) 1).bind fun bt160 => (some ((([(⟨t145, t146, t147⟩ : S60), (⟨bt148.1, bt148.2.1, bt148.2.2⟩ : S60), (⟨bt151.1, bt151.2.1, bt151.2.2⟩ : S60), (⟨bt154.1, bt154.2.1, bt154.2.2⟩ : S60), (⟨bt157.1, bt157.2.1, bt157.2.2⟩ : S60), (⟨bt160.1, bt160.2.1, bt160.2.2⟩ : S60)] : List (S60))), 0))))))) = some (r1, r2) := H
            have A36 := Aside0.mk A360
            clear A360
            replace H := Option.bind_eq_some_iff.mp H
            obtain ⟨⟨t148, t149, t150⟩, A370, H⟩ := H
            replace H : ((typed_in.f (⟨#[80, 86]⟩ : ByteArray) 2).bind fun bt151 => ((typed_out.f (⟨#[81]⟩ : ByteArray) 1).bind fun bt154 => ((typed_out.f (⟨#[67, 86]⟩ : ByteArray) 2).bind fun bt157 => ((typed_out.f (⟨#[77]⟩ : ByteArray) 1).bind fun bt160 => (some ((([(⟨t145, t146, t147⟩ : S60), (⟨t148, t149, t150⟩ : S60), (⟨bt151.1, bt151.2.1, bt151.2.2⟩ : S60), (⟨bt154.1, bt154.2.1, bt154.2.2⟩ : S60), (⟨bt157.1, bt157.2.1, bt157.2.2⟩ : S60), (⟨bt160.1, bt160.2.1, bt160.2.2⟩ : S60)] : List (S60))), 0)))))) = some (r1, r2) := H
            have A37 := Aside0.mk A370
            clear A370
            replace H := Option.bind_eq_some_iff.mp H
            obtain ⟨⟨t151, t152, t153⟩, A380, H⟩ := H
            replace H : ((typed_out.f (⟨#[81]⟩ : ByteArray) 1).bind fun bt154 => ((typed_out.f (⟨#[67, 86]⟩ : ByteArray) 2).bind fun bt157 => ((typed_out.f (⟨#[77]⟩ : ByteArray) 1).bind fun bt160 => (some ((([(⟨t145, t146, t147⟩ : S60), (⟨t148, t149, t150⟩ : S60), (⟨t151, t152, t153⟩ : S60), (⟨bt154.1, bt154.2.1, bt154.2.2⟩ : S60), (⟨bt157.1, bt157.2.1, bt157.2.2⟩ : S60), (⟨bt160.1, bt160.2.1, bt160.2.2⟩ : S60)] : List (S60))), 0))))) = some (r1, r2) := H
            have A38 := Aside0.mk A380
            clear A380
            replace H := Option.bind_eq_some_iff.mp H
            obtain ⟨⟨t154, t155, t156⟩, A390, H⟩ := H
            replace H : ((typed_out.f (⟨#[67, 86]⟩ : ByteArray) 2).bind fun bt157 => ((typed_out.f (⟨#[77]⟩ : ByteArray) 1).bind fun bt160 => (some ((([(⟨t145, t146, t147⟩ : S60), (⟨t148, t149, t150⟩ : S60), (⟨t151, t152, t153⟩ : S60), (⟨t154, t155, t156⟩ : S60), (⟨bt157.1, bt157.2.1, bt157.2.2⟩ : S60), (⟨bt160.1, bt160.2.1, bt160.2.2⟩ : S60)] : List (S60))), 0)))) = some (r1, r2) := H
            have A39 := Aside0.mk A390
            clear A390
            replace H := Option.bind_eq_some_iff.mp H
            obtain ⟨⟨t157, t158, t159⟩, A400, H⟩ := H
            replace H : ((typed_out.f (⟨#[77]⟩ : ByteArray) 1).bind fun bt160 => (some ((([(⟨t145, t146, t147⟩ : S60), (⟨t148, t149, t150⟩ : S60), (⟨t151, t152, t153⟩ : S60), (⟨t154, t155, t156⟩ : S60), (⟨t157, t158, t159⟩ : S60), (⟨bt160.1, bt160.2.1, bt160.2.2⟩ : S60)] : List (S60))), 0))) = some (r1, r2) := H
            have A40 := Aside0.mk A400
            clear A400
            replace H := Option.bind_eq_some_iff.mp H
            obtain ⟨⟨t160, t161, t162⟩, A410, H⟩ := H
            replace H : (some ((([(⟨t145, t146, t147⟩ : S60), (⟨t148, t149, t150⟩ : S60), (⟨t151, t152, t153⟩ : S60), (⟨t154, t155, t156⟩ : S60), (⟨t157, t158, t159⟩ : S60), (⟨t160, t161, t162⟩ : S60)] : List (S60))), 0)) = some (r1, r2) := H
            have A41 := Aside0.mk A410
            clear A410
            obtain ⟨y163, hy163⟩ : ∃ y_ : List (S60), y_ = (([(⟨t145, t146, t147⟩ : S60), (⟨t148, t149, t150⟩ : S60), (⟨t151, t152, t153⟩ : S60), (⟨t154, t155, t156⟩ : S60), (⟨t157, t158, t159⟩ : S60), (⟨t160, t161, t162⟩ : S60)] : List (S60))) := ⟨_, rfl⟩
            replace H : (some (y163, 0)) = some (r1, r2) := by first | (rw [hy163]; with_reducible exact H) | (have H2_ := (Option.bind_some _ _).symm.trans H; rw [hy163]; with_reducible exact H2_) | (have H2_ := (Option.bind_some _ _).symm.trans H; with_reducible exact H2_) | with_reducible exact H | (rw [hy163]; exact H) | exact H
            have Ny163 := Aside0.mk hy163
            clear hy163
            simp only [Option.some.injEq, Prod.mk.injEq] at H
            obtain ⟨rfl, rfl⟩ := H
            go_wp2_with (first | ((with_reducible refine gate_callee (f := 44) rfl ?_); refine goesL_ (some 27) rfl rfl Tryd.func44 (by kernel_rfl) rfl #[.string (⟨#[67, 68]⟩ : ByteArray), .int .i64 1] rfl (by (try simp only [List.map_toArray, List.map_cons, List.map_nil]); first | done | rfl | (simp only [List.length_drop, List.length_take]; rfl)) ?_; (with_reducible refine (typed_in.calls (⟨#[67, 68]⟩ : ByteArray) 1 t145 t146 t147 _ A36.out).mono ?_); rintro e w42 ⟨rfl, hb⟩; refine ⟨_, rfl, ?_⟩; have n0_ := Aside0.mk (below_step (by repeat (first | (with_reducible first | exact HB.out | apply below_alloc | apply pw_below_drewN | apply below_drew1) | exact HB.out)) hb); clear HB; have HB := n0_; clear n0_; (try clear hb); (try clear hb2); (try clear hk); (try clear hi)) | ((with_reducible refine gate_callee (f := 44) rfl ?_); refine goesL_ (some 28) rfl rfl Tryd.func44 (by kernel_rfl) rfl #[.string (⟨#[76, 68]⟩ : ByteArray), .int .i64 1] rfl (by (try simp only [List.map_toArray, List.map_cons, List.map_nil]); first | done | rfl | (simp only [List.length_drop, List.length_take]; rfl)) ?_; (with_reducible refine (typed_in.calls (⟨#[76, 68]⟩ : ByteArray) 1 t148 t149 t150 _ A37.out).mono ?_); rintro e w43 ⟨rfl, hb⟩; refine ⟨_, rfl, ?_⟩; have n0_ := Aside0.mk (below_step (by repeat (first | (with_reducible first | exact HB.out | apply below_alloc | apply pw_below_drewN | apply below_drew1) | exact HB.out)) hb); clear HB; have HB := n0_; clear n0_; (try clear hb); (try clear hb2); (try clear hk); (try clear hi)) | ((with_reducible refine gate_callee (f := 44) rfl ?_); refine goesL_ (some 29) rfl rfl Tryd.func44 (by kernel_rfl) rfl #[.string (⟨#[80, 86]⟩ : ByteArray), .int .i64 2] rfl (by (try simp only [List.map_toArray, List.map_cons, List.map_nil]); first | done | rfl | (simp only [List.length_drop, List.length_take]; rfl)) ?_; (with_reducible refine (typed_in.calls (⟨#[80, 86]⟩ : ByteArray) 2 t151 t152 t153 _ A38.out).mono ?_); rintro e w44 ⟨rfl, hb⟩; refine ⟨_, rfl, ?_⟩; have n0_ := Aside0.mk (below_step (by repeat (first | (with_reducible first | exact HB.out | apply below_alloc | apply pw_below_drewN | apply below_drew1) | exact HB.out)) hb); clear HB; have HB := n0_; clear n0_; (try clear hb); (try clear hb2); (try clear hk); (try clear hi)) | ((with_reducible refine gate_callee (f := 45) rfl ?_); refine goesL_ (some 30) rfl rfl Tryd.func45 (by kernel_rfl) rfl #[.string (⟨#[81]⟩ : ByteArray), .int .i64 1] rfl (by (try simp only [List.map_toArray, List.map_cons, List.map_nil]); first | done | rfl | (simp only [List.length_drop, List.length_take]; rfl)) ?_; (with_reducible refine (typed_out.calls (⟨#[81]⟩ : ByteArray) 1 t154 t155 t156 _ A39.out).mono ?_); rintro e w45 ⟨rfl, hb⟩; refine ⟨_, rfl, ?_⟩; have n0_ := Aside0.mk (below_step (by repeat (first | (with_reducible first | exact HB.out | apply below_alloc | apply pw_below_drewN | apply below_drew1) | exact HB.out)) hb); clear HB; have HB := n0_; clear n0_; (try clear hb); (try clear hb2); (try clear hk); (try clear hi)) | ((with_reducible refine gate_callee (f := 45) rfl ?_); refine goesL_ (some 31) rfl rfl Tryd.func45 (by kernel_rfl) rfl #[.string (⟨#[67, 86]⟩ : ByteArray), .int .i64 2] rfl (by (try simp only [List.map_toArray, List.map_cons, List.map_nil]); first | done | rfl | (simp only [List.length_drop, List.length_take]; rfl)) ?_; (with_reducible refine (typed_out.calls (⟨#[67, 86]⟩ : ByteArray) 2 t157 t158 t159 _ A40.out).mono ?_); rintro e w46 ⟨rfl, hb⟩; refine ⟨_, rfl, ?_⟩; have n0_ := Aside0.mk (below_step (by repeat (first | (with_reducible first | exact HB.out | apply below_alloc | apply pw_below_drewN | apply below_drew1) | exact HB.out)) hb); clear HB; have HB := n0_; clear n0_; (try clear hb); (try clear hb2); (try clear hk); (try clear hi)) | ((with_reducible refine gate_callee (f := 45) rfl ?_); refine goesL_ (some 32) rfl rfl Tryd.func45 (by kernel_rfl) rfl #[.string (⟨#[77]⟩ : ByteArray), .int .i64 1] rfl (by (try simp only [List.map_toArray, List.map_cons, List.map_nil]); first | done | rfl | (simp only [List.length_drop, List.length_take]; rfl)) ?_; (with_reducible refine (typed_out.calls (⟨#[77]⟩ : ByteArray) 1 t160 t161 t162 _ A41.out).mono ?_); rintro e w47 ⟨rfl, hb⟩; refine ⟨_, rfl, ?_⟩; have n0_ := Aside0.mk (below_step (by repeat (first | (with_reducible first | exact HB.out | apply below_alloc | apply pw_below_drewN | apply below_drew1) | exact HB.out)) hb); clear HB; have HB := n0_; clear n0_; (try clear hb); (try clear hb2); (try clear hk); (try clear hi)) | ((with_reducible refine gate_dst (N := 33) rfl ?_); refine Kd.R_lit k60 _ 60 ?hg (N := 33) ?hd (xs := ([(⟨t145, t146, t147⟩ : S60), (⟨t148, t149, t150⟩ : S60), (⟨t151, t152, t153⟩ : S60), (⟨t154, t155, t156⟩ : S60), (⟨t157, t158, t159⟩ : S60), (⟨t160, t161, t162⟩ : S60)] : List (S60))) (inner := [.string t145, .int .i64 t146, .bool t147, .string t148, .int .i64 t149, .bool t150, .string t151, .int .i64 t152, .bool t153, .string t154, .int .i64 t155, .bool t156, .string t157, .int .i64 t158, .bool t159, .string t160, .int .i64 t161, .bool t162]) (ok := fun _ => True) (okp := fun _ => True) ?hr ?hp (fun _ hk => hk) trivial (Below.refl _ _) (Nat.le_refl _) (by simp) ?_; (case hd => rfl); (case hg => rfl); (case hr => first | (go_simp; done) | (go_simp; rfl)); (case hp => exact (Reps.c3 (show Kd.M k60 _ _ _ (⟨t145, t146, t147⟩ : S60) [.string t145, .int .i64 t146, .bool t147] from (k60_mkM _ _ _ (⟨t145, t146, t147⟩ : S60) )) (Reps.c3 (show Kd.M k60 _ _ _ (⟨t148, t149, t150⟩ : S60) [.string t148, .int .i64 t149, .bool t150] from (k60_mkM _ _ _ (⟨t148, t149, t150⟩ : S60) )) (Reps.c3 (show Kd.M k60 _ _ _ (⟨t151, t152, t153⟩ : S60) [.string t151, .int .i64 t152, .bool t153] from (k60_mkM _ _ _ (⟨t151, t152, t153⟩ : S60) )) (Reps.c3 (show Kd.M k60 _ _ _ (⟨t154, t155, t156⟩ : S60) [.string t154, .int .i64 t155, .bool t156] from (k60_mkM _ _ _ (⟨t154, t155, t156⟩ : S60) )) (Reps.c3 (show Kd.M k60 _ _ _ (⟨t157, t158, t159⟩ : S60) [.string t157, .int .i64 t158, .bool t159] from (k60_mkM _ _ _ (⟨t157, t158, t159⟩ : S60) )) (Reps.c3 (show Kd.M k60 _ _ _ (⟨t160, t161, t162⟩ : S60) [.string t160, .int .i64 t161, .bool t162] from (k60_mkM _ _ _ (⟨t160, t161, t162⟩ : S60) )) (Reps.none _ _)))))))); intro v164 w48 ho49 hb hg_ hnew_; clear hg_ hnew_; (first | rw [← Ny163.out] at ho49 | (simp only [Int.reduceToNat] at ho49; rw [← Ny163.out] at ho49)); have n0_ := Aside0.mk (Kd.R_lower ho49 (below_size (by repeat (first | (with_reducible first | exact HB.out | apply below_alloc | apply pw_below_drewN | apply below_drew1) | exact HB.out)))); have n1_ := Aside0.mk (below_step (by repeat (first | (with_reducible first | exact HB.out | apply below_alloc | apply pw_below_drewN | apply below_drew1) | exact HB.out)) hb); clear HB; have HO165 := n0_; have HB := n1_; clear n0_ n1_; clear hb ho49))
            go_ret2
            exact ⟨_, by first | rfl | (simp [errW_none, errW_some] <;> rfl) | (simp [*, errW_none, errW_some] <;> rfl), by (with_reducible repeat (first | apply Kd.R_alloc | apply Kd.R_drewN | apply Kd.R_drew)); exact HO165.out, by repeat (first | (with_reducible first | exact HB.out | apply below_alloc | apply pw_below_drewN | apply below_drew1) | exact HB.out)⟩
          · rw [if_neg c35] at H
            have c35b0 : (a0 == 5) = false := beq_eq_false_iff_ne.mpr c35
            have c35b1 : (a0 != 5) = true := bne_iff_ne.mpr c35
            have HC50 := Aside0.mk H
            clear H
            go_upto_if 34 with (fail)
            go_cut [34] (fun v34 wc => ∃ (kq : Nat) (x34_49 : Bool), v34 = .bool x34_49 ∧ Aside0 (typed_Fields.j1 kq a0 x34_49 = some (r1, r2)) ∧ Aside0 (kq ≤ kj1) ∧ Aside0 (Below w.heap.size w wc))
            case first =>
              have H := HC50.out
              clear HC50
              by_cases c51 : a0 = 6
              · rw [if_pos c51] at H
                have c51b0 : (a0 == 6) = true := beq_iff_eq.mpr c51
                have c51b1 : (a0 != 6) = false := bne_eq_false_iff_eq.mpr c51
                clear c51
                (first | rw [c51b0] | (simp only [i64_w, i32_w]; rw [c51b0]) | skip)
                have H' := Aside0.mk H
                clear H
                go_wp2
                go_meet
                case rel => exact ⟨_, ((a0 == 6)), (by first | rfl | (simp; done) | (simp [*]; done)), H', ⟨by have := HJ1.out; first | omega | exact Nat.le_refl _⟩, ⟨by repeat (first | (with_reducible first | exact HB.out | apply below_alloc | apply pw_below_drewN | apply below_drew1) | exact HB.out)⟩⟩
              · rw [if_neg c51] at H
                have c51b0 : (a0 == 6) = false := beq_eq_false_iff_ne.mpr c51
                have c51b1 : (a0 != 6) = true := bne_iff_ne.mpr c51
                (first | rw [c51b0] | (simp only [i64_w, i32_w]; rw [c51b0]) | skip)
                have H' := Aside0.mk H
                clear H
                go_wp2
                go_meet
                case rel => exact ⟨_, ((a0 == 7)), (by first | rfl | (simp; done) | (simp [*]; done)), H', ⟨by have := HJ1.out; first | omega | exact Nat.le_refl _⟩, ⟨by repeat (first | (with_reducible first | exact HB.out | apply below_alloc | apply pw_below_drewN | apply below_drew1) | exact HB.out)⟩⟩
            case rest =>
              clear HC50
              try clear c2
              try clear p2
              try clear c3
              try clear c3b0
              try clear c3b1
              try clear c4
              try clear c4b0
              try clear c4b1
              try clear c5
              try clear c20
              try clear c20b0
              try clear c20b1
              try clear c27
              try clear c35
              try clear c35b0
              try clear c35b1
              try clear c44
              try clear c45
              try clear c51
              try clear c51b0
              try clear c51b1
              try clear p2
              obtain ⟨kq, x34_49, rfl, HA, HJ49, HB⟩ := hcut
              cases kq with
              | zero => exact absurd HA.out (by simp [typed_Fields.j1])
              | succ kj49 =>
                have H := HA.out
                clear HA
                simp only [typed_Fields.j1] at H
                by_cases c52 : x34_49 = true
                · subst c52
                  have H1 : ((typed_in.f (⟨#[67, 76, 75]⟩ : ByteArray) 1).bind fun bt166 => ((typed_out.f (⟨#[81]⟩ : ByteArray) 1).bind fun bt169 => ((typed_out.f (⟨#[77]⟩ : ByteArray) 1).bind fun bt172 => (some ((([(⟨bt166.1, bt166.2.1, bt166.2.2⟩ : S60), (⟨bt169.1, bt169.2.1, bt169.2.2⟩ : S60), (⟨bt172.1, bt172.2.1, bt172.2.2⟩ : S60)] : List (S60))), 0))))) = some (r1, r2) := by rw [if_pos rfl] at H; exact H
                  clear H
                  have H := H1
                  clear H1
                  replace H := Option.bind_eq_some_iff.mp H
                  obtain ⟨⟨t166, t167, t168⟩, A530, H⟩ := H
                  replace H : ((typed_out.f (⟨#[81]⟩ : ByteArray) 1).bind fun bt169 => ((typed_out.f (⟨#[77]⟩ : ByteArray) 1).bind fun bt172 => (some ((([(⟨t166, t167, t168⟩ : S60), (⟨bt169.1, bt169.2.1, bt169.2.2⟩ : S60), (⟨bt172.1, bt172.2.1, bt172.2.2⟩ : S60)] : List (S60))), 0)))) = some (r1, r2) := H
                  have A53 := Aside0.mk A530
                  clear A530
                  replace H := Option.bind_eq_some_iff.mp H
                  obtain ⟨⟨t169, t170, t171⟩, A540, H⟩ := H
                  replace H : ((typed_out.f (⟨#[77]⟩ : ByteArray) 1).bind fun bt172 => (some ((([(⟨t166, t167, t168⟩ : S60), (⟨t169, t170, t171⟩ : S60), (⟨bt172.1, bt172.2.1, bt172.2.2⟩ : S60)] : List (S60))), 0))) = some (r1, r2) := H
                  have A54 := Aside0.mk A540
                  clear A540
                  replace H := Option.bind_eq_some_iff.mp H
                  obtain ⟨⟨t172, t173, t174⟩, A550, H⟩ := H
                  replace H : (some ((([(⟨t166, t167, t168⟩ : S60), (⟨t169, t170, t171⟩ : S60), (⟨t172, t173, t174⟩ : S60)] : List (S60))), 0)) = some (r1, r2) := H
                  have A55 := Aside0.mk A550
                  clear A550
                  obtain ⟨y175, hy175⟩ : ∃ y_ : List (S60), y_ = (([(⟨t166, t167, t168⟩ : S60), (⟨t169, t170, t171⟩ : S60), (⟨t172, t173, t174⟩ : S60)] : List (S60))) := ⟨_, rfl⟩
                  replace H : (some (y175, 0)) = some (r1, r2) := by first | (rw [hy175]; with_reducible exact H) | (have H2_ := (Option.bind_some _ _).symm.trans H; rw [hy175]; with_reducible exact H2_) | (have H2_ := (Option.bind_some _ _).symm.trans H; with_reducible exact H2_) | with_reducible exact H | (rw [hy175]; exact H) | exact H
                  have Ny175 := Aside0.mk hy175
                  clear hy175
                  simp only [Option.some.injEq, Prod.mk.injEq] at H
                  obtain ⟨rfl, rfl⟩ := H
                  go_wp2_with (first | ((with_reducible refine gate_callee (f := 44) rfl ?_); refine goesL_ (some 37) rfl rfl Tryd.func44 (by kernel_rfl) rfl #[.string (⟨#[67, 76, 75]⟩ : ByteArray), .int .i64 1] rfl (by (try simp only [List.map_toArray, List.map_cons, List.map_nil]); first | done | rfl | (simp only [List.length_drop, List.length_take]; rfl)) ?_; (with_reducible refine (typed_in.calls (⟨#[67, 76, 75]⟩ : ByteArray) 1 t166 t167 t168 _ A53.out).mono ?_); rintro e w56 ⟨rfl, hb⟩; refine ⟨_, rfl, ?_⟩; have n0_ := Aside0.mk (below_step (by repeat (first | (with_reducible first | exact HB.out | apply below_alloc | apply pw_below_drewN | apply below_drew1) | exact HB.out)) hb); clear HB; have HB := n0_; clear n0_; (try clear hb); (try clear hb2); (try clear hk); (try clear hi)) | ((with_reducible refine gate_callee (f := 45) rfl ?_); refine goesL_ (some 38) rfl rfl Tryd.func45 (by kernel_rfl) rfl #[.string (⟨#[81]⟩ : ByteArray), .int .i64 1] rfl (by (try simp only [List.map_toArray, List.map_cons, List.map_nil]); first | done | rfl | (simp only [List.length_drop, List.length_take]; rfl)) ?_; (with_reducible refine (typed_out.calls (⟨#[81]⟩ : ByteArray) 1 t169 t170 t171 _ A54.out).mono ?_); rintro e w57 ⟨rfl, hb⟩; refine ⟨_, rfl, ?_⟩; have n0_ := Aside0.mk (below_step (by repeat (first | (with_reducible first | exact HB.out | apply below_alloc | apply pw_below_drewN | apply below_drew1) | exact HB.out)) hb); clear HB; have HB := n0_; clear n0_; (try clear hb); (try clear hb2); (try clear hk); (try clear hi)) | ((with_reducible refine gate_callee (f := 45) rfl ?_); refine goesL_ (some 39) rfl rfl Tryd.func45 (by kernel_rfl) rfl #[.string (⟨#[77]⟩ : ByteArray), .int .i64 1] rfl (by (try simp only [List.map_toArray, List.map_cons, List.map_nil]); first | done | rfl | (simp only [List.length_drop, List.length_take]; rfl)) ?_; (with_reducible refine (typed_out.calls (⟨#[77]⟩ : ByteArray) 1 t172 t173 t174 _ A55.out).mono ?_); rintro e w58 ⟨rfl, hb⟩; refine ⟨_, rfl, ?_⟩; have n0_ := Aside0.mk (below_step (by repeat (first | (with_reducible first | exact HB.out | apply below_alloc | apply pw_below_drewN | apply below_drew1) | exact HB.out)) hb); clear HB; have HB := n0_; clear n0_; (try clear hb); (try clear hb2); (try clear hk); (try clear hi)) | ((with_reducible refine gate_dst (N := 40) rfl ?_); refine Kd.R_lit k60 _ 60 ?hg (N := 40) ?hd (xs := ([(⟨t166, t167, t168⟩ : S60), (⟨t169, t170, t171⟩ : S60), (⟨t172, t173, t174⟩ : S60)] : List (S60))) (inner := [.string t166, .int .i64 t167, .bool t168, .string t169, .int .i64 t170, .bool t171, .string t172, .int .i64 t173, .bool t174]) (ok := fun _ => True) (okp := fun _ => True) ?hr ?hp (fun _ hk => hk) trivial (Below.refl _ _) (Nat.le_refl _) (by simp) ?_; (case hd => rfl); (case hg => rfl); (case hr => first | (go_simp; done) | (go_simp; rfl)); (case hp => exact (Reps.c3 (show Kd.M k60 _ _ _ (⟨t166, t167, t168⟩ : S60) [.string t166, .int .i64 t167, .bool t168] from (k60_mkM _ _ _ (⟨t166, t167, t168⟩ : S60) )) (Reps.c3 (show Kd.M k60 _ _ _ (⟨t169, t170, t171⟩ : S60) [.string t169, .int .i64 t170, .bool t171] from (k60_mkM _ _ _ (⟨t169, t170, t171⟩ : S60) )) (Reps.c3 (show Kd.M k60 _ _ _ (⟨t172, t173, t174⟩ : S60) [.string t172, .int .i64 t173, .bool t174] from (k60_mkM _ _ _ (⟨t172, t173, t174⟩ : S60) )) (Reps.none _ _))))); intro v176 w59 ho60 hb hg_ hnew_; clear hg_ hnew_; (first | rw [← Ny175.out] at ho60 | (simp only [Int.reduceToNat] at ho60; rw [← Ny175.out] at ho60)); have n0_ := Aside0.mk (Kd.R_lower ho60 (below_size (by repeat (first | (with_reducible first | exact HB.out | apply below_alloc | apply pw_below_drewN | apply below_drew1) | exact HB.out)))); have n1_ := Aside0.mk (below_step (by repeat (first | (with_reducible first | exact HB.out | apply below_alloc | apply pw_below_drewN | apply below_drew1) | exact HB.out)) hb); clear HB; have HO177 := n0_; have HB := n1_; clear n0_ n1_; clear hb ho60))
                  go_ret2
                  exact ⟨_, by first | rfl | (simp [errW_none, errW_some] <;> rfl) | (simp [*, errW_none, errW_some] <;> rfl), by (with_reducible repeat (first | apply Kd.R_alloc | apply Kd.R_drewN | apply Kd.R_drew)); exact HO177.out, by repeat (first | (with_reducible first | exact HB.out | apply below_alloc | apply pw_below_drewN | apply below_drew1) | exact HB.out)⟩
                · replace c52 := Bool.eq_false_iff.mpr c52
                  subst c52
                  have H1 : (if a0 = 8 then ((typed_in.f (⟨#[83, 49]⟩ : ByteArray) 1).bind fun bt178 => ((typed_in.f (⟨#[82]⟩ : ByteArray) 1).bind fun bt181 => ((typed_out.f (⟨#[81, 49]⟩ : ByteArray) 1).bind fun bt184 => (some ((([(⟨bt178.1, bt178.2.1, bt178.2.2⟩ : S60), (⟨bt181.1, bt181.2.1, bt181.2.2⟩ : S60), (⟨bt184.1, bt184.2.1, bt184.2.2⟩ : S60)] : List (S60))), 0))))) else (if a0 = 9 then ((typed_in.f (⟨#[83]⟩ : ByteArray) 1).bind fun bt190 => ((typed_in.f (⟨#[82, 49]⟩ : ByteArray) 1).bind fun bt193 => ((typed_out.f (⟨#[81, 49]⟩ : ByteArray) 1).bind fun bt196 => (some ((([(⟨bt190.1, bt190.2.1, bt190.2.2⟩ : S60), (⟨bt193.1, bt193.2.1, bt193.2.2⟩ : S60), (⟨bt196.1, bt196.2.1, bt196.2.2⟩ : S60)] : List (S60))), 0))))) else (if a0 = 10 then ((typed_in.f (⟨#[65]⟩ : ByteArray) 1).bind fun bt202 => ((typed_in.f (⟨#[66]⟩ : ByteArray) 1).bind fun bt205 => ((typed_in.f (⟨#[82]⟩ : ByteArray) 1).bind fun bt208 => ((typed_out.f (⟨#[67, 86]⟩ : ByteArray) 3).bind fun bt211 => ((typed_out.f (⟨#[69, 82, 82]⟩ : ByteArray) 1).bind fun bt214 => ((typed_out.f (⟨#[76, 65, 83, 84]⟩ : ByteArray) 2).bind fun bt217 => (some ((([(⟨bt202.1, bt202.2.1, bt202.2.2⟩ : S60), (⟨bt205.1, bt205.2.1, bt205.2.2⟩ : S60), (⟨bt208.1, bt208.2.1, bt208.2.2⟩ : S60), (⟨bt211.1, bt211.2.1, bt211.2.2⟩ : S60), (⟨bt214.1, bt214.2.1, bt214.2.2⟩ : S60), (⟨bt217.1, bt217.2.1, bt217.2.2⟩ : S60)] : List (S60))), 0)))))))) else (some (([] : List (S60)), 92))))) = some (r1, r2) := by rw [if_neg (show ¬ (false = true) by decide)] at H; exact H
                  clear H
                  have H := H1
                  clear H1
                  by_cases c61 : a0 = 8
                  · rw [if_pos c61] at H
                    have c61b0 : (a0 == 8) = true := beq_iff_eq.mpr c61
                    have c61b1 : (a0 != 8) = false := bne_eq_false_iff_eq.mpr c61
                    clear c61
                    replace H := Option.bind_eq_some_iff.mp H
                    obtain ⟨⟨t178, t179, t180⟩, A620, H⟩ := H
                    replace H : ((typed_in.f (⟨#[82]⟩ : ByteArray) 1).bind fun bt181 => ((typed_out.f (⟨#[81, 49]⟩ : ByteArray) 1).bind fun bt184 => (some ((([(⟨t178, t179, t180⟩ : S60), (⟨bt181.1, bt181.2.1, bt181.2.2⟩ : S60), (⟨bt184.1, bt184.2.1, bt184.2.2⟩ : S60)] : List (S60))), 0)))) = some (r1, r2) := H
                    have A62 := Aside0.mk A620
                    clear A620
                    replace H := Option.bind_eq_some_iff.mp H
                    obtain ⟨⟨t181, t182, t183⟩, A630, H⟩ := H
                    replace H : ((typed_out.f (⟨#[81, 49]⟩ : ByteArray) 1).bind fun bt184 => (some ((([(⟨t178, t179, t180⟩ : S60), (⟨t181, t182, t183⟩ : S60), (⟨bt184.1, bt184.2.1, bt184.2.2⟩ : S60)] : List (S60))), 0))) = some (r1, r2) := H
                    have A63 := Aside0.mk A630
                    clear A630
                    replace H := Option.bind_eq_some_iff.mp H
                    obtain ⟨⟨t184, t185, t186⟩, A640, H⟩ := H
                    replace H : (some ((([(⟨t178, t179, t180⟩ : S60), (⟨t181, t182, t183⟩ : S60), (⟨t184, t185, t186⟩ : S60)] : List (S60))), 0)) = some (r1, r2) := H
                    have A64 := Aside0.mk A640
                    clear A640
                    obtain ⟨y187, hy187⟩ : ∃ y_ : List (S60), y_ = (([(⟨t178, t179, t180⟩ : S60), (⟨t181, t182, t183⟩ : S60), (⟨t184, t185, t186⟩ : S60)] : List (S60))) := ⟨_, rfl⟩
                    replace H : (some (y187, 0)) = some (r1, r2) := by first | (rw [hy187]; with_reducible exact H) | (have H2_ := (Option.bind_some _ _).symm.trans H; rw [hy187]; with_reducible exact H2_) | (have H2_ := (Option.bind_some _ _).symm.trans H; with_reducible exact H2_) | with_reducible exact H | (rw [hy187]; exact H) | exact H
                    have Ny187 := Aside0.mk hy187
                    clear hy187
                    simp only [Option.some.injEq, Prod.mk.injEq] at H
                    obtain ⟨rfl, rfl⟩ := H
                    go_wp2_with (first | ((with_reducible refine gate_callee (f := 44) rfl ?_); refine goesL_ (some 43) rfl rfl Tryd.func44 (by kernel_rfl) rfl #[.string (⟨#[83, 49]⟩ : ByteArray), .int .i64 1] rfl (by (try simp only [List.map_toArray, List.map_cons, List.map_nil]); first | done | rfl | (simp only [List.length_drop, List.length_take]; rfl)) ?_; (with_reducible refine (typed_in.calls (⟨#[83, 49]⟩ : ByteArray) 1 t178 t179 t180 _ A62.out).mono ?_); rintro e w65 ⟨rfl, hb⟩; refine ⟨_, rfl, ?_⟩; have n0_ := Aside0.mk (below_step (by repeat (first | (with_reducible first | exact HB.out | apply below_alloc | apply pw_below_drewN | apply below_drew1) | exact HB.out)) hb); clear HB; have HB := n0_; clear n0_; (try clear hb); (try clear hb2); (try clear hk); (try clear hi)) | ((with_reducible refine gate_callee (f := 44) rfl ?_); refine goesL_ (some 44) rfl rfl Tryd.func44 (by kernel_rfl) rfl #[.string (⟨#[82]⟩ : ByteArray), .int .i64 1] rfl (by (try simp only [List.map_toArray, List.map_cons, List.map_nil]); first | done | rfl | (simp only [List.length_drop, List.length_take]; rfl)) ?_; (with_reducible refine (typed_in.calls (⟨#[82]⟩ : ByteArray) 1 t181 t182 t183 _ A63.out).mono ?_); rintro e w66 ⟨rfl, hb⟩; refine ⟨_, rfl, ?_⟩; have n0_ := Aside0.mk (below_step (by repeat (first | (with_reducible first | exact HB.out | apply below_alloc | apply pw_below_drewN | apply below_drew1) | exact HB.out)) hb); clear HB; have HB := n0_; clear n0_; (try clear hb); (try clear hb2); (try clear hk); (try clear hi)) | ((with_reducible refine gate_callee (f := 45) rfl ?_); refine goesL_ (some 45) rfl rfl Tryd.func45 (by kernel_rfl) rfl #[.string (⟨#[81, 49]⟩ : ByteArray), .int .i64 1] rfl (by (try simp only [List.map_toArray, List.map_cons, List.map_nil]); first | done | rfl | (simp only [List.length_drop, List.length_take]; rfl)) ?_; (with_reducible refine (typed_out.calls (⟨#[81, 49]⟩ : ByteArray) 1 t184 t185 t186 _ A64.out).mono ?_); rintro e w67 ⟨rfl, hb⟩; refine ⟨_, rfl, ?_⟩; have n0_ := Aside0.mk (below_step (by repeat (first | (with_reducible first | exact HB.out | apply below_alloc | apply pw_below_drewN | apply below_drew1) | exact HB.out)) hb); clear HB; have HB := n0_; clear n0_; (try clear hb); (try clear hb2); (try clear hk); (try clear hi)) | ((with_reducible refine gate_dst (N := 46) rfl ?_); refine Kd.R_lit k60 _ 60 ?hg (N := 46) ?hd (xs := ([(⟨t178, t179, t180⟩ : S60), (⟨t181, t182, t183⟩ : S60), (⟨t184, t185, t186⟩ : S60)] : List (S60))) (inner := [.string t178, .int .i64 t179, .bool t180, .string t181, .int .i64 t182, .bool t183, .string t184, .int .i64 t185, .bool t186]) (ok := fun _ => True) (okp := fun _ => True) ?hr ?hp (fun _ hk => hk) trivial (Below.refl _ _) (Nat.le_refl _) (by simp) ?_; (case hd => rfl); (case hg => rfl); (case hr => first | (go_simp; done) | (go_simp; rfl)); (case hp => exact (Reps.c3 (show Kd.M k60 _ _ _ (⟨t178, t179, t180⟩ : S60) [.string t178, .int .i64 t179, .bool t180] from (k60_mkM _ _ _ (⟨t178, t179, t180⟩ : S60) )) (Reps.c3 (show Kd.M k60 _ _ _ (⟨t181, t182, t183⟩ : S60) [.string t181, .int .i64 t182, .bool t183] from (k60_mkM _ _ _ (⟨t181, t182, t183⟩ : S60) )) (Reps.c3 (show Kd.M k60 _ _ _ (⟨t184, t185, t186⟩ : S60) [.string t184, .int .i64 t185, .bool t186] from (k60_mkM _ _ _ (⟨t184, t185, t186⟩ : S60) )) (Reps.none _ _))))); intro v188 w68 ho69 hb hg_ hnew_; clear hg_ hnew_; (first | rw [← Ny187.out] at ho69 | (simp only [Int.reduceToNat] at ho69; rw [← Ny187.out] at ho69)); have n0_ := Aside0.mk (Kd.R_lower ho69 (below_size (by repeat (first | (with_reducible first | exact HB.out | apply below_alloc | apply pw_below_drewN | apply below_drew1) | exact HB.out)))); have n1_ := Aside0.mk (below_step (by repeat (first | (with_reducible first | exact HB.out | apply below_alloc | apply pw_below_drewN | apply below_drew1) | exact HB.out)) hb); clear HB; have HO189 := n0_; have HB := n1_; clear n0_ n1_; clear hb ho69))
                    go_ret2
                    exact ⟨_, by first | rfl | (simp [errW_none, errW_some] <;> rfl) | (simp [*, errW_none, errW_some] <;> rfl), by (with_reducible repeat (first | apply Kd.R_alloc | apply Kd.R_drewN | apply Kd.R_drew)); exact HO189.out, by repeat (first | (with_reducible first | exact HB.out | apply below_alloc | apply pw_below_drewN | apply below_drew1) | exact HB.out)⟩
                  · rw [if_neg c61] at H
                    have c61b0 : (a0 == 8) = false := beq_eq_false_iff_ne.mpr c61
                    have c61b1 : (a0 != 8) = true := bne_iff_ne.mpr c61
                    by_cases c70 : a0 = 9
                    · rw [if_pos c70] at H
                      have c70b0 : (a0 == 9) = true := beq_iff_eq.mpr c70
                      have c70b1 : (a0 != 9) = false := bne_eq_false_iff_eq.mpr c70
                      clear c70
                      replace H := Option.bind_eq_some_iff.mp H
                      obtain ⟨⟨t190, t191, t192⟩, A710, H⟩ := H
                      replace H : ((typed_in.f (⟨#[82, 49]⟩ : ByteArray) 1).bind fun bt193 => ((typed_out.f (⟨#[81, 49]⟩ : ByteArray) 1).bind fun bt196 => (some ((([(⟨t190, t191, t192⟩ : S60), (⟨bt193.1, bt193.2.1, bt193.2.2⟩ : S60), (⟨bt196.1, bt196.2.1, bt196.2.2⟩ : S60)] : List (S60))), 0)))) = some (r1, r2) := H
                      have A71 := Aside0.mk A710
                      clear A710
                      replace H := Option.bind_eq_some_iff.mp H
                      obtain ⟨⟨t193, t194, t195⟩, A720, H⟩ := H
                      replace H : ((typed_out.f (⟨#[81, 49]⟩ : ByteArray) 1).bind fun bt196 => (some ((([(⟨t190, t191, t192⟩ : S60), (⟨t193, t194, t195⟩ : S60), (⟨bt196.1, bt196.2.1, bt196.2.2⟩ : S60)] : List (S60))), 0))) = some (r1, r2) := H
                      have A72 := Aside0.mk A720
                      clear A720
                      replace H := Option.bind_eq_some_iff.mp H
                      obtain ⟨⟨t196, t197, t198⟩, A730, H⟩ := H
                      replace H : (some ((([(⟨t190, t191, t192⟩ : S60), (⟨t193, t194, t195⟩ : S60), (⟨t196, t197, t198⟩ : S60)] : List (S60))), 0)) = some (r1, r2) := H
                      have A73 := Aside0.mk A730
                      clear A730
                      obtain ⟨y199, hy199⟩ : ∃ y_ : List (S60), y_ = (([(⟨t190, t191, t192⟩ : S60), (⟨t193, t194, t195⟩ : S60), (⟨t196, t197, t198⟩ : S60)] : List (S60))) := ⟨_, rfl⟩
                      replace H : (some (y199, 0)) = some (r1, r2) := by first | (rw [hy199]; with_reducible exact H) | (have H2_ := (Option.bind_some _ _).symm.trans H; rw [hy199]; with_reducible exact H2_) | (have H2_ := (Option.bind_some _ _).symm.trans H; with_reducible exact H2_) | with_reducible exact H | (rw [hy199]; exact H) | exact H
                      have Ny199 := Aside0.mk hy199
                      clear hy199
                      simp only [Option.some.injEq, Prod.mk.injEq] at H
                      obtain ⟨rfl, rfl⟩ := H
                      go_wp2_with (first | ((with_reducible refine gate_callee (f := 44) rfl ?_); refine goesL_ (some 49) rfl rfl Tryd.func44 (by kernel_rfl) rfl #[.string (⟨#[83]⟩ : ByteArray), .int .i64 1] rfl (by (try simp only [List.map_toArray, List.map_cons, List.map_nil]); first | done | rfl | (simp only [List.length_drop, List.length_take]; rfl)) ?_; (with_reducible refine (typed_in.calls (⟨#[83]⟩ : ByteArray) 1 t190 t191 t192 _ A71.out).mono ?_); rintro e w74 ⟨rfl, hb⟩; refine ⟨_, rfl, ?_⟩; have n0_ := Aside0.mk (below_step (by repeat (first | (with_reducible first | exact HB.out | apply below_alloc | apply pw_below_drewN | apply below_drew1) | exact HB.out)) hb); clear HB; have HB := n0_; clear n0_; (try clear hb); (try clear hb2); (try clear hk); (try clear hi)) | ((with_reducible refine gate_callee (f := 44) rfl ?_); refine goesL_ (some 50) rfl rfl Tryd.func44 (by kernel_rfl) rfl #[.string (⟨#[82, 49]⟩ : ByteArray), .int .i64 1] rfl (by (try simp only [List.map_toArray, List.map_cons, List.map_nil]); first | done | rfl | (simp only [List.length_drop, List.length_take]; rfl)) ?_; (with_reducible refine (typed_in.calls (⟨#[82, 49]⟩ : ByteArray) 1 t193 t194 t195 _ A72.out).mono ?_); rintro e w75 ⟨rfl, hb⟩; refine ⟨_, rfl, ?_⟩; have n0_ := Aside0.mk (below_step (by repeat (first | (with_reducible first | exact HB.out | apply below_alloc | apply pw_below_drewN | apply below_drew1) | exact HB.out)) hb); clear HB; have HB := n0_; clear n0_; (try clear hb); (try clear hb2); (try clear hk); (try clear hi)) | ((with_reducible refine gate_callee (f := 45) rfl ?_); refine goesL_ (some 51) rfl rfl Tryd.func45 (by kernel_rfl) rfl #[.string (⟨#[81, 49]⟩ : ByteArray), .int .i64 1] rfl (by (try simp only [List.map_toArray, List.map_cons, List.map_nil]); first | done | rfl | (simp only [List.length_drop, List.length_take]; rfl)) ?_; (with_reducible refine (typed_out.calls (⟨#[81, 49]⟩ : ByteArray) 1 t196 t197 t198 _ A73.out).mono ?_); rintro e w76 ⟨rfl, hb⟩; refine ⟨_, rfl, ?_⟩; have n0_ := Aside0.mk (below_step (by repeat (first | (with_reducible first | exact HB.out | apply below_alloc | apply pw_below_drewN | apply below_drew1) | exact HB.out)) hb); clear HB; have HB := n0_; clear n0_; (try clear hb); (try clear hb2); (try clear hk); (try clear hi)) | ((with_reducible refine gate_dst (N := 52) rfl ?_); refine Kd.R_lit k60 _ 60 ?hg (N := 52) ?hd (xs := ([(⟨t190, t191, t192⟩ : S60), (⟨t193, t194, t195⟩ : S60), (⟨t196, t197, t198⟩ : S60)] : List (S60))) (inner := [.string t190, .int .i64 t191, .bool t192, .string t193, .int .i64 t194, .bool t195, .string t196, .int .i64 t197, .bool t198]) (ok := fun _ => True) (okp := fun _ => True) ?hr ?hp (fun _ hk => hk) trivial (Below.refl _ _) (Nat.le_refl _) (by simp) ?_; (case hd => rfl); (case hg => rfl); (case hr => first | (go_simp; done) | (go_simp; rfl)); (case hp => exact (Reps.c3 (show Kd.M k60 _ _ _ (⟨t190, t191, t192⟩ : S60) [.string t190, .int .i64 t191, .bool t192] from (k60_mkM _ _ _ (⟨t190, t191, t192⟩ : S60) )) (Reps.c3 (show Kd.M k60 _ _ _ (⟨t193, t194, t195⟩ : S60) [.string t193, .int .i64 t194, .bool t195] from (k60_mkM _ _ _ (⟨t193, t194, t195⟩ : S60) )) (Reps.c3 (show Kd.M k60 _ _ _ (⟨t196, t197, t198⟩ : S60) [.string t196, .int .i64 t197, .bool t198] from (k60_mkM _ _ _ (⟨t196, t197, t198⟩ : S60) )) (Reps.none _ _))))); intro v200 w77 ho78 hb hg_ hnew_; clear hg_ hnew_; (first | rw [← Ny199.out] at ho78 | (simp only [Int.reduceToNat] at ho78; rw [← Ny199.out] at ho78)); have n0_ := Aside0.mk (Kd.R_lower ho78 (below_size (by repeat (first | (with_reducible first | exact HB.out | apply below_alloc | apply pw_below_drewN | apply below_drew1) | exact HB.out)))); have n1_ := Aside0.mk (below_step (by repeat (first | (with_reducible first | exact HB.out | apply below_alloc | apply pw_below_drewN | apply below_drew1) | exact HB.out)) hb); clear HB; have HO201 := n0_; have HB := n1_; clear n0_ n1_; clear hb ho78))
                      go_ret2
                      exact ⟨_, by first | rfl | (simp [errW_none, errW_some] <;> rfl) | (simp [*, errW_none, errW_some] <;> rfl), by (with_reducible repeat (first | apply Kd.R_alloc | apply Kd.R_drewN | apply Kd.R_drew)); exact HO201.out, by repeat (first | (with_reducible first | exact HB.out | apply below_alloc | apply pw_below_drewN | apply below_drew1) | exact HB.out)⟩
                    · rw [if_neg c70] at H
                      have c70b0 : (a0 == 9) = false := beq_eq_false_iff_ne.mpr c70
                      have c70b1 : (a0 != 9) = true := bne_iff_ne.mpr c70
                      by_cases c79 : a0 = 10
                      · rw [if_pos c79] at H
                        have c79b0 : (a0 == 10) = true := beq_iff_eq.mpr c79
                        have c79b1 : (a0 != 10) = false := bne_eq_false_iff_eq.mpr c79
                        clear c79
                        replace H := Option.bind_eq_some_iff.mp H
                        obtain ⟨⟨t202, t203, t204⟩, A800, H⟩ := H
                        replace H : ((typed_in.f (⟨#[66]⟩ : ByteArray) 1).bind fun bt205 => ((typed_in.f (⟨#[82]⟩ : ByteArray) 1).bind fun bt208 => ((typed_out.f (⟨#[67, 86]⟩ : ByteArray) 3).bind fun bt211 => ((typed_out.f (⟨#[69, 82, 82]⟩ : ByteArray) 1).bind fun bt214 => ((typed_out.f (⟨#[76, 65, 83, 84]⟩ : ByteArray) 2).bind fun bt217 => (some ((([(⟨t202, t203, t204⟩ : S60), (⟨bt205.1, bt205.2.1, bt205.2.2⟩ : S60), (⟨bt208.1, bt208.2.1, bt208.2.2⟩ : S60), (⟨bt211.1, bt211.2.1, bt211.2.2⟩ : S60), (⟨bt214.1, bt214.2.1, bt214.2.2⟩ : S60), (⟨bt217.1, bt217.2.1, bt217.2.2⟩ : S60)] : List (S60))), 0))))))) = some (r1, r2) := H
                        have A80 := Aside0.mk A800
                        clear A800
                        replace H := Option.bind_eq_some_iff.mp H
                        obtain ⟨⟨t205, t206, t207⟩, A810, H⟩ := H
                        replace H : ((typed_in.f (⟨#[82]⟩ : ByteArray) 1).bind fun bt208 => ((typed_out.f (⟨#[67, 86]⟩ : ByteArray) 3).bind fun bt211 => ((typed_out.f (⟨#[69, 82, 82]⟩ : ByteArray) 1).bind fun bt214 => ((typed_out.f (⟨#[76, 65, 83, 84]⟩ : ByteArray) 2).bind fun bt217 => (some ((([(⟨t202, t203, t204⟩ : S60), (⟨t205, t206, t207⟩ : S60), (⟨bt208.1, bt208.2.1, bt208.2.2⟩ : S60), (⟨bt211.1, bt211.2.1, bt211.2.2⟩ : S60), (⟨bt214.1, bt214.2.1, bt214.2.2⟩ : S60), (⟨bt217.1, bt217.2.1, bt217.2.2⟩ : S60)] : List (S60))), 0)))))) = some (r1, r2) := H
                        have A81 := Aside0.mk A810
                        clear A810
                        replace H := Option.bind_eq_some_iff.mp H
                        obtain ⟨⟨t208, t209, t210⟩, A820, H⟩ := H
                        replace H : ((typed_out.f (⟨#[67, 86]⟩ : ByteArray) 3).bind fun bt211 => ((typed_out.f (⟨#[69, 82, 82]⟩ : ByteArray) 1).bind fun bt214 => ((typed_out.f (⟨#[76, 65, 83, 84]⟩ : ByteArray) 2).bind fun bt217 => (some ((([(⟨t202, t203, t204⟩ : S60), (⟨t205, t206, t207⟩ : S60), (⟨t208, t209, t210⟩ : S60), (⟨bt211.1, bt211.2.1, bt211.2.2⟩ : S60), (⟨bt214.1, bt214.2.1, bt214.2.2⟩ : S60), (⟨bt217.1, bt217.2.1, bt217.2.2⟩ : S60)] : List (S60))), 0))))) = some (r1, r2) := H
                        have A82 := Aside0.mk A820
                        clear A820
                        replace H := Option.bind_eq_some_iff.mp H
                        obtain ⟨⟨t211, t212, t213⟩, A830, H⟩ := H
                        replace H : ((typed_out.f (⟨#[69, 82, 82]⟩ : ByteArray) 1).bind fun bt214 => ((typed_out.f (⟨#[76, 65, 83, 84]⟩ : ByteArray) 2).bind fun bt217 => (some ((([(⟨t202, t203, t204⟩ : S60), (⟨t205, t206, t207⟩ : S60), (⟨t208, t209, t210⟩ : S60), (⟨t211, t212, t213⟩ : S60), (⟨bt214.1, bt214.2.1, bt214.2.2⟩ : S60), (⟨bt217.1, bt217.2.1, bt217.2.2⟩ : S60)] : List (S60))), 0)))) = some (r1, r2) := H
                        have A83 := Aside0.mk A830
                        clear A830
                        replace H := Option.bind_eq_some_iff.mp H
                        obtain ⟨⟨t214, t215, t216⟩, A840, H⟩ := H
                        replace H : ((typed_out.f (⟨#[76, 65, 83, 84]⟩ : ByteArray) 2).bind fun bt217 => (some ((([(⟨t202, t203, t204⟩ : S60), (⟨t205, t206, t207⟩ : S60), (⟨t208, t209, t210⟩ : S60), (⟨t211, t212, t213⟩ : S60), (⟨t214, t215, t216⟩ : S60), (⟨bt217.1, bt217.2.1, bt217.2.2⟩ : S60)] : List (S60))), 0))) = some (r1, r2) := H
                        have A84 := Aside0.mk A840
                        clear A840
                        replace H := Option.bind_eq_some_iff.mp H
                        obtain ⟨⟨t217, t218, t219⟩, A850, H⟩ := H
                        replace H : (some ((([(⟨t202, t203, t204⟩ : S60), (⟨t205, t206, t207⟩ : S60), (⟨t208, t209, t210⟩ : S60), (⟨t211, t212, t213⟩ : S60), (⟨t214, t215, t216⟩ : S60), (⟨t217, t218, t219⟩ : S60)] : List (S60))), 0)) = some (r1, r2) := H
                        have A85 := Aside0.mk A850
                        clear A850
                        obtain ⟨y220, hy220⟩ : ∃ y_ : List (S60), y_ = (([(⟨t202, t203, t204⟩ : S60), (⟨t205, t206, t207⟩ : S60), (⟨t208, t209, t210⟩ : S60), (⟨t211, t212, t213⟩ : S60), (⟨t214, t215, t216⟩ : S60), (⟨t217, t218, t219⟩ : S60)] : List (S60))) := ⟨_, rfl⟩
                        replace H : (some (y220, 0)) = some (r1, r2) := by first | (rw [hy220]; with_reducible exact H) | (have H2_ := (Option.bind_some _ _).symm.trans H; rw [hy220]; with_reducible exact H2_) | (have H2_ := (Option.bind_some _ _).symm.trans H; with_reducible exact H2_) | with_reducible exact H | (rw [hy220]; exact H) | exact H
                        have Ny220 := Aside0.mk hy220
                        clear hy220
                        simp only [Option.some.injEq, Prod.mk.injEq] at H
                        obtain ⟨rfl, rfl⟩ := H
                        go_wp2_with (first | ((with_reducible refine gate_callee (f := 44) rfl ?_); refine goesL_ (some 55) rfl rfl Tryd.func44 (by kernel_rfl) rfl #[.string (⟨#[65]⟩ : ByteArray), .int .i64 1] rfl (by (try simp only [List.map_toArray, List.map_cons, List.map_nil]); first | done | rfl | (simp only [List.length_drop, List.length_take]; rfl)) ?_; (with_reducible refine (typed_in.calls (⟨#[65]⟩ : ByteArray) 1 t202 t203 t204 _ A80.out).mono ?_); rintro e w86 ⟨rfl, hb⟩; refine ⟨_, rfl, ?_⟩; have n0_ := Aside0.mk (below_step (by repeat (first | (with_reducible first | exact HB.out | apply below_alloc | apply pw_below_drewN | apply below_drew1) | exact HB.out)) hb); clear HB; have HB := n0_; clear n0_; (try clear hb); (try clear hb2); (try clear hk); (try clear hi)) | ((with_reducible refine gate_callee (f := 44) rfl ?_); refine goesL_ (some 56) rfl rfl Tryd.func44 (by kernel_rfl) rfl #[.string (⟨#[66]⟩ : ByteArray), .int .i64 1] rfl (by (try simp only [List.map_toArray, List.map_cons, List.map_nil]); first | done | rfl | (simp only [List.length_drop, List.length_take]; rfl)) ?_; (with_reducible refine (typed_in.calls (⟨#[66]⟩ : ByteArray) 1 t205 t206 t207 _ A81.out).mono ?_); rintro e w87 ⟨rfl, hb⟩; refine ⟨_, rfl, ?_⟩; have n0_ := Aside0.mk (below_step (by repeat (first | (with_reducible first | exact HB.out | apply below_alloc | apply pw_below_drewN | apply below_drew1) | exact HB.out)) hb); clear HB; have HB := n0_; clear n0_; (try clear hb); (try clear hb2); (try clear hk); (try clear hi)) | ((with_reducible refine gate_callee (f := 44) rfl ?_); refine goesL_ (some 57) rfl rfl Tryd.func44 (by kernel_rfl) rfl #[.string (⟨#[82]⟩ : ByteArray), .int .i64 1] rfl (by (try simp only [List.map_toArray, List.map_cons, List.map_nil]); first | done | rfl | (simp only [List.length_drop, List.length_take]; rfl)) ?_; (with_reducible refine (typed_in.calls (⟨#[82]⟩ : ByteArray) 1 t208 t209 t210 _ A82.out).mono ?_); rintro e w88 ⟨rfl, hb⟩; refine ⟨_, rfl, ?_⟩; have n0_ := Aside0.mk (below_step (by repeat (first | (with_reducible first | exact HB.out | apply below_alloc | apply pw_below_drewN | apply below_drew1) | exact HB.out)) hb); clear HB; have HB := n0_; clear n0_; (try clear hb); (try clear hb2); (try clear hk); (try clear hi)) | ((with_reducible refine gate_callee (f := 45) rfl ?_); refine goesL_ (some 58) rfl rfl Tryd.func45 (by kernel_rfl) rfl #[.string (⟨#[67, 86]⟩ : ByteArray), .int .i64 3] rfl (by (try simp only [List.map_toArray, List.map_cons, List.map_nil]); first | done | rfl | (simp only [List.length_drop, List.length_take]; rfl)) ?_; (with_reducible refine (typed_out.calls (⟨#[67, 86]⟩ : ByteArray) 3 t211 t212 t213 _ A83.out).mono ?_); rintro e w89 ⟨rfl, hb⟩; refine ⟨_, rfl, ?_⟩; have n0_ := Aside0.mk (below_step (by repeat (first | (with_reducible first | exact HB.out | apply below_alloc | apply pw_below_drewN | apply below_drew1) | exact HB.out)) hb); clear HB; have HB := n0_; clear n0_; (try clear hb); (try clear hb2); (try clear hk); (try clear hi)) | ((with_reducible refine gate_callee (f := 45) rfl ?_); refine goesL_ (some 59) rfl rfl Tryd.func45 (by kernel_rfl) rfl #[.string (⟨#[69, 82, 82]⟩ : ByteArray), .int .i64 1] rfl (by (try simp only [List.map_toArray, List.map_cons, List.map_nil]); first | done | rfl | (simp only [List.length_drop, List.length_take]; rfl)) ?_; (with_reducible refine (typed_out.calls (⟨#[69, 82, 82]⟩ : ByteArray) 1 t214 t215 t216 _ A84.out).mono ?_); rintro e w90 ⟨rfl, hb⟩; refine ⟨_, rfl, ?_⟩; have n0_ := Aside0.mk (below_step (by repeat (first | (with_reducible first | exact HB.out | apply below_alloc | apply pw_below_drewN | apply below_drew1) | exact HB.out)) hb); clear HB; have HB := n0_; clear n0_; (try clear hb); (try clear hb2); (try clear hk); (try clear hi)) | ((with_reducible refine gate_callee (f := 45) rfl ?_); refine goesL_ (some 60) rfl rfl Tryd.func45 (by kernel_rfl) rfl #[.string (⟨#[76, 65, 83, 84]⟩ : ByteArray), .int .i64 2] rfl (by (try simp only [List.map_toArray, List.map_cons, List.map_nil]); first | done | rfl | (simp only [List.length_drop, List.length_take]; rfl)) ?_; (with_reducible refine (typed_out.calls (⟨#[76, 65, 83, 84]⟩ : ByteArray) 2 t217 t218 t219 _ A85.out).mono ?_); rintro e w91 ⟨rfl, hb⟩; refine ⟨_, rfl, ?_⟩; have n0_ := Aside0.mk (below_step (by repeat (first | (with_reducible first | exact HB.out | apply below_alloc | apply pw_below_drewN | apply below_drew1) | exact HB.out)) hb); clear HB; have HB := n0_; clear n0_; (try clear hb); (try clear hb2); (try clear hk); (try clear hi)) | ((with_reducible refine gate_dst (N := 61) rfl ?_); refine Kd.R_lit k60 _ 60 ?hg (N := 61) ?hd (xs := ([(⟨t202, t203, t204⟩ : S60), (⟨t205, t206, t207⟩ : S60), (⟨t208, t209, t210⟩ : S60), (⟨t211, t212, t213⟩ : S60), (⟨t214, t215, t216⟩ : S60), (⟨t217, t218, t219⟩ : S60)] : List (S60))) (inner := [.string t202, .int .i64 t203, .bool t204, .string t205, .int .i64 t206, .bool t207, .string t208, .int .i64 t209, .bool t210, .string t211, .int .i64 t212, .bool t213, .string t214, .int .i64 t215, .bool t216, .string t217, .int .i64 t218, .bool t219]) (ok := fun _ => True) (okp := fun _ => True) ?hr ?hp (fun _ hk => hk) trivial (Below.refl _ _) (Nat.le_refl _) (by simp) ?_; (case hd => rfl); (case hg => rfl); (case hr => first | (go_simp; done) | (go_simp; rfl)); (case hp => exact (Reps.c3 (show Kd.M k60 _ _ _ (⟨t202, t203, t204⟩ : S60) [.string t202, .int .i64 t203, .bool t204] from (k60_mkM _ _ _ (⟨t202, t203, t204⟩ : S60) )) (Reps.c3 (show Kd.M k60 _ _ _ (⟨t205, t206, t207⟩ : S60) [.string t205, .int .i64 t206, .bool t207] from (k60_mkM _ _ _ (⟨t205, t206, t207⟩ : S60) )) (Reps.c3 (show Kd.M k60 _ _ _ (⟨t208, t209, t210⟩ : S60) [.string t208, .int .i64 t209, .bool t210] from (k60_mkM _ _ _ (⟨t208, t209, t210⟩ : S60) )) (Reps.c3 (show Kd.M k60 _ _ _ (⟨t211, t212, t213⟩ : S60) [.string t211, .int .i64 t212, .bool t213] from (k60_mkM _ _ _ (⟨t211, t212, t213⟩ : S60) )) (Reps.c3 (show Kd.M k60 _ _ _ (⟨t214, t215, t216⟩ : S60) [.string t214, .int .i64 t215, .bool t216] from (k60_mkM _ _ _ (⟨t214, t215, t216⟩ : S60) )) (Reps.c3 (show Kd.M k60 _ _ _ (⟨t217, t218, t219⟩ : S60) [.string t217, .int .i64 t218, .bool t219] from (k60_mkM _ _ _ (⟨t217, t218, t219⟩ : S60) )) (Reps.none _ _)))))))); intro v221 w92 ho93 hb hg_ hnew_; clear hg_ hnew_; (first | rw [← Ny220.out] at ho93 | (simp only [Int.reduceToNat] at ho93; rw [← Ny220.out] at ho93)); have n0_ := Aside0.mk (Kd.R_lower ho93 (below_size (by repeat (first | (with_reducible first | exact HB.out | apply below_alloc | apply pw_below_drewN | apply below_drew1) | exact HB.out)))); have n1_ := Aside0.mk (below_step (by repeat (first | (with_reducible first | exact HB.out | apply below_alloc | apply pw_below_drewN | apply below_drew1) | exact HB.out)) hb); clear HB; have HO222 := n0_; have HB := n1_; clear n0_ n1_; clear hb ho93))
                        go_ret2
                        exact ⟨_, by first | rfl | (simp [errW_none, errW_some] <;> rfl) | (simp [*, errW_none, errW_some] <;> rfl), by (with_reducible repeat (first | apply Kd.R_alloc | apply Kd.R_drewN | apply Kd.R_drew)); exact HO222.out, by repeat (first | (with_reducible first | exact HB.out | apply below_alloc | apply pw_below_drewN | apply below_drew1) | exact HB.out)⟩
                      · rw [if_neg c79] at H
                        have c79b0 : (a0 == 10) = false := beq_eq_false_iff_ne.mpr c79
                        have c79b1 : (a0 != 10) = true := bne_iff_ne.mpr c79
                        simp only [Option.some.injEq, Prod.mk.injEq] at H
                        obtain ⟨rfl, rfl⟩ := H
                        go_wp2
                        go_ret2
                        exact ⟨_, by first | rfl | (simp [errW_none, errW_some] <;> rfl) | (simp [*, errW_none, errW_some] <;> rfl), by first | exact Kd.R_nil _ _ _ _ _ | exact Kd.N_nil _ _ _ _ _ | exact Kd.V_nil _ _ _ _ _ | exact Kd.Q_nil _ _ _ _ _ | exact Kd.S_nil _ _ _ _ _, by repeat (first | (with_reducible first | exact HB.out | apply below_alloc | apply pw_below_drewN | apply below_drew1) | exact HB.out)⟩

/-! ### num_known: function 46 -/
def num_known.f (a0 : Int) : Option (Bool) := if a0 ≥ 1 then (some (decide (a0 ≤ 4))) else (some false)
set_option maxHeartbeats 8000000 in
set_option maxRecDepth 100000 in
theorem num_known.calls (a0 : Int) (r : Bool) (w : World) (h : num_known.f a0 = some r) :
    Calls Tryd.prog 46 #[.int .i64 a0] w fun e w' => e = .returned (.bool r) ∧ Drawn0 w w' := by
  have H : (if a0 ≥ 1 then (some (decide (a0 ≤ 4))) else (some false)) = some r := h
  clear h
  by_cases c2 : a0 ≥ 1
  · rw [if_pos c2] at H
    have c2b0 : decide (1 ≤ a0) = true := decide_eq_true c2
    clear c2
    obtain rfl := Option.some.inj H
    go_enter Tryd.func46, Tryd.ntmps46
    go_wp2
    go_ret
    exact ⟨by first | rfl | (simp; done) | (simp [*]; done), by repeat (first | exact Drawn0.refl _ | apply Drawn0.step)⟩
  · rw [if_neg c2] at H
    have c2b0 : decide (1 ≤ a0) = false := decide_eq_false c2
    clear c2
    obtain rfl := Option.some.inj H
    go_enter Tryd.func46, Tryd.ntmps46
    go_wp2
    go_ret
    exact ⟨by first | rfl | (simp; done) | (simp [*]; done), by repeat (first | exact Drawn0.refl _ | apply Drawn0.step)⟩

/-! ### num_wrap: function 47 -/
def num_wrap.f (a0 : Int) (a1 : Int) : Option (Int) := if a0 = 1 then (some (Go.bits .and .i64 a1 1)) else (if a0 = 2 then (some (wrap64 (IntKind.i16.wrap (a1)))) else (some (wrap64 (wrap32 (a1)))))
set_option maxHeartbeats 8000000 in
set_option maxRecDepth 100000 in
theorem num_wrap.calls (a0 : Int) (a1 : Int) (r : Int) (w : World) (h : num_wrap.f a0 a1 = some r) :
    Calls Tryd.prog 47 #[.int .i64 a0, .int .i64 a1] w fun e w' => e = .returned (.int .i64 r) ∧ Drawn0 w w' := by
  have H : (if a0 = 1 then (some (Go.bits .and .i64 a1 1)) else (if a0 = 2 then (some (wrap64 (IntKind.i16.wrap (a1)))) else (some (wrap64 (wrap32 (a1)))))) = some r := h
  clear h
  by_cases c3 : a0 = 1
  · rw [if_pos c3] at H
    have c3b0 : (a0 == 1) = true := beq_iff_eq.mpr c3
    have c3b1 : (a0 != 1) = false := bne_eq_false_iff_eq.mpr c3
    clear c3
    obtain rfl := Option.some.inj H
    go_enter Tryd.func47, Tryd.ntmps47
    go_wp2
    go_ret
    exact ⟨by first | rfl | (simp; done) | (simp [*]; done), by repeat (first | exact Drawn0.refl _ | apply Drawn0.step)⟩
  · rw [if_neg c3] at H
    have c3b0 : (a0 == 1) = false := beq_eq_false_iff_ne.mpr c3
    have c3b1 : (a0 != 1) = true := bne_iff_ne.mpr c3
    by_cases c4 : a0 = 2
    · rw [if_pos c4] at H
      have c4b0 : (a0 == 2) = true := beq_iff_eq.mpr c4
      have c4b1 : (a0 != 2) = false := bne_eq_false_iff_eq.mpr c4
      clear c4
      obtain rfl := Option.some.inj H
      go_enter Tryd.func47, Tryd.ntmps47
      go_wp2
      go_ret
      exact ⟨by first | rfl | (simp; done) | (simp [*]; done), by repeat (first | exact Drawn0.refl _ | apply Drawn0.step)⟩
    · rw [if_neg c4] at H
      have c4b0 : (a0 == 2) = false := beq_eq_false_iff_ne.mpr c4
      have c4b1 : (a0 != 2) = true := bne_iff_ne.mpr c4
      obtain rfl := Option.some.inj H
      go_enter Tryd.func47, Tryd.ntmps47
      go_wp2
      go_ret
      exact ⟨by first | rfl | (simp; done) | (simp [*]; done), by repeat (first | exact Drawn0.refl _ | apply Drawn0.step)⟩

/-! ### num_Fits: function 29 -/
def num_Fits.f (a0 : Int) (a1 : Int) : Option (Bool) := (num_known.f a0).bind fun t223 => (if t223 = true then ((num_wrap.f a0 a1).bind fun t224 => (some (t224 == a1))) else (some false))
set_option maxHeartbeats 8000000 in
set_option maxRecDepth 100000 in
theorem num_Fits.calls (a0 : Int) (a1 : Int) (r : Bool) (w : World) (h : num_Fits.f a0 a1 = some r) :
    Calls Tryd.prog 29 #[.int .i64 a0, .int .i64 a1] w fun e w' => e = .returned (.bool r) ∧ Drawn0 w w' := by
  have H : ((num_known.f a0).bind fun t223 => (if t223 = true then ((num_wrap.f a0 a1).bind fun t224 => (some (t224 == a1))) else (some false))) = some r := h
  clear h
  replace H := Option.bind_eq_some_iff.mp H
  obtain ⟨t223, A30, H⟩ := H
  replace H : (if t223 = true then ((num_wrap.f a0 a1).bind fun t224 => (some (t224 == a1))) else (some false)) = some r := H
  have A3 := Aside0.mk A30
  clear A30
  by_cases c4 : t223 = true
  · subst c4
    have H1 : ((num_wrap.f a0 a1).bind fun t224 => (some (t224 == a1))) = some r := by rw [if_pos rfl] at H; exact H
    clear H
    have H := H1
    clear H1
    replace H := Option.bind_eq_some_iff.mp H
    obtain ⟨t224, A50, H⟩ := H
    replace H : (some (t224 == a1)) = some r := H
    have A5 := Aside0.mk A50
    clear A50
    obtain rfl := Option.some.inj H
    go_enter Tryd.func29, Tryd.ntmps29
    go_wp2_with (first | ((with_reducible refine gate_callee (f := 46) rfl ?_); refine goesL_ (some 6) rfl rfl Tryd.func46 (by kernel_rfl) rfl #[.int .i64 a0] rfl (by (try simp only [List.map_toArray, List.map_cons, List.map_nil]); first | done | rfl | (simp only [List.length_drop, List.length_take]; rfl)) ?_; (with_reducible refine (num_known.calls a0 true _ A3.out).mono ?_); rintro e w' ⟨rfl, ⟨nd, rfl⟩⟩; refine ⟨_, rfl, ?_⟩) | (go_at_call 47; (with_reducible refine (num_wrap.calls a0 a1 t224 _ A5.out).mono ?_); rintro e w' ⟨rfl, ⟨nd, rfl⟩⟩))
    go_ret
    exact ⟨by first | rfl | (simp; done) | (simp [*]; done), by repeat (first | exact Drawn0.refl _ | apply Drawn0.step)⟩
  · replace c4 := Bool.eq_false_iff.mpr c4
    subst c4
    have H1 : (some false) = some r := by rw [if_neg (show ¬ (false = true) by decide)] at H; exact H
    clear H
    have H := H1
    clear H1
    obtain rfl := Option.some.inj H
    go_enter Tryd.func29, Tryd.ntmps29
    go_wp2_with (first | ((with_reducible refine gate_callee (f := 46) rfl ?_); refine goesL_ (some 6) rfl rfl Tryd.func46 (by kernel_rfl) rfl #[.int .i64 a0] rfl (by (try simp only [List.map_toArray, List.map_cons, List.map_nil]); first | done | rfl | (simp only [List.length_drop, List.length_take]; rfl)) ?_; (with_reducible refine (num_known.calls a0 false _ A3.out).mono ?_); rintro e w' ⟨rfl, ⟨nd, rfl⟩⟩; refine ⟨_, rfl, ?_⟩))
    go_ret
    exact ⟨by first | rfl | (simp; done) | (simp [*]; done), by repeat (first | exact Drawn0.refl _ | apply Drawn0.step)⟩

/-! ### block_wrong: function 18 -/
def block_wrong.l0 : Nat → List Int → List (S60) → Int → Int → Option (Int)
  | 0, _, _, _, _ => none
  | k + 1, x1, x24, x25, x26 => if x26 < x25 then (if 0 ≤ x26 then (if x26 < (x24.length : Int) then (if x26 < (x1.length : Int) then ((num_Fits.f ((rd_T60 x24 x26).f1) (rd x1 x26)).bind fun t232 => (if t232 = true then (block_wrong.l0 k x1 x24 x25 (wrap64 (x26 + 1))) else (some 1))) else (none)) else (none)) else (none)) else (some 0)
def block_wrong.f (k : Nat) (a0 : Int) (l1 : List Int) : Option (Int) := (typed_Fields.f k a0).bind fun bt225 => (if bt225.2 = 0 then (if (l1.length : Int) = (bt225.1.length : Int) then (block_wrong.l0 k l1 bt225.1 (bt225.1.length : Int) 0) else (some 4)) else (some bt225.2))
theorem block_wrong.mono_l : ∀ k, (∀ y0 y1 y2 y3, LeO (block_wrong.l0 k y0 y1 y2 y3) (block_wrong.l0 (k + 1) y0 y1 y2 y3))
  | 0 => fun _ _ _ _ r h => by simp [block_wrong.l0] at h
  | k + 1 => by
    have ih0 := block_wrong.mono_l k
    · intro y0 y1 y2 y3
      unfold block_wrong.l0
      repeat' first
      | (with_reducible exact ih0 _ _ _ _)
      | (with_reducible exact typed_Fields.mono _ _)
      | (with_reducible exact LeO.refl _)
      | (with_reducible exact LeO.none _)
      | (with_reducible refine LeO.ite ?_ ?_)
      | (with_reducible refine LeO.bind ?_ (fun _ => ?_))
      | exact ih0 _ _ _ _
      | exact typed_Fields.mono _ _
      | exact LeO.none _
      | refine LeO.ite ?_ ?_
      | refine LeO.bind ?_ (fun _ => ?_)
theorem block_wrong.mono : ∀ a0 a1 k, LeO (block_wrong.f k a0 a1) (block_wrong.f (k + 1) a0 a1) := by
  intro a0 a1 k
  have ih0 := block_wrong.mono_l k
  unfold block_wrong.f
  repeat' first
      | (with_reducible exact ih0 _ _ _ _)
      | (with_reducible exact typed_Fields.mono _ _)
      | (with_reducible exact LeO.refl _)
      | (with_reducible exact LeO.none _)
      | (with_reducible refine LeO.ite ?_ ?_)
      | (with_reducible refine LeO.bind ?_ (fun _ => ?_))
      | exact ih0 _ _ _ _
      | exact typed_Fields.mono _ _
      | exact LeO.none _
      | refine LeO.ite ?_ ?_
      | refine LeO.bind ?_ (fun _ => ?_)
set_option maxHeartbeats 8000000 in
set_option maxRecDepth 100000 in
theorem block_wrong.calls (k : Nat) (a0 : Int) (A1 : Option Addr) (c1 : Nat) (l1 : List Int) (r : Int) (w : World) (hr1 : Kd.C (Kd.int .i64) w A1 l1.length l1) (hc1 : l1.length ≤ c1) (h : block_wrong.f k a0 l1 = some r) :
    Calls Tryd.prog 18 #[.int .i64 a0, .slice A1 l1.length c1] w fun e w' => e = .returned (.int .i64 r) ∧ Below w.heap.size w w' := by
  have hu60 := Tryd.underlying60
  have HR1 := Aside0.mk hr1
  have HC1 := Aside0.mk hc1
  clear hr1 hc1
  have HB := Aside0.mk (Below.refl w.heap.size w)
  have H : ((typed_Fields.f k a0).bind fun bt225 => (if bt225.2 = 0 then (if (l1.length : Int) = (bt225.1.length : Int) then (block_wrong.l0 k l1 bt225.1 (bt225.1.length : Int) 0) else (some 4)) else (some bt225.2))) = some r := h
  clear h
  replace H := Option.bind_eq_some_iff.mp H
  obtain ⟨⟨t225, t226⟩, A30, H⟩ := H
  replace H : (if t226 = 0 then (if (l1.length : Int) = (t225.length : Int) then (block_wrong.l0 k l1 t225 (t225.length : Int) 0) else (some 4)) else (some t226)) = some r := H
  have A3 := Aside0.mk A30
  clear A30
  by_cases c4 : t226 = 0
  · rw [if_pos c4] at H
    have c4b0 : (t226 == 0) = true := beq_iff_eq.mpr c4
    have c4b1 : (t226 != 0) = false := bne_eq_false_iff_eq.mpr c4
    clear c4
    by_cases c5 : (l1.length : Int) = (t225.length : Int)
    · rw [if_pos c5] at H
      have c5b0 : ((l1.length : Int) == (t225.length : Int)) = true := beq_iff_eq.mpr c5
      have c5b1 : ((l1.length : Int) != (t225.length : Int)) = false := bne_eq_false_iff_eq.mpr c5
      have c5b2 : (l1.length == t225.length) = true := by first | simpa using c5 | (simp at c5 ⊢; omega)
      clear c5
      have H' := Aside0.mk H
      clear H
      go_enter Tryd.func18, Tryd.ntmps18
      go_wp2_with (first | (go_at_call 27; (with_reducible refine (typed_Fields.calls k a0 t225 t226 _ A3.out).mono ?_); rintro e w6 ⟨v227, rfl, ho0, hb⟩; have n0_ := Aside0.mk (Kd.R_lower ho0 (below_size (by repeat (first | (with_reducible first | exact HB.out | apply below_alloc | apply pw_below_drewN | apply below_drew1) | exact HB.out)))); have n1_ := Aside0.mk (below_step (by repeat (first | (with_reducible first | exact HB.out | apply below_alloc | apply pw_below_drewN | apply below_drew1) | exact HB.out)) hb); clear HB; have HO228 := n0_; have HB := n1_; clear n0_ n1_; (try clear hb); (try clear hb2); (try clear hk); (try clear hi); (try clear ho0); obtain ⟨Ao7, co7, eo7⟩ := Kd.R_slice HO228.out; subst eo7))
      repeat (go_quiet (first | (go_at_call 27; (with_reducible refine (typed_Fields.calls k a0 t225 t226 _ A3.out).mono ?_); rintro e w6 ⟨v227, rfl, ho0, hb⟩; have n0_ := Aside0.mk (Kd.R_lower ho0 (below_size (by repeat (first | (with_reducible first | exact HB.out | apply below_alloc | apply pw_below_drewN | apply below_drew1) | exact HB.out)))); have n1_ := Aside0.mk (below_step (by repeat (first | (with_reducible first | exact HB.out | apply below_alloc | apply pw_below_drewN | apply below_drew1) | exact HB.out)) hb); clear HB; have HO228 := n0_; have HB := n1_; clear n0_ n1_; (try clear hb); (try clear hb2); (try clear hk); (try clear hi); (try clear ho0); obtain ⟨Ao7, co7, eo7⟩ := Kd.R_slice HO228.out; subst eo7)); try go_wp2_with (first | (go_at_call 27; (with_reducible refine (typed_Fields.calls k a0 t225 t226 _ A3.out).mono ?_); rintro e w6 ⟨v227, rfl, ho0, hb⟩; have n0_ := Aside0.mk (Kd.R_lower ho0 (below_size (by repeat (first | (with_reducible first | exact HB.out | apply below_alloc | apply pw_below_drewN | apply below_drew1) | exact HB.out)))); have n1_ := Aside0.mk (below_step (by repeat (first | (with_reducible first | exact HB.out | apply below_alloc | apply pw_below_drewN | apply below_drew1) | exact HB.out)) hb); clear HB; have HO228 := n0_; have HB := n1_; clear n0_ n1_; (try clear hb); (try clear hb2); (try clear hk); (try clear hi); (try clear ho0); obtain ⟨Ao7, co7, eo7⟩ := Kd.R_slice HO228.out; subst eo7)))
      go_loopg [26] k (fun kq v26 w' => ∃ (x26_1 : Int), v26 = .int .i64 x26_1 ∧ Aside0 (block_wrong.l0 kq l1 t225 (t225.length : Int) x26_1 = some r) ∧ Aside0 (kq ≤ k) ∧ Aside0 (Kd.R k60 60 w' w.heap.size (fun _ => True) (.slice Ao7 t225.length co7) t225) ∧ Aside0 (Below w.heap.size w w'))
      case atStart => exact ⟨(0), (by first | rfl | (simp; done) | (simp [*]; done)), H', ⟨Nat.le_refl _⟩, ⟨by (with_reducible repeat (first | apply Kd.R_alloc | apply Kd.R_drewN | apply Kd.R_drew)); exact HO228.out⟩, ⟨by repeat (first | (with_reducible first | exact HB.out | apply below_alloc | apply pw_below_drewN | apply below_drew1) | exact HB.out)⟩⟩
      case round =>
        clear H'
        try clear c1
        try clear p2
        try clear c4
        try clear c4b0
        try clear c4b1
        try clear c5
        try clear c5b0
        try clear c5b1
        try clear c5b2
        obtain ⟨x26_1, rfl, HA, HK1, HO_24, HB⟩ := hrel
        cases gk with
        | zero => exact absurd HA.out (by simp [block_wrong.l0])
        | succ k1 =>
          have H := HA.out
          clear HA
          simp only [block_wrong.l0] at H
          by_cases c8 : x26_1 < (t225.length : Int)
          · rw [if_pos c8] at H
            have c8b0 : decide (x26_1 < (t225.length : Int)) = true := decide_eq_true c8
            clear c8
            by_cases c9 : 0 ≤ x26_1
            · rw [if_pos c9] at H
              have c9b0 : decide (0 ≤ x26_1) = true := decide_eq_true c9
              clear c9
              by_cases c10 : x26_1 < (t225.length : Int)
              · rw [if_pos c10] at H
                have c10b0 : decide (x26_1 < (t225.length : Int)) = true := decide_eq_true c10
                clear c10
                by_cases c11 : x26_1 < (l1.length : Int)
                · rw [if_pos c11] at H
                  have c11b0 : decide (x26_1 < (l1.length : Int)) = true := decide_eq_true c11
                  clear c11
                  replace H := Option.bind_eq_some_iff.mp H
                  obtain ⟨t232, A120, H⟩ := H
                  replace H : (if t232 = true then (block_wrong.l0 k1 l1 t225 (t225.length : Int) (wrap64 (x26_1 + 1))) else (some 1)) = some r := H
                  have A12 := Aside0.mk A120
                  clear A120
                  by_cases c13 : t232 = true
                  · subst c13
                    have H1 : (block_wrong.l0 k1 l1 t225 (t225.length : Int) (wrap64 (x26_1 + 1))) = some r := by rw [if_pos rfl] at H; exact H
                    clear H
                    have H := H1
                    clear H1
                    have H' := Aside0.mk H
                    clear H
                    have p229 : 0 ≤ (x26_1 : Int) := of_decide_eq_true (by first | (with_reducible assumption) | assumption)
                    have q229 : x26_1 < (t225.length : Int) := of_decide_eq_true (by first | (with_reducible assumption) | assumption)
                    obtain ⟨ad229, e229, hx229_0, hx229_1, hx229_2⟩ := at_T60 (Kd.R_reads' HO_24.out).2.2 x26_1 p229 q229
                    cases e229
                    replace p229 := eq_true p229
                    replace q229 := eq_true q229
                    go_wp2_with (first | ((with_reducible refine gate_dst (N := 8) rfl ?_); refine box_event ?hg (N := 8) ?hd (cs := #[.string (⟨#[]⟩ : ByteArray), .int .i64 0, .bool false]) (t := 60) ?hr ?_; (case hd => rfl); (case hg => rfl); (case hr => first | (go_simp; done) | (go_simp; rfl)); intro gb230 hg w14 hbox hb; have n0_ := Aside0.mk (Kd.R_below (Kd.R_elderB (by (with_reducible repeat (first | apply Kd.R_alloc | apply Kd.R_drewN | apply Kd.R_drew)); exact HO_24.out) gb230 (Nat.le_of_eq hg.symm)) hb); have n1_ := Aside0.mk (below_step (by repeat (first | (with_reducible first | exact HB.out | apply below_alloc | apply pw_below_drewN | apply below_drew1) | exact HB.out)) hb); have n2_ := Aside0.mk (hbox); have n3_ := Aside0.mk ((by rw [hg]; exact (below_size (by repeat (first | (with_reducible first | exact HB.out | apply below_alloc | apply pw_below_drewN | apply below_drew1) | exact HB.out))) : w.heap.size ≤ gb230)); have n4_ := Aside0.mk ((by rw [hg]; exact (below_size (by repeat (first | (with_reducible first | exact HB.out | apply below_alloc | apply pw_below_drewN | apply below_drew1) | exact HB.out))) : w.heap.size ≤ gb230)); clear HO_24; clear HB; have HO_24 := n0_; have HB := n1_; have BK230 := n2_; have GW230 := n3_; have GE230 := n4_; clear n0_ n1_ n2_ n3_ n4_; clear hb hbox hg; have hcz15_0 : w14.cell? ⟨gb230, 0, none⟩ = some (.string (⟨#[]⟩ : ByteArray)) := (blk_cell BK230.out 0).trans rfl; have hcz15_1 : w14.cell? ⟨gb230, 1, none⟩ = some (.int .i64 0) := (blk_cell BK230.out 1).trans rfl; have hcz15_2 : w14.cell? ⟨gb230, 2, none⟩ = some (.bool false) := (blk_cell BK230.out 2).trans rfl; have hfz15_0 := blk_frozen BK230.out 0; have hfz15_1 := blk_frozen BK230.out 1; have hfz15_2 := blk_frozen BK230.out 2; have p231 : 0 ≤ (x26_1 : Int) := of_decide_eq_true (by first | (with_reducible assumption) | assumption); have q231 : x26_1 < (l1.length : Int) := of_decide_eq_true (by first | (with_reducible assumption) | assumption); obtain ⟨ad231, e231, hx231_0⟩ := Kd.at_int HR1.out x26_1 p231 q231; cases e231; have hn231_0 : ad231.block ≠ gb230 := Nat.ne_of_lt (Nat.lt_of_lt_of_le (by have := World.block_lt_of_cell? _ _ hx231_0; first | rwa [add_block] at this | exact this) GW230.out); have hn231_1 : ad231.block ≠ gb230 := Nat.ne_of_lt (Nat.lt_of_lt_of_le (by have := World.block_lt_of_cell? _ _ hx231_0; first | rwa [add_block] at this | exact this) GW230.out); have hn231_2 : ad231.block ≠ gb230 := Nat.ne_of_lt (Nat.lt_of_lt_of_le (by have := World.block_lt_of_cell? _ _ hx231_0; first | rwa [add_block] at this | exact this) GW230.out); replace hx231_0 := (HB.out.cell (World.block_lt_of_cell? w _ hx231_0)).trans hx231_0; replace hx231_0 := (cell_far (p := ⟨gb230, 0, none⟩) (by first | (rw [add_block]; exact hn231_0) | (show (Addr.add _ _).block ≠ _; rw [add_block]; exact hn231_0) | exact hn231_0) (.string ((rd_T60 t225 x26_1).f0))).trans hx231_0; replace hx231_0 := (cell_far (p := ⟨gb230, 1, none⟩) (by first | (rw [add_block]; exact hn231_1) | (show (Addr.add _ _).block ≠ _; rw [add_block]; exact hn231_1) | exact hn231_1) (.int .i64 ((rd_T60 t225 x26_1).f1))).trans hx231_0; replace hx231_0 := (cell_far (p := ⟨gb230, 2, none⟩) (by first | (rw [add_block]; exact hn231_2) | (show (Addr.add _ _).block ≠ _; rw [add_block]; exact hn231_2) | exact hn231_2) (.bool ((rd_T60 t225 x26_1).f2))).trans hx231_0; (try have hy231_0 := fun (n_ : Nat) => (show (((((w14.drewN n_).setCell ⟨gb230, 0, none⟩ (.string ((rd_T60 t225 x26_1).f0))).setCell ⟨gb230, 1, none⟩ (.int .i64 ((rd_T60 t225 x26_1).f1))).setCell ⟨gb230, 2, none⟩ (.bool ((rd_T60 t225 x26_1).f2)))).cell? _ = some _ from hx231_0)); clear hn231_0; clear hn231_1; clear hn231_2; replace p231 := eq_true p231; replace q231 := eq_true q231) | (go_at_call 29; (with_reducible refine (num_Fits.calls ((rd_T60 t225 x26_1).f1) (rd l1 x26_1) true _ A12.out).mono ?_); rintro e w' ⟨rfl, ⟨nd, rfl⟩⟩; (try first | exact ⟨rfl, _, World.drewN_drewN _ _ _⟩ | exact ⟨rfl, _, Eq.trans (World.drewN_drewN _ _ _) (congrArg (World.drewN _) (Nat.add_assoc _ _ _))⟩)))
                    repeat (go_quiet (first | ((with_reducible refine gate_dst (N := 8) rfl ?_); refine box_event ?hg (N := 8) ?hd (cs := #[.string (⟨#[]⟩ : ByteArray), .int .i64 0, .bool false]) (t := 60) ?hr ?_; (case hd => rfl); (case hg => rfl); (case hr => first | (go_simp; done) | (go_simp; rfl)); intro gb230 hg w14 hbox hb; have n0_ := Aside0.mk (Kd.R_below (Kd.R_elderB (by (with_reducible repeat (first | apply Kd.R_alloc | apply Kd.R_drewN | apply Kd.R_drew)); exact HO_24.out) gb230 (Nat.le_of_eq hg.symm)) hb); have n1_ := Aside0.mk (below_step (by repeat (first | (with_reducible first | exact HB.out | apply below_alloc | apply pw_below_drewN | apply below_drew1) | exact HB.out)) hb); have n2_ := Aside0.mk (hbox); have n3_ := Aside0.mk ((by rw [hg]; exact (below_size (by repeat (first | (with_reducible first | exact HB.out | apply below_alloc | apply pw_below_drewN | apply below_drew1) | exact HB.out))) : w.heap.size ≤ gb230)); have n4_ := Aside0.mk ((by rw [hg]; exact (below_size (by repeat (first | (with_reducible first | exact HB.out | apply below_alloc | apply pw_below_drewN | apply below_drew1) | exact HB.out))) : w.heap.size ≤ gb230)); clear HO_24; clear HB; have HO_24 := n0_; have HB := n1_; have BK230 := n2_; have GW230 := n3_; have GE230 := n4_; clear n0_ n1_ n2_ n3_ n4_; clear hb hbox hg; have hcz15_0 : w14.cell? ⟨gb230, 0, none⟩ = some (.string (⟨#[]⟩ : ByteArray)) := (blk_cell BK230.out 0).trans rfl; have hcz15_1 : w14.cell? ⟨gb230, 1, none⟩ = some (.int .i64 0) := (blk_cell BK230.out 1).trans rfl; have hcz15_2 : w14.cell? ⟨gb230, 2, none⟩ = some (.bool false) := (blk_cell BK230.out 2).trans rfl; have hfz15_0 := blk_frozen BK230.out 0; have hfz15_1 := blk_frozen BK230.out 1; have hfz15_2 := blk_frozen BK230.out 2; have p231 : 0 ≤ (x26_1 : Int) := of_decide_eq_true (by first | (with_reducible assumption) | assumption); have q231 : x26_1 < (l1.length : Int) := of_decide_eq_true (by first | (with_reducible assumption) | assumption); obtain ⟨ad231, e231, hx231_0⟩ := Kd.at_int HR1.out x26_1 p231 q231; cases e231; have hn231_0 : ad231.block ≠ gb230 := Nat.ne_of_lt (Nat.lt_of_lt_of_le (by have := World.block_lt_of_cell? _ _ hx231_0; first | rwa [add_block] at this | exact this) GW230.out); have hn231_1 : ad231.block ≠ gb230 := Nat.ne_of_lt (Nat.lt_of_lt_of_le (by have := World.block_lt_of_cell? _ _ hx231_0; first | rwa [add_block] at this | exact this) GW230.out); have hn231_2 : ad231.block ≠ gb230 := Nat.ne_of_lt (Nat.lt_of_lt_of_le (by have := World.block_lt_of_cell? _ _ hx231_0; first | rwa [add_block] at this | exact this) GW230.out); replace hx231_0 := (HB.out.cell (World.block_lt_of_cell? w _ hx231_0)).trans hx231_0; replace hx231_0 := (cell_far (p := ⟨gb230, 0, none⟩) (by first | (rw [add_block]; exact hn231_0) | (show (Addr.add _ _).block ≠ _; rw [add_block]; exact hn231_0) | exact hn231_0) (.string ((rd_T60 t225 x26_1).f0))).trans hx231_0; replace hx231_0 := (cell_far (p := ⟨gb230, 1, none⟩) (by first | (rw [add_block]; exact hn231_1) | (show (Addr.add _ _).block ≠ _; rw [add_block]; exact hn231_1) | exact hn231_1) (.int .i64 ((rd_T60 t225 x26_1).f1))).trans hx231_0; replace hx231_0 := (cell_far (p := ⟨gb230, 2, none⟩) (by first | (rw [add_block]; exact hn231_2) | (show (Addr.add _ _).block ≠ _; rw [add_block]; exact hn231_2) | exact hn231_2) (.bool ((rd_T60 t225 x26_1).f2))).trans hx231_0; (try have hy231_0 := fun (n_ : Nat) => (show (((((w14.drewN n_).setCell ⟨gb230, 0, none⟩ (.string ((rd_T60 t225 x26_1).f0))).setCell ⟨gb230, 1, none⟩ (.int .i64 ((rd_T60 t225 x26_1).f1))).setCell ⟨gb230, 2, none⟩ (.bool ((rd_T60 t225 x26_1).f2)))).cell? _ = some _ from hx231_0)); clear hn231_0; clear hn231_1; clear hn231_2; replace p231 := eq_true p231; replace q231 := eq_true q231) | (go_at_call 29; (with_reducible refine (num_Fits.calls ((rd_T60 t225 x26_1).f1) (rd l1 x26_1) true _ A12.out).mono ?_); rintro e w' ⟨rfl, ⟨nd, rfl⟩⟩; (try first | exact ⟨rfl, _, World.drewN_drewN _ _ _⟩ | exact ⟨rfl, _, Eq.trans (World.drewN_drewN _ _ _) (congrArg (World.drewN _) (Nat.add_assoc _ _ _))⟩))); try go_wp2_with (first | ((with_reducible refine gate_dst (N := 8) rfl ?_); refine box_event ?hg (N := 8) ?hd (cs := #[.string (⟨#[]⟩ : ByteArray), .int .i64 0, .bool false]) (t := 60) ?hr ?_; (case hd => rfl); (case hg => rfl); (case hr => first | (go_simp; done) | (go_simp; rfl)); intro gb230 hg w14 hbox hb; have n0_ := Aside0.mk (Kd.R_below (Kd.R_elderB (by (with_reducible repeat (first | apply Kd.R_alloc | apply Kd.R_drewN | apply Kd.R_drew)); exact HO_24.out) gb230 (Nat.le_of_eq hg.symm)) hb); have n1_ := Aside0.mk (below_step (by repeat (first | (with_reducible first | exact HB.out | apply below_alloc | apply pw_below_drewN | apply below_drew1) | exact HB.out)) hb); have n2_ := Aside0.mk (hbox); have n3_ := Aside0.mk ((by rw [hg]; exact (below_size (by repeat (first | (with_reducible first | exact HB.out | apply below_alloc | apply pw_below_drewN | apply below_drew1) | exact HB.out))) : w.heap.size ≤ gb230)); have n4_ := Aside0.mk ((by rw [hg]; exact (below_size (by repeat (first | (with_reducible first | exact HB.out | apply below_alloc | apply pw_below_drewN | apply below_drew1) | exact HB.out))) : w.heap.size ≤ gb230)); clear HO_24; clear HB; have HO_24 := n0_; have HB := n1_; have BK230 := n2_; have GW230 := n3_; have GE230 := n4_; clear n0_ n1_ n2_ n3_ n4_; clear hb hbox hg; have hcz15_0 : w14.cell? ⟨gb230, 0, none⟩ = some (.string (⟨#[]⟩ : ByteArray)) := (blk_cell BK230.out 0).trans rfl; have hcz15_1 : w14.cell? ⟨gb230, 1, none⟩ = some (.int .i64 0) := (blk_cell BK230.out 1).trans rfl; have hcz15_2 : w14.cell? ⟨gb230, 2, none⟩ = some (.bool false) := (blk_cell BK230.out 2).trans rfl; have hfz15_0 := blk_frozen BK230.out 0; have hfz15_1 := blk_frozen BK230.out 1; have hfz15_2 := blk_frozen BK230.out 2; have p231 : 0 ≤ (x26_1 : Int) := of_decide_eq_true (by first | (with_reducible assumption) | assumption); have q231 : x26_1 < (l1.length : Int) := of_decide_eq_true (by first | (with_reducible assumption) | assumption); obtain ⟨ad231, e231, hx231_0⟩ := Kd.at_int HR1.out x26_1 p231 q231; cases e231; have hn231_0 : ad231.block ≠ gb230 := Nat.ne_of_lt (Nat.lt_of_lt_of_le (by have := World.block_lt_of_cell? _ _ hx231_0; first | rwa [add_block] at this | exact this) GW230.out); have hn231_1 : ad231.block ≠ gb230 := Nat.ne_of_lt (Nat.lt_of_lt_of_le (by have := World.block_lt_of_cell? _ _ hx231_0; first | rwa [add_block] at this | exact this) GW230.out); have hn231_2 : ad231.block ≠ gb230 := Nat.ne_of_lt (Nat.lt_of_lt_of_le (by have := World.block_lt_of_cell? _ _ hx231_0; first | rwa [add_block] at this | exact this) GW230.out); replace hx231_0 := (HB.out.cell (World.block_lt_of_cell? w _ hx231_0)).trans hx231_0; replace hx231_0 := (cell_far (p := ⟨gb230, 0, none⟩) (by first | (rw [add_block]; exact hn231_0) | (show (Addr.add _ _).block ≠ _; rw [add_block]; exact hn231_0) | exact hn231_0) (.string ((rd_T60 t225 x26_1).f0))).trans hx231_0; replace hx231_0 := (cell_far (p := ⟨gb230, 1, none⟩) (by first | (rw [add_block]; exact hn231_1) | (show (Addr.add _ _).block ≠ _; rw [add_block]; exact hn231_1) | exact hn231_1) (.int .i64 ((rd_T60 t225 x26_1).f1))).trans hx231_0; replace hx231_0 := (cell_far (p := ⟨gb230, 2, none⟩) (by first | (rw [add_block]; exact hn231_2) | (show (Addr.add _ _).block ≠ _; rw [add_block]; exact hn231_2) | exact hn231_2) (.bool ((rd_T60 t225 x26_1).f2))).trans hx231_0; (try have hy231_0 := fun (n_ : Nat) => (show (((((w14.drewN n_).setCell ⟨gb230, 0, none⟩ (.string ((rd_T60 t225 x26_1).f0))).setCell ⟨gb230, 1, none⟩ (.int .i64 ((rd_T60 t225 x26_1).f1))).setCell ⟨gb230, 2, none⟩ (.bool ((rd_T60 t225 x26_1).f2)))).cell? _ = some _ from hx231_0)); clear hn231_0; clear hn231_1; clear hn231_2; replace p231 := eq_true p231; replace q231 := eq_true q231) | (go_at_call 29; (with_reducible refine (num_Fits.calls ((rd_T60 t225 x26_1).f1) (rd l1 x26_1) true _ A12.out).mono ?_); rintro e w' ⟨rfl, ⟨nd, rfl⟩⟩; (try first | exact ⟨rfl, _, World.drewN_drewN _ _ _⟩ | exact ⟨rfl, _, Eq.trans (World.drewN_drewN _ _ _) (congrArg (World.drewN _) (Nat.add_assoc _ _ _))⟩))))
                    go_roundg k1
                    case measure => have := HK1.out; omega
                    case rel => exact ⟨(wrap64 (x26_1 + 1)), (by first | rfl | (simp; done) | (simp [*]; done)), H', ⟨by have := HK1.out; omega⟩, ⟨by (with_reducible repeat (first | apply Kd.R_alloc | apply Kd.R_drewN | apply Kd.R_drew)); exact Kd.R_mono (Kd.R_far (p := ⟨gb230, 2, none⟩) (Kd.R_far (p := ⟨gb230, 1, none⟩) (Kd.R_far (p := ⟨gb230, 0, none⟩) (Kd.R_mono HO_24.out (fun k_ hk => (⟨hk, hk.2⟩ : _ ∧ k_ ≠ gb230))) (fun _ hk => hk.2) (.string ((rd_T60 t225 x26_1).f0))) (fun _ hk => hk.2) (.int .i64 ((rd_T60 t225 x26_1).f1))) (fun _ hk => hk.2) (.bool ((rd_T60 t225 x26_1).f2))) (fun _ hk => trivial)⟩, ⟨by repeat (first | (with_reducible first | exact HB.out | apply below_alloc | apply pw_below_drewN | apply below_drew1 | refine below_set ?_ GE230.out) | exact HB.out)⟩⟩
                  · replace c13 := Bool.eq_false_iff.mpr c13
                    subst c13
                    have H1 : (some 1) = some r := by rw [if_neg (show ¬ (false = true) by decide)] at H; exact H
                    clear H
                    have H := H1
                    clear H1
                    obtain rfl := Option.some.inj H
                    have p229 : 0 ≤ (x26_1 : Int) := of_decide_eq_true (by first | (with_reducible assumption) | assumption)
                    have q229 : x26_1 < (t225.length : Int) := of_decide_eq_true (by first | (with_reducible assumption) | assumption)
                    obtain ⟨ad229, e229, hx229_0, hx229_1, hx229_2⟩ := at_T60 (Kd.R_reads' HO_24.out).2.2 x26_1 p229 q229
                    cases e229
                    replace p229 := eq_true p229
                    replace q229 := eq_true q229
                    go_wp2_with (first | ((with_reducible refine gate_dst (N := 8) rfl ?_); refine box_event ?hg (N := 8) ?hd (cs := #[.string (⟨#[]⟩ : ByteArray), .int .i64 0, .bool false]) (t := 60) ?hr ?_; (case hd => rfl); (case hg => rfl); (case hr => first | (go_simp; done) | (go_simp; rfl)); intro gb230 hg w16 hbox hb; have n0_ := Aside0.mk (Kd.R_below (Kd.R_elderB (by (with_reducible repeat (first | apply Kd.R_alloc | apply Kd.R_drewN | apply Kd.R_drew)); exact HO_24.out) gb230 (Nat.le_of_eq hg.symm)) hb); have n1_ := Aside0.mk (below_step (by repeat (first | (with_reducible first | exact HB.out | apply below_alloc | apply pw_below_drewN | apply below_drew1) | exact HB.out)) hb); have n2_ := Aside0.mk (hbox); have n3_ := Aside0.mk ((by rw [hg]; exact (below_size (by repeat (first | (with_reducible first | exact HB.out | apply below_alloc | apply pw_below_drewN | apply below_drew1) | exact HB.out))) : w.heap.size ≤ gb230)); have n4_ := Aside0.mk ((by rw [hg]; exact (below_size (by repeat (first | (with_reducible first | exact HB.out | apply below_alloc | apply pw_below_drewN | apply below_drew1) | exact HB.out))) : w.heap.size ≤ gb230)); clear HO_24; clear HB; have HO_24 := n0_; have HB := n1_; have BK230 := n2_; have GW230 := n3_; have GE230 := n4_; clear n0_ n1_ n2_ n3_ n4_; clear hb hbox hg; have hcz17_0 : w16.cell? ⟨gb230, 0, none⟩ = some (.string (⟨#[]⟩ : ByteArray)) := (blk_cell BK230.out 0).trans rfl; have hcz17_1 : w16.cell? ⟨gb230, 1, none⟩ = some (.int .i64 0) := (blk_cell BK230.out 1).trans rfl; have hcz17_2 : w16.cell? ⟨gb230, 2, none⟩ = some (.bool false) := (blk_cell BK230.out 2).trans rfl; have hfz17_0 := blk_frozen BK230.out 0; have hfz17_1 := blk_frozen BK230.out 1; have hfz17_2 := blk_frozen BK230.out 2; have p231 : 0 ≤ (x26_1 : Int) := of_decide_eq_true (by first | (with_reducible assumption) | assumption); have q231 : x26_1 < (l1.length : Int) := of_decide_eq_true (by first | (with_reducible assumption) | assumption); obtain ⟨ad231, e231, hx231_0⟩ := Kd.at_int HR1.out x26_1 p231 q231; cases e231; have hn231_0 : ad231.block ≠ gb230 := Nat.ne_of_lt (Nat.lt_of_lt_of_le (by have := World.block_lt_of_cell? _ _ hx231_0; first | rwa [add_block] at this | exact this) GW230.out); have hn231_1 : ad231.block ≠ gb230 := Nat.ne_of_lt (Nat.lt_of_lt_of_le (by have := World.block_lt_of_cell? _ _ hx231_0; first | rwa [add_block] at this | exact this) GW230.out); have hn231_2 : ad231.block ≠ gb230 := Nat.ne_of_lt (Nat.lt_of_lt_of_le (by have := World.block_lt_of_cell? _ _ hx231_0; first | rwa [add_block] at this | exact this) GW230.out); replace hx231_0 := (HB.out.cell (World.block_lt_of_cell? w _ hx231_0)).trans hx231_0; replace hx231_0 := (cell_far (p := ⟨gb230, 0, none⟩) (by first | (rw [add_block]; exact hn231_0) | (show (Addr.add _ _).block ≠ _; rw [add_block]; exact hn231_0) | exact hn231_0) (.string ((rd_T60 t225 x26_1).f0))).trans hx231_0; replace hx231_0 := (cell_far (p := ⟨gb230, 1, none⟩) (by first | (rw [add_block]; exact hn231_1) | (show (Addr.add _ _).block ≠ _; rw [add_block]; exact hn231_1) | exact hn231_1) (.int .i64 ((rd_T60 t225 x26_1).f1))).trans hx231_0; replace hx231_0 := (cell_far (p := ⟨gb230, 2, none⟩) (by first | (rw [add_block]; exact hn231_2) | (show (Addr.add _ _).block ≠ _; rw [add_block]; exact hn231_2) | exact hn231_2) (.bool ((rd_T60 t225 x26_1).f2))).trans hx231_0; (try have hy231_0 := fun (n_ : Nat) => (show (((((w16.drewN n_).setCell ⟨gb230, 0, none⟩ (.string ((rd_T60 t225 x26_1).f0))).setCell ⟨gb230, 1, none⟩ (.int .i64 ((rd_T60 t225 x26_1).f1))).setCell ⟨gb230, 2, none⟩ (.bool ((rd_T60 t225 x26_1).f2)))).cell? _ = some _ from hx231_0)); clear hn231_0; clear hn231_1; clear hn231_2; replace p231 := eq_true p231; replace q231 := eq_true q231) | (go_at_call 29; (with_reducible refine (num_Fits.calls ((rd_T60 t225 x26_1).f1) (rd l1 x26_1) false _ A12.out).mono ?_); rintro e w' ⟨rfl, ⟨nd, rfl⟩⟩; (try first | exact ⟨rfl, _, World.drewN_drewN _ _ _⟩ | exact ⟨rfl, _, Eq.trans (World.drewN_drewN _ _ _) (congrArg (World.drewN _) (Nat.add_assoc _ _ _))⟩)))
                    repeat (go_quiet (first | ((with_reducible refine gate_dst (N := 8) rfl ?_); refine box_event ?hg (N := 8) ?hd (cs := #[.string (⟨#[]⟩ : ByteArray), .int .i64 0, .bool false]) (t := 60) ?hr ?_; (case hd => rfl); (case hg => rfl); (case hr => first | (go_simp; done) | (go_simp; rfl)); intro gb230 hg w16 hbox hb; have n0_ := Aside0.mk (Kd.R_below (Kd.R_elderB (by (with_reducible repeat (first | apply Kd.R_alloc | apply Kd.R_drewN | apply Kd.R_drew)); exact HO_24.out) gb230 (Nat.le_of_eq hg.symm)) hb); have n1_ := Aside0.mk (below_step (by repeat (first | (with_reducible first | exact HB.out | apply below_alloc | apply pw_below_drewN | apply below_drew1) | exact HB.out)) hb); have n2_ := Aside0.mk (hbox); have n3_ := Aside0.mk ((by rw [hg]; exact (below_size (by repeat (first | (with_reducible first | exact HB.out | apply below_alloc | apply pw_below_drewN | apply below_drew1) | exact HB.out))) : w.heap.size ≤ gb230)); have n4_ := Aside0.mk ((by rw [hg]; exact (below_size (by repeat (first | (with_reducible first | exact HB.out | apply below_alloc | apply pw_below_drewN | apply below_drew1) | exact HB.out))) : w.heap.size ≤ gb230)); clear HO_24; clear HB; have HO_24 := n0_; have HB := n1_; have BK230 := n2_; have GW230 := n3_; have GE230 := n4_; clear n0_ n1_ n2_ n3_ n4_; clear hb hbox hg; have hcz17_0 : w16.cell? ⟨gb230, 0, none⟩ = some (.string (⟨#[]⟩ : ByteArray)) := (blk_cell BK230.out 0).trans rfl; have hcz17_1 : w16.cell? ⟨gb230, 1, none⟩ = some (.int .i64 0) := (blk_cell BK230.out 1).trans rfl; have hcz17_2 : w16.cell? ⟨gb230, 2, none⟩ = some (.bool false) := (blk_cell BK230.out 2).trans rfl; have hfz17_0 := blk_frozen BK230.out 0; have hfz17_1 := blk_frozen BK230.out 1; have hfz17_2 := blk_frozen BK230.out 2; have p231 : 0 ≤ (x26_1 : Int) := of_decide_eq_true (by first | (with_reducible assumption) | assumption); have q231 : x26_1 < (l1.length : Int) := of_decide_eq_true (by first | (with_reducible assumption) | assumption); obtain ⟨ad231, e231, hx231_0⟩ := Kd.at_int HR1.out x26_1 p231 q231; cases e231; have hn231_0 : ad231.block ≠ gb230 := Nat.ne_of_lt (Nat.lt_of_lt_of_le (by have := World.block_lt_of_cell? _ _ hx231_0; first | rwa [add_block] at this | exact this) GW230.out); have hn231_1 : ad231.block ≠ gb230 := Nat.ne_of_lt (Nat.lt_of_lt_of_le (by have := World.block_lt_of_cell? _ _ hx231_0; first | rwa [add_block] at this | exact this) GW230.out); have hn231_2 : ad231.block ≠ gb230 := Nat.ne_of_lt (Nat.lt_of_lt_of_le (by have := World.block_lt_of_cell? _ _ hx231_0; first | rwa [add_block] at this | exact this) GW230.out); replace hx231_0 := (HB.out.cell (World.block_lt_of_cell? w _ hx231_0)).trans hx231_0; replace hx231_0 := (cell_far (p := ⟨gb230, 0, none⟩) (by first | (rw [add_block]; exact hn231_0) | (show (Addr.add _ _).block ≠ _; rw [add_block]; exact hn231_0) | exact hn231_0) (.string ((rd_T60 t225 x26_1).f0))).trans hx231_0; replace hx231_0 := (cell_far (p := ⟨gb230, 1, none⟩) (by first | (rw [add_block]; exact hn231_1) | (show (Addr.add _ _).block ≠ _; rw [add_block]; exact hn231_1) | exact hn231_1) (.int .i64 ((rd_T60 t225 x26_1).f1))).trans hx231_0; replace hx231_0 := (cell_far (p := ⟨gb230, 2, none⟩) (by first | (rw [add_block]; exact hn231_2) | (show (Addr.add _ _).block ≠ _; rw [add_block]; exact hn231_2) | exact hn231_2) (.bool ((rd_T60 t225 x26_1).f2))).trans hx231_0; (try have hy231_0 := fun (n_ : Nat) => (show (((((w16.drewN n_).setCell ⟨gb230, 0, none⟩ (.string ((rd_T60 t225 x26_1).f0))).setCell ⟨gb230, 1, none⟩ (.int .i64 ((rd_T60 t225 x26_1).f1))).setCell ⟨gb230, 2, none⟩ (.bool ((rd_T60 t225 x26_1).f2)))).cell? _ = some _ from hx231_0)); clear hn231_0; clear hn231_1; clear hn231_2; replace p231 := eq_true p231; replace q231 := eq_true q231) | (go_at_call 29; (with_reducible refine (num_Fits.calls ((rd_T60 t225 x26_1).f1) (rd l1 x26_1) false _ A12.out).mono ?_); rintro e w' ⟨rfl, ⟨nd, rfl⟩⟩; (try first | exact ⟨rfl, _, World.drewN_drewN _ _ _⟩ | exact ⟨rfl, _, Eq.trans (World.drewN_drewN _ _ _) (congrArg (World.drewN _) (Nat.add_assoc _ _ _))⟩))); try go_wp2_with (first | ((with_reducible refine gate_dst (N := 8) rfl ?_); refine box_event ?hg (N := 8) ?hd (cs := #[.string (⟨#[]⟩ : ByteArray), .int .i64 0, .bool false]) (t := 60) ?hr ?_; (case hd => rfl); (case hg => rfl); (case hr => first | (go_simp; done) | (go_simp; rfl)); intro gb230 hg w16 hbox hb; have n0_ := Aside0.mk (Kd.R_below (Kd.R_elderB (by (with_reducible repeat (first | apply Kd.R_alloc | apply Kd.R_drewN | apply Kd.R_drew)); exact HO_24.out) gb230 (Nat.le_of_eq hg.symm)) hb); have n1_ := Aside0.mk (below_step (by repeat (first | (with_reducible first | exact HB.out | apply below_alloc | apply pw_below_drewN | apply below_drew1) | exact HB.out)) hb); have n2_ := Aside0.mk (hbox); have n3_ := Aside0.mk ((by rw [hg]; exact (below_size (by repeat (first | (with_reducible first | exact HB.out | apply below_alloc | apply pw_below_drewN | apply below_drew1) | exact HB.out))) : w.heap.size ≤ gb230)); have n4_ := Aside0.mk ((by rw [hg]; exact (below_size (by repeat (first | (with_reducible first | exact HB.out | apply below_alloc | apply pw_below_drewN | apply below_drew1) | exact HB.out))) : w.heap.size ≤ gb230)); clear HO_24; clear HB; have HO_24 := n0_; have HB := n1_; have BK230 := n2_; have GW230 := n3_; have GE230 := n4_; clear n0_ n1_ n2_ n3_ n4_; clear hb hbox hg; have hcz17_0 : w16.cell? ⟨gb230, 0, none⟩ = some (.string (⟨#[]⟩ : ByteArray)) := (blk_cell BK230.out 0).trans rfl; have hcz17_1 : w16.cell? ⟨gb230, 1, none⟩ = some (.int .i64 0) := (blk_cell BK230.out 1).trans rfl; have hcz17_2 : w16.cell? ⟨gb230, 2, none⟩ = some (.bool false) := (blk_cell BK230.out 2).trans rfl; have hfz17_0 := blk_frozen BK230.out 0; have hfz17_1 := blk_frozen BK230.out 1; have hfz17_2 := blk_frozen BK230.out 2; have p231 : 0 ≤ (x26_1 : Int) := of_decide_eq_true (by first | (with_reducible assumption) | assumption); have q231 : x26_1 < (l1.length : Int) := of_decide_eq_true (by first | (with_reducible assumption) | assumption); obtain ⟨ad231, e231, hx231_0⟩ := Kd.at_int HR1.out x26_1 p231 q231; cases e231; have hn231_0 : ad231.block ≠ gb230 := Nat.ne_of_lt (Nat.lt_of_lt_of_le (by have := World.block_lt_of_cell? _ _ hx231_0; first | rwa [add_block] at this | exact this) GW230.out); have hn231_1 : ad231.block ≠ gb230 := Nat.ne_of_lt (Nat.lt_of_lt_of_le (by have := World.block_lt_of_cell? _ _ hx231_0; first | rwa [add_block] at this | exact this) GW230.out); have hn231_2 : ad231.block ≠ gb230 := Nat.ne_of_lt (Nat.lt_of_lt_of_le (by have := World.block_lt_of_cell? _ _ hx231_0; first | rwa [add_block] at this | exact this) GW230.out); replace hx231_0 := (HB.out.cell (World.block_lt_of_cell? w _ hx231_0)).trans hx231_0; replace hx231_0 := (cell_far (p := ⟨gb230, 0, none⟩) (by first | (rw [add_block]; exact hn231_0) | (show (Addr.add _ _).block ≠ _; rw [add_block]; exact hn231_0) | exact hn231_0) (.string ((rd_T60 t225 x26_1).f0))).trans hx231_0; replace hx231_0 := (cell_far (p := ⟨gb230, 1, none⟩) (by first | (rw [add_block]; exact hn231_1) | (show (Addr.add _ _).block ≠ _; rw [add_block]; exact hn231_1) | exact hn231_1) (.int .i64 ((rd_T60 t225 x26_1).f1))).trans hx231_0; replace hx231_0 := (cell_far (p := ⟨gb230, 2, none⟩) (by first | (rw [add_block]; exact hn231_2) | (show (Addr.add _ _).block ≠ _; rw [add_block]; exact hn231_2) | exact hn231_2) (.bool ((rd_T60 t225 x26_1).f2))).trans hx231_0; (try have hy231_0 := fun (n_ : Nat) => (show (((((w16.drewN n_).setCell ⟨gb230, 0, none⟩ (.string ((rd_T60 t225 x26_1).f0))).setCell ⟨gb230, 1, none⟩ (.int .i64 ((rd_T60 t225 x26_1).f1))).setCell ⟨gb230, 2, none⟩ (.bool ((rd_T60 t225 x26_1).f2)))).cell? _ = some _ from hx231_0)); clear hn231_0; clear hn231_1; clear hn231_2; replace p231 := eq_true p231; replace q231 := eq_true q231) | (go_at_call 29; (with_reducible refine (num_Fits.calls ((rd_T60 t225 x26_1).f1) (rd l1 x26_1) false _ A12.out).mono ?_); rintro e w' ⟨rfl, ⟨nd, rfl⟩⟩; (try first | exact ⟨rfl, _, World.drewN_drewN _ _ _⟩ | exact ⟨rfl, _, Eq.trans (World.drewN_drewN _ _ _) (congrArg (World.drewN _) (Nat.add_assoc _ _ _))⟩))))
                    go_ret
                    exact ⟨by first | rfl | (simp [errW_none, errW_some] <;> rfl) | (simp [*, errW_none, errW_some] <;> rfl), by repeat (first | (with_reducible first | exact HB.out | apply below_alloc | apply pw_below_drewN | apply below_drew1 | refine below_set ?_ GE230.out) | exact HB.out)⟩
                · rw [if_neg c11] at H
                  exact absurd H (by simp)
              · rw [if_neg c10] at H
                exact absurd H (by simp)
            · rw [if_neg c9] at H
              exact absurd H (by simp)
          · rw [if_neg c8] at H
            have c8b0 : decide (x26_1 < (t225.length : Int)) = false := decide_eq_false c8
            clear c8
            obtain rfl := Option.some.inj H
            go_wp2
            repeat (go_quiet (fail); try go_wp2)
            go_ret
            exact ⟨by first | rfl | (simp [errW_none, errW_some] <;> rfl) | (simp [*, errW_none, errW_some] <;> rfl), by repeat (first | (with_reducible first | exact HB.out | apply below_alloc | apply pw_below_drewN | apply below_drew1) | exact HB.out)⟩
    · rw [if_neg c5] at H
      have c5b0 : ((l1.length : Int) == (t225.length : Int)) = false := beq_eq_false_iff_ne.mpr c5
      have c5b1 : ((l1.length : Int) != (t225.length : Int)) = true := bne_iff_ne.mpr c5
      have c5b2 : (l1.length == t225.length) = false := by first | simpa using c5 | (simp at c5 ⊢; omega)
      obtain rfl := Option.some.inj H
      go_enter Tryd.func18, Tryd.ntmps18
      go_wp2_with (first | (go_at_call 27; (with_reducible refine (typed_Fields.calls k a0 t225 t226 _ A3.out).mono ?_); rintro e w18 ⟨v227, rfl, ho0, hb⟩; have n0_ := Aside0.mk (Kd.R_lower ho0 (below_size (by repeat (first | (with_reducible first | exact HB.out | apply below_alloc | apply pw_below_drewN | apply below_drew1) | exact HB.out)))); have n1_ := Aside0.mk (below_step (by repeat (first | (with_reducible first | exact HB.out | apply below_alloc | apply pw_below_drewN | apply below_drew1) | exact HB.out)) hb); clear HB; have HO228 := n0_; have HB := n1_; clear n0_ n1_; (try clear hb); (try clear hb2); (try clear hk); (try clear hi); (try clear ho0); obtain ⟨Ao19, co19, eo19⟩ := Kd.R_slice HO228.out; subst eo19))
      repeat (go_quiet (first | (go_at_call 27; (with_reducible refine (typed_Fields.calls k a0 t225 t226 _ A3.out).mono ?_); rintro e w18 ⟨v227, rfl, ho0, hb⟩; have n0_ := Aside0.mk (Kd.R_lower ho0 (below_size (by repeat (first | (with_reducible first | exact HB.out | apply below_alloc | apply pw_below_drewN | apply below_drew1) | exact HB.out)))); have n1_ := Aside0.mk (below_step (by repeat (first | (with_reducible first | exact HB.out | apply below_alloc | apply pw_below_drewN | apply below_drew1) | exact HB.out)) hb); clear HB; have HO228 := n0_; have HB := n1_; clear n0_ n1_; (try clear hb); (try clear hb2); (try clear hk); (try clear hi); (try clear ho0); obtain ⟨Ao19, co19, eo19⟩ := Kd.R_slice HO228.out; subst eo19)); try go_wp2_with (first | (go_at_call 27; (with_reducible refine (typed_Fields.calls k a0 t225 t226 _ A3.out).mono ?_); rintro e w18 ⟨v227, rfl, ho0, hb⟩; have n0_ := Aside0.mk (Kd.R_lower ho0 (below_size (by repeat (first | (with_reducible first | exact HB.out | apply below_alloc | apply pw_below_drewN | apply below_drew1) | exact HB.out)))); have n1_ := Aside0.mk (below_step (by repeat (first | (with_reducible first | exact HB.out | apply below_alloc | apply pw_below_drewN | apply below_drew1) | exact HB.out)) hb); clear HB; have HO228 := n0_; have HB := n1_; clear n0_ n1_; (try clear hb); (try clear hb2); (try clear hk); (try clear hi); (try clear ho0); obtain ⟨Ao19, co19, eo19⟩ := Kd.R_slice HO228.out; subst eo19)))
      go_ret
      exact ⟨by first | rfl | (simp [errW_none, errW_some] <;> rfl) | (simp [*, errW_none, errW_some] <;> rfl), by repeat (first | (with_reducible first | exact HB.out | apply below_alloc | apply pw_below_drewN | apply below_drew1) | exact HB.out)⟩
  · rw [if_neg c4] at H
    have c4b0 : (t226 == 0) = false := beq_eq_false_iff_ne.mpr c4
    have c4b1 : (t226 != 0) = true := bne_iff_ne.mpr c4
    obtain rfl := Option.some.inj H
    go_enter Tryd.func18, Tryd.ntmps18
    go_wp2_with (first | (go_at_call 27; (with_reducible refine (typed_Fields.calls k a0 t225 t226 _ A3.out).mono ?_); rintro e w20 ⟨v227, rfl, ho0, hb⟩; have n0_ := Aside0.mk (Kd.R_lower ho0 (below_size (by repeat (first | (with_reducible first | exact HB.out | apply below_alloc | apply pw_below_drewN | apply below_drew1) | exact HB.out)))); have n1_ := Aside0.mk (below_step (by repeat (first | (with_reducible first | exact HB.out | apply below_alloc | apply pw_below_drewN | apply below_drew1) | exact HB.out)) hb); clear HB; have HO228 := n0_; have HB := n1_; clear n0_ n1_; (try clear hb); (try clear hb2); (try clear hk); (try clear hi); (try clear ho0)))
    repeat (go_quiet (first | (go_at_call 27; (with_reducible refine (typed_Fields.calls k a0 t225 t226 _ A3.out).mono ?_); rintro e w20 ⟨v227, rfl, ho0, hb⟩; have n0_ := Aside0.mk (Kd.R_lower ho0 (below_size (by repeat (first | (with_reducible first | exact HB.out | apply below_alloc | apply pw_below_drewN | apply below_drew1) | exact HB.out)))); have n1_ := Aside0.mk (below_step (by repeat (first | (with_reducible first | exact HB.out | apply below_alloc | apply pw_below_drewN | apply below_drew1) | exact HB.out)) hb); clear HB; have HO228 := n0_; have HB := n1_; clear n0_ n1_; (try clear hb); (try clear hb2); (try clear hk); (try clear hi); (try clear ho0))); try go_wp2_with (first | (go_at_call 27; (with_reducible refine (typed_Fields.calls k a0 t225 t226 _ A3.out).mono ?_); rintro e w20 ⟨v227, rfl, ho0, hb⟩; have n0_ := Aside0.mk (Kd.R_lower ho0 (below_size (by repeat (first | (with_reducible first | exact HB.out | apply below_alloc | apply pw_below_drewN | apply below_drew1) | exact HB.out)))); have n1_ := Aside0.mk (below_step (by repeat (first | (with_reducible first | exact HB.out | apply below_alloc | apply pw_below_drewN | apply below_drew1) | exact HB.out)) hb); clear HB; have HO228 := n0_; have HB := n1_; clear n0_ n1_; (try clear hb); (try clear hb2); (try clear hk); (try clear hi); (try clear ho0))))
    go_ret
    exact ⟨by first | rfl | (simp [errW_none, errW_some] <;> rfl) | (simp [*, errW_none, errW_some] <;> rfl), by repeat (first | (with_reducible first | exact HB.out | apply below_alloc | apply pw_below_drewN | apply below_drew1) | exact HB.out)⟩

-- NOT PRINTED: function 19 (slices_Clone_int64_int64)

-- NOT PRINTED: function 48 (block_timer_stop)

-- NOT PRINTED: function 49 (block_timer_begin)

-- NOT PRINTED: function 65 (num_find)

-- NOT PRINTED: function 66 (num_op_has)

-- NOT PRINTED: function 60 (num_does)

-- NOT PRINTED: function 54 (num_Two)

-- NOT PRINTED: function 50 (block_timer_count)

-- NOT PRINTED: function 30 (block_timer_on)

-- NOT PRINTED: function 31 (block_timer_off)

-- NOT PRINTED: function 32 (block_timer_pulse)

-- NOT PRINTED: function 51 (block_counter_count)

-- NOT PRINTED: function 33 (block_counter_up)

-- NOT PRINTED: function 34 (block_counter_down)

/-! ### block_cells_set: function 35 -/
def block_cells_set.f (l0_0 : List Int) (a0_1 : Int) (a1 : Int) (a2 : Bool) : Option (List Int) := if 0 ≤ a1 then (if a1 < (l0_0.length : Int) then ((some (l0_0.set (a1 : Int).toNat 0 : List Int)).bind fun y246 => (if a2 = true then (some (y246.set (a1 : Int).toNat 1)) else (some y246))) else (none)) else (none)
set_option maxHeartbeats 8000000 in
set_option maxRecDepth 100000 in
theorem block_cells_set.calls (P0_0_ : Nat → Prop) (u9000_ : Value) (l0_0 : List Int) (a0_1 : Int) (a1 : Int) (a2 : Bool) (r : List Int) (w0 w : World) (hB : Below w0.heap.size w0 w) (ho0_0 : Kd.R (Kd.int .i64) 2 w w0.heap.size P0_0_ u9000_ l0_0) (h : block_cells_set.f l0_0 a0_1 a1 a2 = some r) :
    Calls Tryd.prog 35 #[.agg #[u9000_, .int .i64 a0_1], .int .i64 a1, .bool a2] w fun e w' => e = .returned (.tuple #[]) ∧ Kd.R (Kd.int .i64) 2 w' w0.heap.size (fun k_ => (P0_0_ k_ ∨ w.heap.size ≤ k_)) u9000_ r ∧ Below w0.heap.size w0 w' ∧ Kept w w' (fun k_ => P0_0_ k_) := by
  have hu47 := Tryd.underlying47
  have HO0_0 := Aside0.mk (show Kd.R (Kd.int .i64) 2 w w0.heap.size (fun k_ => (P0_0_ k_ ∨ w.heap.size ≤ k_)) u9000_ l0_0 from Kd.R_mono ho0_0 (fun k_ hk => (.inl hk)))
  have HK := Aside0.mk (Kept.refl w (fun k_ => P0_0_ k_))
  have HW0 := Aside0.mk hB.size
  have HB := Aside0.mk hB
  clear hB
  have H : (if 0 ≤ a1 then (if a1 < (l0_0.length : Int) then ((some (l0_0.set (a1 : Int).toNat 0 : List Int)).bind fun y246 => (if a2 = true then (some (y246.set (a1 : Int).toNat 1)) else (some y246))) else (none)) else (none)) = some r := h
  clear h
  by_cases c4 : 0 ≤ a1
  · rw [if_pos c4] at H
    have c4b0 : decide (0 ≤ a1) = true := decide_eq_true c4
    clear c4
    by_cases c5 : a1 < (l0_0.length : Int)
    · rw [if_pos c5] at H
      have c5b0 : decide (a1 < (l0_0.length : Int)) = true := decide_eq_true c5
      clear c5
      obtain ⟨y246, hy246⟩ : ∃ y_ : List Int, y_ = (l0_0.set (a1 : Int).toNat 0) := ⟨_, rfl⟩
      replace H : (if a2 = true then (some (y246.set (a1 : Int).toNat 1)) else (some y246)) = some r := by first | (rw [hy246]; with_reducible exact H) | (have H2_ := (Option.bind_some _ _).symm.trans H; rw [hy246]; with_reducible exact H2_) | (have H2_ := (Option.bind_some _ _).symm.trans H; with_reducible exact H2_) | with_reducible exact H | (rw [hy246]; exact H) | exact H
      have Ny246 := Aside0.mk hy246
      clear hy246
      by_cases c7 : a2 = true
      · subst c7
        have H1 : (some (y246.set (a1 : Int).toNat 1)) = some r := by rw [if_pos rfl] at H; exact H
        clear H
        have H := H1
        clear H1
        obtain ⟨y247, hy247⟩ : ∃ y_ : List Int, y_ = (y246.set (a1 : Int).toNat 1) := ⟨_, rfl⟩
        replace H : (some y247) = some r := by first | (rw [hy247]; with_reducible exact H) | (have H2_ := (Option.bind_some _ _).symm.trans H; rw [hy247]; with_reducible exact H2_) | (have H2_ := (Option.bind_some _ _).symm.trans H; with_reducible exact H2_) | with_reducible exact H | (rw [hy247]; exact H) | exact H
        have Ny247 := Aside0.mk hy247
        clear hy247
        obtain rfl := Option.some.inj H
        obtain ⟨Ao9, co9, eo9⟩ := Kd.R_slice HO0_0.out
        subst eo9
        go_enter Tryd.func35, Tryd.ntmps35
        go_wp2_with (first | ((with_reducible refine gate_dst (N := 3) rfl ?_); refine box_event ?hg (N := 3) ?hd (cs := #[.slice Ao9 l0_0.length co9, .int .i64 a0_1]) (t := 47) ?hr ?_; (case hd => rfl); (case hg => rfl); (case hr => first | (go_simp; done) | (go_simp; rfl)); intro gb245 hg w10 hbox hb; have n0_ := Aside0.mk (Kd.R_below (by (with_reducible repeat (first | apply Kd.R_alloc | apply Kd.R_drewN | apply Kd.R_drew)); exact HO0_0.out) hb); have n1_ := Aside0.mk (Kept.below (S := (fun k_ => P0_0_ k_)) (by repeat (first | (with_reducible first | exact HK.out | apply Kept.alloc | apply Kept.drewN | apply Kept.drew) | exact HK.out)) hb); have n2_ := Aside0.mk (below_step (by repeat (first | (with_reducible first | exact HB.out | apply below_alloc | apply pw_below_drewN | apply below_drew1) | exact HB.out)) hb); have n3_ := Aside0.mk (hbox); have n4_ := Aside0.mk ((by rw [hg]; exact (by first | exact HK.out.1 | exact (show Kept w _ (fun k_ => P0_0_ k_) from by repeat (first | (with_reducible first | exact HK.out | apply Kept.alloc | apply Kept.drewN | apply Kept.drew) | exact HK.out)).1) : w.heap.size ≤ gb245)); have n5_ := Aside0.mk ((by rw [hg]; exact (below_size (by repeat (first | (with_reducible first | exact HB.out | apply below_alloc | apply pw_below_drewN | apply below_drew1) | exact HB.out))) : w0.heap.size ≤ gb245)); clear HO0_0; clear HK; clear HB; have HO0_0 := n0_; have HK := n1_; have HB := n2_; have BK245 := n3_; have GW245 := n4_; have GE245 := n5_; clear n0_ n1_ n2_ n3_ n4_ n5_; clear hb hbox hg; have hcz11_0 : w10.cell? ⟨gb245, 0, none⟩ = some (.slice Ao9 l0_0.length co9) := (blk_cell BK245.out 0).trans rfl; have hcz11_1 : w10.cell? ⟨gb245, 1, none⟩ = some (.int .i64 a0_1) := (blk_cell BK245.out 1).trans rfl; have hfz11_0 := blk_frozen BK245.out 0; have hfz11_1 := blk_frozen BK245.out 1; have p6 : 0 ≤ (a1 : Int) := of_decide_eq_true (by first | (with_reducible assumption) | assumption); have q6 : (a1 : Int) < ((l0_0.length : Int) : Int) := of_decide_eq_true (by first | (with_reducible assumption) | assumption); obtain ⟨go6, co6, eo6, gb6, gl6, cl6, HG6⟩ := Kd.R_form HO0_0.out (by omega); (first | cases eo6 | (injection eo6 with ea_ en_ ec_; (first | subst ea_ | (injection ea_ with ea_; subst ea_)); subst ec_; clear en_)); have GB6 := Aside0.mk gb6; have GG6 := Aside0.mk HG6; clear gb6 gl6 HG6; have HMgo6 := Aside0.mk (show (P0_0_ go6 ∨ w.heap.size ≤ go6) from (HO0_0.out.1 _ rfl)); obtain ⟨hx6_0, hf6_0⟩ := Kd.R_celln 0 HO0_0.out (a1 : Int) p6 q6; replace p6 := eq_true p6; replace q6 := eq_true q6; obtain ⟨hy12_, hz12_⟩ := Kd.R_celln 0 HO0_0.out (a1 : Int) (of_decide_eq_true (by first | (with_reducible assumption) | assumption)) (of_decide_eq_true (by first | (with_reducible assumption) | assumption)); have HP12 := Kd.R_putg HO0_0.out (a1 : Int) 0) | ((with_reducible refine gate_store (t := 2) (p := 9) rfl ?_); refine store_event (t := 2) (p := 9) (v := ?vo_w13) (w1 := (w10.setCell ⟨go6, (a1 : Int).toNat, none⟩ (.int .i64 0))) ?hg ?ho ?hn ?hr ?_; (case ho => rfl); (case hg => rfl); (case hn => rfl); (case hr => first | (go_simp; done) | (go_simp; rfl)); intro w13 hw; have hg : w10.grownBy w13 (some go6) := (by rw [hw]; exact HP12.2); have hp_ : Kd.R (Kd.int .i64) 2 w13 w0.heap.size (fun k_ => (P0_0_ k_ ∨ w.heap.size ≤ k_)) (.slice (some ⟨go6, 0, none⟩) l0_0.length co9) y246 := (by rw [hw, Ny246.out]; exact HP12.1); clear HP12; have n0_ := Aside0.mk (hp_); have n1_ := Aside0.mk (blk_grown (g := gb245) (o := .cells #[.slice (some ⟨go6, 0, none⟩) l0_0.length co9, .int .i64 a0_1] 47 (0, 0)) (by (with_reducible repeat (first | refine blk_drewN ?_ _ | refine blk_drew ?_ | refine blk_alloc ?_ _)); exact BK245.out) hg (Kd.R_ne HO0_0.out BK245.out (by decide))); have n2_ := Aside0.mk ((by rw [hw]; exact below_set (HB.out) GB6.out : Below w0.heap.size w0 w13)); have n3_ := Aside0.mk (Kept.of_grown (S := (fun k_ => P0_0_ k_)) hg (by repeat (first | (with_reducible first | exact HK.out | apply Kept.alloc | apply Kept.drewN | apply Kept.drew | refine Kept.setCell ?_ (.inr GW245.out) _) | exact HK.out)) (fun k_ e_ => (HO0_0.out.1 k_ e_))); clear HO0_0; clear BK245; clear HB; clear HK; have HO0_0 := n0_; have BK245 := n1_; have HB := n2_; have HK := n3_; clear n0_ n1_ n2_ n3_; clear hg hw hp_; have hcz14_0 : w13.cell? ⟨gb245, 0, none⟩ = some (.slice (some ⟨go6, 0, none⟩) l0_0.length co9) := (blk_cell BK245.out 0).trans rfl; have hcz14_1 : w13.cell? ⟨gb245, 1, none⟩ = some (.int .i64 a0_1) := (blk_cell BK245.out 1).trans rfl; have hfz14_0 := blk_frozen BK245.out 0; have hfz14_1 := blk_frozen BK245.out 1; have p8 : 0 ≤ (a1 : Int) := of_decide_eq_true (by first | (with_reducible assumption) | assumption); have q8 : (a1 : Int) < ((l0_0.length : Int) : Int) := of_decide_eq_true (by first | (with_reducible assumption) | assumption); obtain ⟨hx8_0, hf8_0⟩ := Kd.R_celln 0 HO0_0.out (a1 : Int) p8 q8; replace p8 := eq_true p8; replace q8 := eq_true q8; obtain ⟨hy15_, hz15_⟩ := Kd.R_celln 0 HO0_0.out (a1 : Int) (of_decide_eq_true (by first | (with_reducible assumption) | assumption)) (of_decide_eq_true (by first | (with_reducible assumption) | assumption)); have HP15 := Kd.R_putg HO0_0.out (a1 : Int) 1) | ((with_reducible refine gate_store (t := 2) (p := 14) rfl ?_); refine store_event (t := 2) (p := 14) (v := ?vo_w16) (w1 := (w13.setCell ⟨go6, (a1 : Int).toNat, none⟩ (.int .i64 1))) ?hg ?ho ?hn ?hr ?_; (case ho => rfl); (case hg => rfl); (case hn => rfl); (case hr => first | (go_simp; done) | (go_simp; rfl)); intro w16 hw; have hg : w13.grownBy w16 (some go6) := (by rw [hw]; exact HP15.2); have hp_ : Kd.R (Kd.int .i64) 2 w16 w0.heap.size (fun k_ => (P0_0_ k_ ∨ w.heap.size ≤ k_)) (.slice (some ⟨go6, 0, none⟩) l0_0.length co9) y247 := (by rw [hw, Ny247.out]; exact HP15.1); clear HP15; have n0_ := Aside0.mk (hp_); have n1_ := Aside0.mk (blk_grown (g := gb245) (o := .cells #[.slice (some ⟨go6, 0, none⟩) l0_0.length co9, .int .i64 a0_1] 47 (0, 0)) (by (with_reducible repeat (first | refine blk_drewN ?_ _ | refine blk_drew ?_ | refine blk_alloc ?_ _)); exact BK245.out) hg (Kd.R_ne HO0_0.out BK245.out (by decide))); have n2_ := Aside0.mk ((by rw [hw]; exact below_set (HB.out) GB6.out : Below w0.heap.size w0 w16)); have n3_ := Aside0.mk (Kept.of_grown (S := (fun k_ => P0_0_ k_)) hg (by repeat (first | (with_reducible first | exact HK.out | apply Kept.alloc | apply Kept.drewN | apply Kept.drew | refine Kept.setCell ?_ (.inr GW245.out) _) | exact HK.out)) (fun k_ e_ => (HO0_0.out.1 k_ e_))); clear HO0_0; clear BK245; clear HB; clear HK; have HO0_0 := n0_; have BK245 := n1_; have HB := n2_; have HK := n3_; clear n0_ n1_ n2_ n3_; clear hg hw hp_))
        first | go_end0 | ((try simp only [Exit.inBlock, Exit.then]); refine bodyPost_ret (results_none rfl _ _ _) rfl ?_)
        exact ⟨by first | rfl | (simp [errW_none, errW_some] <;> rfl) | (simp [*, errW_none, errW_some] <;> rfl), by (with_reducible repeat (first | apply Kd.R_alloc | apply Kd.R_drewN | apply Kd.R_drew)); exact HO0_0.out, by repeat (first | (with_reducible first | exact HB.out | apply below_alloc | apply pw_below_drewN | apply below_drew1 | refine below_set ?_ GE245.out) | exact HB.out), by repeat (first | (with_reducible first | exact HK.out | apply Kept.alloc | apply Kept.drewN | apply Kept.drew | refine Kept.setCell ?_ (.inr GW245.out) _) | exact HK.out)⟩
      · replace c7 := Bool.eq_false_iff.mpr c7
        subst c7
        have H1 : (some y246) = some r := by rw [if_neg (show ¬ (false = true) by decide)] at H; exact H
        clear H
        have H := H1
        clear H1
        obtain rfl := Option.some.inj H
        obtain ⟨Ao17, co17, eo17⟩ := Kd.R_slice HO0_0.out
        subst eo17
        go_enter Tryd.func35, Tryd.ntmps35
        go_wp2_with (first | ((with_reducible refine gate_dst (N := 3) rfl ?_); refine box_event ?hg (N := 3) ?hd (cs := #[.slice Ao17 l0_0.length co17, .int .i64 a0_1]) (t := 47) ?hr ?_; (case hd => rfl); (case hg => rfl); (case hr => first | (go_simp; done) | (go_simp; rfl)); intro gb245 hg w18 hbox hb; have n0_ := Aside0.mk (Kd.R_below (by (with_reducible repeat (first | apply Kd.R_alloc | apply Kd.R_drewN | apply Kd.R_drew)); exact HO0_0.out) hb); have n1_ := Aside0.mk (Kept.below (S := (fun k_ => P0_0_ k_)) (by repeat (first | (with_reducible first | exact HK.out | apply Kept.alloc | apply Kept.drewN | apply Kept.drew) | exact HK.out)) hb); have n2_ := Aside0.mk (below_step (by repeat (first | (with_reducible first | exact HB.out | apply below_alloc | apply pw_below_drewN | apply below_drew1) | exact HB.out)) hb); have n3_ := Aside0.mk (hbox); have n4_ := Aside0.mk ((by rw [hg]; exact (by first | exact HK.out.1 | exact (show Kept w _ (fun k_ => P0_0_ k_) from by repeat (first | (with_reducible first | exact HK.out | apply Kept.alloc | apply Kept.drewN | apply Kept.drew) | exact HK.out)).1) : w.heap.size ≤ gb245)); have n5_ := Aside0.mk ((by rw [hg]; exact (below_size (by repeat (first | (with_reducible first | exact HB.out | apply below_alloc | apply pw_below_drewN | apply below_drew1) | exact HB.out))) : w0.heap.size ≤ gb245)); clear HO0_0; clear HK; clear HB; have HO0_0 := n0_; have HK := n1_; have HB := n2_; have BK245 := n3_; have GW245 := n4_; have GE245 := n5_; clear n0_ n1_ n2_ n3_ n4_ n5_; clear hb hbox hg; have hcz19_0 : w18.cell? ⟨gb245, 0, none⟩ = some (.slice Ao17 l0_0.length co17) := (blk_cell BK245.out 0).trans rfl; have hcz19_1 : w18.cell? ⟨gb245, 1, none⟩ = some (.int .i64 a0_1) := (blk_cell BK245.out 1).trans rfl; have hfz19_0 := blk_frozen BK245.out 0; have hfz19_1 := blk_frozen BK245.out 1; have p6 : 0 ≤ (a1 : Int) := of_decide_eq_true (by first | (with_reducible assumption) | assumption); have q6 : (a1 : Int) < ((l0_0.length : Int) : Int) := of_decide_eq_true (by first | (with_reducible assumption) | assumption); obtain ⟨go6, co6, eo6, gb6, gl6, cl6, HG6⟩ := Kd.R_form HO0_0.out (by omega); (first | cases eo6 | (injection eo6 with ea_ en_ ec_; (first | subst ea_ | (injection ea_ with ea_; subst ea_)); subst ec_; clear en_)); have GB6 := Aside0.mk gb6; have GG6 := Aside0.mk HG6; clear gb6 gl6 HG6; have HMgo6 := Aside0.mk (show (P0_0_ go6 ∨ w.heap.size ≤ go6) from (HO0_0.out.1 _ rfl)); obtain ⟨hx6_0, hf6_0⟩ := Kd.R_celln 0 HO0_0.out (a1 : Int) p6 q6; replace p6 := eq_true p6; replace q6 := eq_true q6; obtain ⟨hy20_, hz20_⟩ := Kd.R_celln 0 HO0_0.out (a1 : Int) (of_decide_eq_true (by first | (with_reducible assumption) | assumption)) (of_decide_eq_true (by first | (with_reducible assumption) | assumption)); have HP20 := Kd.R_putg HO0_0.out (a1 : Int) 0) | ((with_reducible refine gate_store (t := 2) (p := 9) rfl ?_); refine store_event (t := 2) (p := 9) (v := ?vo_w21) (w1 := (w18.setCell ⟨go6, (a1 : Int).toNat, none⟩ (.int .i64 0))) ?hg ?ho ?hn ?hr ?_; (case ho => rfl); (case hg => rfl); (case hn => rfl); (case hr => first | (go_simp; done) | (go_simp; rfl)); intro w21 hw; have hg : w18.grownBy w21 (some go6) := (by rw [hw]; exact HP20.2); have hp_ : Kd.R (Kd.int .i64) 2 w21 w0.heap.size (fun k_ => (P0_0_ k_ ∨ w.heap.size ≤ k_)) (.slice (some ⟨go6, 0, none⟩) l0_0.length co17) y246 := (by rw [hw, Ny246.out]; exact HP20.1); clear HP20; have n0_ := Aside0.mk (hp_); have n1_ := Aside0.mk (blk_grown (g := gb245) (o := .cells #[.slice (some ⟨go6, 0, none⟩) l0_0.length co17, .int .i64 a0_1] 47 (0, 0)) (by (with_reducible repeat (first | refine blk_drewN ?_ _ | refine blk_drew ?_ | refine blk_alloc ?_ _)); exact BK245.out) hg (Kd.R_ne HO0_0.out BK245.out (by decide))); have n2_ := Aside0.mk ((by rw [hw]; exact below_set (HB.out) GB6.out : Below w0.heap.size w0 w21)); have n3_ := Aside0.mk (Kept.of_grown (S := (fun k_ => P0_0_ k_)) hg (by repeat (first | (with_reducible first | exact HK.out | apply Kept.alloc | apply Kept.drewN | apply Kept.drew | refine Kept.setCell ?_ (.inr GW245.out) _) | exact HK.out)) (fun k_ e_ => (HO0_0.out.1 k_ e_))); clear HO0_0; clear BK245; clear HB; clear HK; have HO0_0 := n0_; have BK245 := n1_; have HB := n2_; have HK := n3_; clear n0_ n1_ n2_ n3_; clear hg hw hp_))
        first | go_end0 | ((try simp only [Exit.inBlock, Exit.then]); refine bodyPost_ret (results_none rfl _ _ _) rfl ?_)
        exact ⟨by first | rfl | (simp [errW_none, errW_some] <;> rfl) | (simp [*, errW_none, errW_some] <;> rfl), by (with_reducible repeat (first | apply Kd.R_alloc | apply Kd.R_drewN | apply Kd.R_drew)); exact HO0_0.out, by repeat (first | (with_reducible first | exact HB.out | apply below_alloc | apply pw_below_drewN | apply below_drew1 | refine below_set ?_ GE245.out) | exact HB.out), by repeat (first | (with_reducible first | exact HK.out | apply Kept.alloc | apply Kept.drewN | apply Kept.drew | refine Kept.setCell ?_ (.inr GW245.out) _) | exact HK.out)⟩
    · rw [if_neg c5] at H
      exact absurd H (by simp)
  · rw [if_neg c4] at H
    exact absurd H (by simp)

/-! ### block_cells_is: function 36 -/
def block_cells_is.f (l0_0 : List Int) (a0_1 : Int) (a1 : Int) : Option (Bool) := if 0 ≤ a1 then (if a1 < (l0_0.length : Int) then (some ((rd l0_0 a1) == 1)) else (none)) else (none)
set_option maxHeartbeats 8000000 in
set_option maxRecDepth 100000 in
theorem block_cells_is.calls (A0_0 : Option Addr) (c0_0 : Nat) (l0_0 : List Int) (a0_1 : Int) (a1 : Int) (r : Bool) (w : World) (hr0_0 : Kd.C (Kd.int .i64) w A0_0 l0_0.length l0_0) (hc0_0 : l0_0.length ≤ c0_0) (h : block_cells_is.f l0_0 a0_1 a1 = some r) :
    Calls Tryd.prog 36 #[.agg #[.slice A0_0 l0_0.length c0_0, .int .i64 a0_1], .int .i64 a1] w fun e w' => e = .returned (.bool r) ∧ Below w.heap.size w w' := by
  have hu47 := Tryd.underlying47
  have HR0_0 := Aside0.mk hr0_0
  have HC0_0 := Aside0.mk hc0_0
  clear hr0_0 hc0_0
  have HB := Aside0.mk (Below.refl w.heap.size w)
  have H : (if 0 ≤ a1 then (if a1 < (l0_0.length : Int) then (some ((rd l0_0 a1) == 1)) else (none)) else (none)) = some r := h
  clear h
  by_cases c3 : 0 ≤ a1
  · rw [if_pos c3] at H
    have c3b0 : decide (0 ≤ a1) = true := decide_eq_true c3
    clear c3
    by_cases c4 : a1 < (l0_0.length : Int)
    · rw [if_pos c4] at H
      have c4b0 : decide (a1 < (l0_0.length : Int)) = true := decide_eq_true c4
      clear c4
      obtain rfl := Option.some.inj H
      go_enter Tryd.func36, Tryd.ntmps36
      go_wp2_with (first | ((with_reducible refine gate_dst (N := 2) rfl ?_); refine box_event ?hg (N := 2) ?hd (cs := #[.slice A0_0 l0_0.length c0_0, .int .i64 a0_1]) (t := 47) ?hr ?_; (case hd => rfl); (case hg => rfl); (case hr => first | (go_simp; done) | (go_simp; rfl)); intro gb248 hg w5 hbox hb; have n0_ := Aside0.mk (below_step (by repeat (first | (with_reducible first | exact HB.out | apply below_alloc | apply pw_below_drewN | apply below_drew1) | exact HB.out)) hb); have n1_ := Aside0.mk (hbox); have n2_ := Aside0.mk ((by rw [hg]; exact (below_size (by repeat (first | (with_reducible first | exact HB.out | apply below_alloc | apply pw_below_drewN | apply below_drew1) | exact HB.out))) : w.heap.size ≤ gb248)); have n3_ := Aside0.mk ((by rw [hg]; exact (below_size (by repeat (first | (with_reducible first | exact HB.out | apply below_alloc | apply pw_below_drewN | apply below_drew1) | exact HB.out))) : w.heap.size ≤ gb248)); clear HB; have HB := n0_; have BK248 := n1_; have GW248 := n2_; have GE248 := n3_; clear n0_ n1_ n2_ n3_; clear hb hbox hg; have hcz6_0 : w5.cell? ⟨gb248, 0, none⟩ = some (.slice A0_0 l0_0.length c0_0) := (blk_cell BK248.out 0).trans rfl; have hcz6_1 : w5.cell? ⟨gb248, 1, none⟩ = some (.int .i64 a0_1) := (blk_cell BK248.out 1).trans rfl; have hfz6_0 := blk_frozen BK248.out 0; have hfz6_1 := blk_frozen BK248.out 1; have p249 : 0 ≤ (a1 : Int) := of_decide_eq_true (by first | (with_reducible assumption) | assumption); have q249 : a1 < (l0_0.length : Int) := of_decide_eq_true (by first | (with_reducible assumption) | assumption); obtain ⟨ad249, e249, hx249_0⟩ := Kd.at_int HR0_0.out a1 p249 q249; cases e249; replace hx249_0 := (HB.out.cell (World.block_lt_of_cell? w _ hx249_0)).trans hx249_0; replace p249 := eq_true p249; replace q249 := eq_true q249))
      go_ret
      exact ⟨by first | rfl | (simp [errW_none, errW_some] <;> rfl) | (simp [*, errW_none, errW_some] <;> rfl), by repeat (first | (with_reducible first | exact HB.out | apply below_alloc | apply pw_below_drewN | apply below_drew1 | refine below_set ?_ GE248.out) | exact HB.out)⟩
    · rw [if_neg c4] at H
      exact absurd H (by simp)
  · rw [if_neg c3] at H
    exact absurd H (by simp)

end Go.Proofs.YtefflkmegodafaaDoor.PBlockKeeps
