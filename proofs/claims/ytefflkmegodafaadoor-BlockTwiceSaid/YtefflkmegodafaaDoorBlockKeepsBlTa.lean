/-
  Cells that may be, of every kind; block.Step as SOME function of the cells and the time, whatever the circle holds; what comes out may be again.
-/
import Derived.Test.YtefflkmegodafaaDoorBlockKeepsBlQe
namespace Go.Proofs.YtefflkmegodafaaDoor.PBlockKeeps
open Go.RowKit Go.Proofs.YtefflkmegodafaaDoorW.PrintWords Go.Proofs.YtefflkmegodafaaDoorW.PrintLast Go.Proofs.YtefflkmegodafaaDoorW.PrintMore
attribute [local go_sem] Oper.semAt_some

def fitB (t n : Int) : Bool := if t = 1 then decide (n = 0 ∨ n = 1) else if t = 2 then decide (-32768 ≤ n ∧ n ≤ 32767) else decide (-2147483648 ≤ n ∧ n ≤ 2147483647)
theorem fits_is {t n : Int} (ht : t = 1 ∨ t = 2 ∨ t = 3 ∨ t = 4) : num_Fits.f t n = some (fitB t n) := by
  have e3 : (wrap64 (wrap32 n) == n) = decide (-2147483648 ≤ n ∧ n ≤ 2147483647) := by
    rw [Bool.eq_iff_iff]
    simp only [beq_iff_eq, decide_eq_true_eq]
    unfold wrap64 wrap32
    omega
  have e2 : (wrap64 (IntKind.i16.wrap n) == n) = decide (-32768 ≤ n ∧ n ≤ 32767) := by
    rw [Num.w64_16, Bool.eq_iff_iff]
    simp only [beq_iff_eq, decide_eq_true_eq]
    omega
  have e1 : (Go.bits .and .i64 n 1 == n) = decide (n = 0 ∨ n = 1) := by
    rw [Num.i64_and1, Bool.eq_iff_iff]
    simp only [beq_iff_eq, decide_eq_true_eq]
    omega
  unfold num_Fits.f num_known.f num_wrap.f fitB
  rcases ht with rfl | rfl | rfl | rfl <;> simp [e1, e2, e3]
/-- cells of a kind that may be -/
def Fit (k : Int) (l : List Int) : Prop :=
  ((k = 1 ∨ k = 2 ∨ k = 3) ∧ ∃ a b c d e f, l = [a, b, c, d, e, f] ∧ Bit a ∧ I32 b ∧ Bit c ∧ I32 d ∧ I32 e ∧ Bit f) ∨
  ((k = 4 ∨ k = 5) ∧ ∃ a b c d e f, l = [a, b, c, d, e, f] ∧ Bit a ∧ Bit b ∧ I16 c ∧ Bit d ∧ I16 e ∧ Bit f) ∨
  ((k = 6 ∨ k = 7 ∨ k = 8 ∨ k = 9) ∧ ∃ a b c, l = [a, b, c] ∧ Bit a ∧ Bit b ∧ Bit c) ∨
  (k = 10 ∧ ∃ a b c d e f, l = [a, b, c, d, e, f] ∧ Bit a ∧ Bit b ∧ Bit c ∧ I32 d ∧ Bit e ∧ I16 f)
theorem fields_quad : ∃ l : List S60, typed_Fields.f 8 10 = some (l, 0) ∧ l.map (·.f1) = [1, 1, 1, 3, 1, 2] := ⟨_, rfl, rfl⟩
theorem fields_none {k : Int} (h : ¬ (1 ≤ k ∧ k ≤ 10)) : typed_Fields.f 8 k = some ([], 92) := by
  have h1 : k ≠ 1 := by omega
  have h2 : k ≠ 2 := by omega
  have h3 : k ≠ 3 := by omega
  have h4 : k ≠ 4 := by omega
  have h5 : k ≠ 5 := by omega
  have h6 : k ≠ 6 := by omega
  have h7 : k ≠ 7 := by omega
  have h8 : k ≠ 8 := by omega
  have h9 : k ≠ 9 := by omega
  have h10 : k ≠ 10 := by omega
  simp [typed_Fields.f, typed_Fields.j0, typed_Fields.j1, h1, h2, h3, h4, h5, h6, h7, h8, h9, h10]
theorem fields_up {k : Int} {r : List S60 × Int} (h : typed_Fields.f 4 k = some r) : typed_Fields.f 8 k = some r := typed_Fields.mono _ 7 _ (typed_Fields.mono _ 6 _ (typed_Fields.mono _ 5 _ (typed_Fields.mono _ 4 _ h)))
theorem wrong_len {k : Int} {l : List Int} {fs : List S60} (h : typed_Fields.f 8 k = some (fs, 0)) (hl : l.length ≠ fs.length) : block_wrong.f 8 k l = some 4 := by
  unfold block_wrong.f
  rw [h]
  simp only [Option.bind_some]
  rw [if_pos trivial, if_neg (by omega)]
theorem list3 {l : List Int} (h : l.length = 3) : ∃ a b c, l = [a, b, c] := by
  match l, h with
  | [a, b, c], _ => exact ⟨a, b, c, rfl⟩
theorem list6 {l : List Int} (h : l.length = 6) : ∃ a b c d e f, l = [a, b, c, d, e, f] := by
  match l, h with
  | [a, b, c, d, e, f], _ => exact ⟨a, b, c, d, e, f, rfl⟩
theorem wrong3 {k a b c t0 t1 t2 : Int} {fs : List S60} (h : typed_Fields.f 8 k = some (fs, 0)) (hf : fs.map (·.f1) = [t0, t1, t2]) (h0 : t0 = 1 ∨ t0 = 2 ∨ t0 = 3 ∨ t0 = 4) (h1 : t1 = 1 ∨ t1 = 2 ∨ t1 = 3 ∨ t1 = 4) (h2 : t2 = 1 ∨ t2 = 2 ∨ t2 = 3 ∨ t2 = 4) :
    block_wrong.f 8 k [a, b, c] = some (if (fitB t0 a && fitB t1 b && fitB t2 c) = true then 0 else 1) := by
  obtain ⟨x, y, z, rfl, hx, hy, hz⟩ := three_of hf
  unfold block_wrong.f
  rw [h]
  simp only [Option.bind_some, if_true, List.length_cons, List.length_nil]
  simp [block_wrong.l0, rd_T60, rd, hx, hy, hz, fits_is h0, fits_is h1, fits_is h2, wrap64]
  cases fitB t0 a <;> cases fitB t1 b <;> cases fitB t2 c <;> simp
theorem wrong6 {k a b c d e f t0 t1 t2 t3 t4 t5 : Int} {fs : List S60} (h : typed_Fields.f 8 k = some (fs, 0)) (hf : fs.map (·.f1) = [t0, t1, t2, t3, t4, t5]) (h0 : t0 = 1 ∨ t0 = 2 ∨ t0 = 3 ∨ t0 = 4) (h1 : t1 = 1 ∨ t1 = 2 ∨ t1 = 3 ∨ t1 = 4) (h2 : t2 = 1 ∨ t2 = 2 ∨ t2 = 3 ∨ t2 = 4) (h3 : t3 = 1 ∨ t3 = 2 ∨ t3 = 3 ∨ t3 = 4) (h4 : t4 = 1 ∨ t4 = 2 ∨ t4 = 3 ∨ t4 = 4) (h5 : t5 = 1 ∨ t5 = 2 ∨ t5 = 3 ∨ t5 = 4) :
    block_wrong.f 8 k [a, b, c, d, e, f] = some (if (fitB t0 a && fitB t1 b && fitB t2 c && fitB t3 d && fitB t4 e && fitB t5 f) = true then 0 else 1) := by
  obtain ⟨x, y, z, u, v, w, rfl, hx, hy, hz, hu, hv, hw⟩ := six_of hf
  unfold block_wrong.f
  rw [h]
  simp only [Option.bind_some, if_true, List.length_cons, List.length_nil]
  simp [block_wrong.l0, rd_T60, rd, hx, hy, hz, hu, hv, hw, fits_is h0, fits_is h1, fits_is h2, fits_is h3, fits_is h4, fits_is h5, wrap64]
  cases fitB t0 a <;> cases fitB t1 b <;> cases fitB t2 c <;> cases fitB t3 d <;> cases fitB t4 e <;> cases fitB t5 f <;> simp
/-- block.wrong tells 0 of cells that may be, and of no others -/
theorem wrong_total (k : Int) (l : List Int) : (block_wrong.f 8 k l = some 0 ∧ Fit k l) ∨ ∃ r, r ≠ 0 ∧ block_wrong.f 8 k l = some r := by
  by_cases hk : 1 ≤ k ∧ k ≤ 10
  · have hc : (k = 1 ∨ k = 2 ∨ k = 3) ∨ (k = 4 ∨ k = 5) ∨ (k = 6 ∨ k = 7 ∨ k = 8 ∨ k = 9) ∨ k = 10 := by omega
    rcases hc with h | h | h | h
    · obtain ⟨fs, hfs, hm⟩ := fields_time h
      have hfs := fields_up hfs
      by_cases hl : l.length = 6
      · obtain ⟨a, b, c, d, e, f, rfl⟩ := list6 hl
        rw [wrong6 hfs hm (by simp) (by simp) (by simp) (by simp) (by simp) (by simp)]
        split
        · rename_i hb
          simp [fitB] at hb
          exact .inl ⟨rfl, .inl ⟨h, a, b, c, d, e, f, rfl, by unfold Bit I32; omega⟩⟩
        · exact .inr ⟨1, by decide, rfl⟩
      · exact .inr ⟨4, by decide, wrong_len hfs (by have := congrArg List.length hm; simp at this; omega)⟩
    · obtain ⟨fs, hfs, hm⟩ := fields_count h
      have hfs := fields_up hfs
      by_cases hl : l.length = 6
      · obtain ⟨a, b, c, d, e, f, rfl⟩ := list6 hl
        rw [wrong6 hfs hm (by simp) (by simp) (by simp) (by simp) (by simp) (by simp)]
        split
        · rename_i hb
          simp [fitB] at hb
          exact .inl ⟨rfl, .inr (.inl ⟨h, a, b, c, d, e, f, rfl, by unfold Bit I16; omega⟩)⟩
        · exact .inr ⟨1, by decide, rfl⟩
      · exact .inr ⟨4, by decide, wrong_len hfs (by have := congrArg List.length hm; simp at this; omega)⟩
    · obtain ⟨fs, hfs, hm⟩ := fields_three h
      have hfs := fields_up hfs
      by_cases hl : l.length = 3
      · obtain ⟨a, b, c, rfl⟩ := list3 hl
        rw [wrong3 hfs hm (by simp) (by simp) (by simp)]
        split
        · rename_i hb
          simp [fitB] at hb
          exact .inl ⟨rfl, .inr (.inr (.inl ⟨h, a, b, c, rfl, by unfold Bit; omega⟩))⟩
        · exact .inr ⟨1, by decide, rfl⟩
      · exact .inr ⟨4, by decide, wrong_len hfs (by have := congrArg List.length hm; simp at this; omega)⟩
    · subst h
      obtain ⟨fs, hfs, hm⟩ := fields_quad
      by_cases hl : l.length = 6
      · obtain ⟨a, b, c, d, e, f, rfl⟩ := list6 hl
        rw [wrong6 hfs hm (by simp) (by simp) (by simp) (by simp) (by simp) (by simp)]
        split
        · rename_i hb
          simp [fitB] at hb
          exact .inl ⟨rfl, .inr (.inr (.inr ⟨rfl, a, b, c, d, e, f, rfl, by unfold Bit I16 I32; omega⟩))⟩
        · exact .inr ⟨1, by decide, rfl⟩
      · exact .inr ⟨4, by decide, wrong_len hfs (by have := congrArg List.length hm; simp at this; omega)⟩
  · refine .inr ⟨92, by decide, ?_⟩
    unfold block_wrong.f
    rw [fields_none hk]
    rfl
theorem Fit.len {k : Int} {l : List Int} (h : Fit k l) : 0 < l.length ∧ l.length ≤ 6 := by
  rcases h with ⟨_, a, b, c, d, e, f, rfl, _⟩ | ⟨_, a, b, c, d, e, f, rfl, _⟩ | ⟨_, a, b, c, rfl, _⟩ | ⟨_, a, b, c, d, e, f, rfl, _⟩ <;> simp

/-- a call makes l' of the cells l, in worlds where the circle holds these numbers -/
def DoesC (r0 i0 r1 i1 r2 i2 r3 i3 : Nat) (k now : Int) (l l' : List Int) : Prop :=
  l'.length = l.length ∧ ∀ (w0 w : World) (g cap : Nat), Circ r0 i0 r1 i1 r2 i2 r3 i3 w0 → Has w0 w g cap l.length l w →
    Calls Tryd.prog 20 #[.agg #[.slice (some ⟨g, 0, none⟩) l.length cap, .int .i64 now], .int .i64 k] w fun x w' => x = .returned (.tuple #[]) ∧ Has w0 w g cap l.length l' w'
theorem Does.c {r0 i0 r1 i1 r2 i2 r3 i3 : Nat} {k now : Int} {l l' : List Int} (h : Does k now l l') : DoesC r0 i0 r1 i1 r2 i2 r3 i3 k now l l' := ⟨h.1, fun _ _ _ _ _ hh => h.2 hh⟩
theorem bitI_bit' (b : Bool) : Bit (bitI b) := by cases b; exact .inl rfl; exact .inr rfl
theorem min32 {a b : Int} (ha : I32 a) (hb : I32 b) : I32 (min a b) := by unfold I32 at *; omega
theorem gone32 (now s : Int) : I32 (goneV now s) := gone_in now s
theorem bit0' : Bit 0 := .inl rfl
theorem bit1' : Bit 1 := .inr rfl
theorem i32_0 : I32 0 := by unfold I32; omega
theorem cv_in {a b e f by_ first : Int} (he : I16 e) (hf : I16 first) : I16 (cvV a b e f by_ first) := by
  unfold cvV I16 at *
  split
  · exact hf
  · split <;> omega
/-- of cells that may be a call makes cells that may be -/
theorem do_total (r0 i0 r1 i1 r2 i2 r3 i3 : Nat) {k now : Int} {l : List Int} (h : Fit k l) (hn : I32 now) : ∃ l', Fit k l' ∧ DoesC r0 i0 r1 i1 r2 i2 r3 i3 k now l l' := by
  rcases h with ⟨hk, a, b, c, d, e, f, rfl, ha, hb, hc, hd, he, hf⟩ | ⟨hk, a, b, c, d, e, f, rfl, ha, hb, hc, hd, he, hf⟩ | ⟨hk, a, b, c, rfl, ha, hb, hc⟩ | ⟨rfl, a, b, c, d, e, f, rfl, ha, hb, hc, hd, he, hf⟩
  · have hs := s_in (f := f) hn he
    rcases hk with rfl | rfl | rfl
    · refine ⟨_, ?_, (does_ton (b := b) (c := c) (d := d) ha hf hn he).c⟩
      unfold tonV
      split
      · exact .inl ⟨by omega, _, _, _, _, _, _, rfl, ha, hb, bitI_bit' _, min32 (gone32 _ _) hb, hs, bit1'⟩
      · exact .inl ⟨by omega, _, _, _, _, _, _, rfl, ha, hb, bit0', i32_0, he, bit0'⟩
    · refine ⟨_, ?_, (does_tof (b := b) (d := d) ha hc hf hn he).c⟩
      unfold tofV
      split
      · exact .inl ⟨by omega, _, _, _, _, _, _, rfl, ha, hb, bit1', i32_0, he, bit0'⟩
      · split
        · exact .inl ⟨by omega, _, _, _, _, _, _, rfl, ha, hb, bitI_bit' _, min32 (gone32 _ _) hb, hs, bitI_bit' _⟩
        · exact .inl ⟨by omega, _, _, _, _, _, _, rfl, ha, hb, hc, hd, he, hf⟩
    · refine ⟨_, ?_, (does_tp (b := b) (c := c) (d := d) ha hf hn he).c⟩
      have run : ∀ (q : Bool) (m s : Int), I32 m → I32 s → Fit 3 (tpRun a b q m s) := by
        intro q m s hm hs
        refine .inl ⟨by omega, _, _, _, _, _, _, rfl, ha, hb, bitI_bit' _, ?_, hs, bitI_bit' _⟩
        split
        · exact i32_0
        · exact hm
      unfold tpV
      split
      · exact run _ _ _ (min32 (gone32 _ _) hb) hs
      · split
        · exact run _ _ _ (min32 (gone32 _ _) hb) he
        · split
          · exact .inl ⟨by omega, _, _, _, _, _, _, rfl, ha, hb, hc, i32_0, he, hf⟩
          · exact .inl ⟨by omega, _, _, _, _, _, _, rfl, ha, hb, hc, hd, he, hf⟩
  · rcases hk with rfl | rfl
    · exact ⟨_, .inr (.inl ⟨by omega, _, _, _, _, _, _, rfl, ha, hb, hc, bitI_bit' _, cv_in he (by unfold I16; omega), ha⟩), (does_ctu (c := c) (d := d) ha hb hf he).c⟩
    · exact ⟨_, .inr (.inl ⟨by omega, _, _, _, _, _, _, rfl, ha, hb, hc, bitI_bit' _, cv_in he hc, ha⟩), (does_ctd (c := c) (d := d) ha hb hf he).c⟩
  · rcases hk with rfl | rfl | rfl | rfl
    · exact ⟨_, .inr (.inr (.inl ⟨by omega, _, _, _, rfl, ha, bitI_bit' _, ha⟩)), (does_rise (b := b) ha hc).c⟩
    · exact ⟨_, .inr (.inr (.inl ⟨by omega, _, _, _, rfl, ha, bitI_bit' _, ha⟩)), (does_fall (b := b) ha hc).c⟩
    · exact ⟨_, .inr (.inr (.inl ⟨by omega, _, _, _, rfl, ha, hb, srV_bit hc⟩)), (does_sr ha hb hc).c⟩
    · exact ⟨_, .inr (.inr (.inl ⟨by omega, _, _, _, rfl, ha, hb, rsV_bit hc⟩)), (does_rs ha hb hc).c⟩
  · obtain ⟨n, e_, n0, n1, hq⟩ := does_quad (a := a) (b := b) (e := e) hc hd hf r0 i0 r1 i1 r2 i2 r3 i3
    have hp := place_in (a == 1) (b == 1)
    have hP : I16 (placeV (a == 1) (b == 1) + 1) := by unfold I16; omega
    refine ⟨quadV a b c d e n e_, ?_, ?_, fun _ _ _ _ hC h => hq now hC h⟩
    · unfold quadV
      have hw : I32 (wrap32 (d + n)) := by unfold I32 wrap32; omega
      split
      · exact .inr (.inr (.inr ⟨rfl, _, _, _, _, _, _, rfl, ha, hb, bit1', i32_0, bit0', hP⟩))
      · split
        · exact .inr (.inr (.inr ⟨rfl, _, _, _, _, _, _, rfl, ha, hb, bit0', hw, he, hP⟩))
        · split
          · exact .inr (.inr (.inr ⟨rfl, _, _, _, _, _, _, rfl, ha, hb, bit0', hd, bit1', hP⟩))
          · exact .inr (.inr (.inr ⟨rfl, _, _, _, _, _, _, rfl, ha, hb, bit0', hd, he, hP⟩))
    · unfold quadV
      split
      · rfl
      · split
        · rfl
        · split <;> rfl

/-- what Step tells: the cells, or an error -/
def Told (w : World) (r : List Int × Int) (e : Ending) (w' : World) : Prop :=
  Below w.heap.size w w' ∧ ((r.2 = 0 ∧ ∃ g c, e = .returned (.tuple #[.slice (some ⟨g, 0, none⟩) r.1.length c, .int .i64 0]) ∧ Row w.heap.size w' g c r.1) ∨ (r.2 ≠ 0 ∧ e = .returned (.tuple #[.slice none 0 0, .int .i64 r.2])))
def StepTo (r0 i0 r1 i1 r2 i2 r3 i3 : Nat) (k now : Int) (l : List Int) (r : List Int × Int) : Prop :=
  ∀ (A : Option Addr) (c : Nat) (w : World), Circ r0 i0 r1 i1 r2 i2 r3 i3 w → Kd.C kI w A l.length l → l.length ≤ c → Calls Tryd.prog 10 #[.int .i64 k, .slice A l.length c, .int .i64 now] w (Told w r)
set_option maxRecDepth 100000 in
theorem step_no (k now : Int) (l : List Int) (r : Int) (hr : r ≠ 0) (hw : block_wrong.f 8 k l = some r) (A : Option Addr) (c : Nat) (w : World) (hC : Kd.C kI w A l.length l) (hc : l.length ≤ c) :
    Calls Tryd.prog 10 #[.int .i64 k, .slice A l.length c, .int .i64 now] w (Told w ([], r)) := by
  have HR := Lib.hid hC
  have HC := Lib.hid hc
  have HW := Lib.hid hw
  have HN := Lib.hid hr
  have h1 : (r != 0) = true := by simpa using hr
  clear hC hc hw hr
  go_enter Tryd.func10, Tryd.ntmps10
  go_wp2_with fail
  refine (block_wrong.calls 8 k _ c l r _ HR.out HC.out HW.out).mono ?_
  rintro e w1 ⟨rfl, hb⟩
  have HB := Lib.hid hb
  clear hb
  go_wp2
  go_ret2
  exact ⟨HB.out, .inr ⟨HN.out, rfl⟩⟩
set_option maxRecDepth 100000 in
theorem step_late (k now : Int) (l : List Int) (hw : block_wrong.f 8 k l = some 0) (hn : now < 0 ∨ 2147483647 < now) (A : Option Addr) (c : Nat) (w : World) (hC : Kd.C kI w A l.length l) (hc : l.length ≤ c) :
    Calls Tryd.prog 10 #[.int .i64 k, .slice A l.length c, .int .i64 now] w (Told w ([], 1)) := by
  have HR := Lib.hid hC
  have HC := Lib.hid hc
  have HW := Lib.hid hw
  clear hC hc hw
  rcases hn with hn | hn
  · go_enter Tryd.func10, Tryd.ntmps10
    go_wp2_with fail
    refine (block_wrong.calls 8 k _ c l 0 _ HR.out HC.out HW.out).mono ?_
    rintro e w1 ⟨rfl, hb⟩
    have HB := Lib.hid hb
    clear hb
    go_wp2
    go_ret2
    exact ⟨HB.out, .inr ⟨by decide, rfl⟩⟩
  · have h1 : ¬ now < 0 := by omega
    go_enter Tryd.func10, Tryd.ntmps10
    go_wp2_with fail
    refine (block_wrong.calls 8 k _ c l 0 _ HR.out HC.out HW.out).mono ?_
    rintro e w1 ⟨rfl, hb⟩
    have HB := Lib.hid hb
    clear hb
    go_wp2
    go_ret2
    exact ⟨HB.out, .inr ⟨by decide, rfl⟩⟩
set_option maxRecDepth 100000 in
theorem step_of_c {r0 i0 r1 i1 r2 i2 r3 i3 : Nat} {k now : Int} {l l' : List Int} (hd : DoesC r0 i0 r1 i1 r2 i2 r3 i3 k now l l') (hl : 0 < l.length) (hl2 : l.length ≤ 32) (hn0 : 0 ≤ now) (hn1 : now ≤ 2147483647) (hw : block_wrong.f 8 k l = some 0) :
    StepTo r0 i0 r1 i1 r2 i2 r3 i3 k now l (l', 0) := by
  intro A c w hq hr hc
  obtain ⟨hll, hdo⟩ := hd
  obtain ⟨ad, rfl⟩ := I_some hr hl
  have HR := Lib.hid hr
  have HC := Lib.hid hc
  have HW := Lib.hid hw
  have HD := Lib.hid hdo
  have HQ := Lib.hid hq
  have HL := Lib.hid hll
  clear hr hc hw hdo hq hll
  go_enter Tryd.func10, Tryd.ntmps10
  go_wp2_with fail
  refine (block_wrong.calls 8 k _ c l 0 _ HR.out HC.out HW.out).mono ?_
  rintro e w1 ⟨rfl, hb⟩
  have r1_ := Lib.hid (Kd.C_below HR.out hb)
  have B1 := Lib.hid hb
  have Q1 := Lib.hid (HQ.out.below hb)
  clear hb
  go_wp2_with fail
  refine (clone_any ad c l _ r1_.out hl2).mono ?_
  rintro e w2 ⟨v, rfl, hv, hb⟩
  obtain ⟨g2, c2, rfl, _⟩ := (Kd.own_of_R hv).form hl
  have HV := Lib.hid hv
  have B2 := Lib.hid hb
  clear hb hv
  go_wp2_with fail
  have hne : ¬ Own (.slice (some ⟨g2, 0, none⟩) l.length c2) w2.heap.size := fun h => by
    obtain ⟨_, inner, ho, _⟩ := HV.out
    have := own_lt ho _ h
    omega
  refine (HD.out _ _ _ _ Q1.out (Has.start (B2.out.alloc B2.out.size _) (Kd.R_alloc HV.out _))).mono ?_
  rintro e w3 ⟨rfl, h3⟩
  have hr3 := h3.2.1
  have hb3 := h3.2.2.1
  have hk3 := h3.2.2.2
  have bk := (hk3.2 w2.heap.size (by simp) hne).trans (blk_new w2 _)
  have c0 : w3.cell? ⟨w2.heap.size, 0, none⟩ = some (.slice (some ⟨g2, 0, none⟩) l.length c2) := (blk_cell bk 0).trans rfl
  have R3 : Hid (Row w.heap.size w3 g2 c2 l') := Lib.hid (by unfold Row; rw [HL.out]; exact Kd.R_lower hr3 B1.out.size)
  have B3 := Lib.hid (B1.out.trans (hb3.mono B1.out.size))
  clear h3 hr3 hb3 hk3 bk hne
  go_wp2
  go_ret2
  exact ⟨B3.out, .inl ⟨rfl, g2, c2, by rw [HL.out]; rfl, R3.out⟩⟩
/-- Step is SOME function of the kind, the cells and the time, whatever the circle holds; what it tells may be stepped again -/
theorem step_total (r0 i0 r1 i1 r2 i2 r3 i3 : Nat) (k now : Int) (l : List Int) : ∃ r, StepTo r0 i0 r1 i1 r2 i2 r3 i3 k now l r ∧ (r.2 = 0 → Fit k r.1 ∧ Fit k l ∧ r.1.length = l.length) := by
  rcases wrong_total k l with ⟨hw, hf⟩ | ⟨r, hr, hw⟩
  · by_cases hn : 0 ≤ now ∧ now ≤ 2147483647
    · obtain ⟨l', hf', hd⟩ := do_total r0 i0 r1 i1 r2 i2 r3 i3 hf (now := now) (by unfold I32; omega)
      exact ⟨(l', 0), step_of_c hd hf.len.1 (by have := hf.len.2; omega) hn.1 hn.2 hw, fun _ => ⟨hf', hf, hd.1⟩⟩
    · exact ⟨([], 1), fun A c w _ hC hc => step_late k now l hw (by omega) A c w hC hc, fun h => absurd h (by decide)⟩
  · exact ⟨([], r), fun A c w _ hC hc => step_no k now l r hr hw A c w hC hc, fun h => absurd h hr⟩

end Go.Proofs.YtefflkmegodafaaDoor.PBlockKeeps
