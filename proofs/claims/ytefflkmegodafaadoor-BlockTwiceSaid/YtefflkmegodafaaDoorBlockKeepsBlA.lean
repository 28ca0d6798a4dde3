/-
  Plain law of layer 12 (block): cells that may be, of each kind (the printed block.wrong).
-/
import Derived.Test.YtefflkmegodafaaDoorPBlockKeepsx1
import Derived.IntWalk
namespace Go.Proofs.YtefflkmegodafaaDoor.PBlockKeeps
open Go.RowKit Go.Proofs.YtefflkmegodafaaDoorW.PrintWords Go.Proofs.YtefflkmegodafaaDoorW.PrintLast Go.Proofs.YtefflkmegodafaaDoorW.PrintMore

/-- a truth as a number -/
def Bit (n : Int) : Prop := n = 0 ∨ n = 1
theorem fits_bit {n : Int} (h : Bit n) : num_Fits.f 1 n = some true := by
  rcases h with rfl | rfl <;> rfl
theorem fits_int {n : Int} (h0 : -32768 ≤ n) (h1 : n ≤ 32767) : num_Fits.f 2 n = some true := by
  have e : wrap64 (IntKind.i16.wrap n) = n := by
    have : IntKind.i16.wrap n = n := by simp only [IntKind.wrap, IntKind.signed, IntKind.bits]; simp; omega
    rw [this]; exact IntWalk.wrap64_in _ (by omega)
  unfold num_Fits.f num_known.f num_wrap.f
  simp [e]
theorem fits_time {n : Int} (h0 : 0 ≤ n) (h1 : n ≤ 2147483647) : num_Fits.f 4 n = some true := by
  have e : wrap64 (wrap32 n) = n := by
    have : wrap32 n = n := by unfold wrap32; omega
    rw [this]; exact IntWalk.wrap64_in _ (by omega)
  unfold num_Fits.f num_known.f num_wrap.f
  simp [e]

theorem fields_time {k : Int} (h : k = 1 ∨ k = 2 ∨ k = 3) : ∃ l : List S60, typed_Fields.f 4 k = some (l, 0) ∧ l.map (·.f1) = [1, 4, 1, 4, 4, 1] := by
  rcases h with rfl | rfl | rfl <;> exact ⟨_, rfl, rfl⟩
theorem fields_count {k : Int} (h : k = 4 ∨ k = 5) : ∃ l : List S60, typed_Fields.f 4 k = some (l, 0) ∧ l.map (·.f1) = [1, 1, 2, 1, 2, 1] := by
  rcases h with rfl | rfl <;> exact ⟨_, rfl, rfl⟩
theorem fields_three {k : Int} (h : k = 6 ∨ k = 7 ∨ k = 8 ∨ k = 9) : ∃ l : List S60, typed_Fields.f 4 k = some (l, 0) ∧ l.map (·.f1) = [1, 1, 1] := by
  rcases h with rfl | rfl | rfl | rfl <;> exact ⟨_, rfl, rfl⟩

theorem three_of {l : List S60} {a b c : Int} (h : l.map (·.f1) = [a, b, c]) : ∃ x y z : S60, l = [x, y, z] ∧ x.f1 = a ∧ y.f1 = b ∧ z.f1 = c := by
  match l, h with
  | [x, y, z], h => simp at h; exact ⟨x, y, z, rfl, h.1, h.2.1, h.2.2⟩
theorem six_of {l : List S60} {a b c d e f : Int} (h : l.map (·.f1) = [a, b, c, d, e, f]) : ∃ x y z u v w : S60, l = [x, y, z, u, v, w] ∧ x.f1 = a ∧ y.f1 = b ∧ z.f1 = c ∧ u.f1 = d ∧ v.f1 = e ∧ w.f1 = f := by
  match l, h with
  | [x, y, z, u, v, w], h => simp at h; exact ⟨x, y, z, u, v, w, rfl, h.1, h.2.1, h.2.2.1, h.2.2.2.1, h.2.2.2.2.1, h.2.2.2.2.2⟩

theorem wrong_three {k a b c : Int} (h : k = 6 ∨ k = 7 ∨ k = 8 ∨ k = 9) (ha : Bit a) (hb : Bit b) (hc : Bit c) : block_wrong.f 4 k [a, b, c] = some 0 := by
  obtain ⟨l, e, hl⟩ := fields_three h
  obtain ⟨x, y, z, rfl, hx, hy, hz⟩ := three_of hl
  unfold block_wrong.f
  rw [e]
  simp [block_wrong.l0, rd_T60, rd, hx, hy, hz, fits_bit ha, fits_bit hb, fits_bit hc, wrap64]
theorem wrong_time {k a b c d e f : Int} (h : k = 1 ∨ k = 2 ∨ k = 3) (ha : Bit a) (hb : 0 ≤ b ∧ b ≤ 2147483647) (hc : Bit c) (hd : 0 ≤ d ∧ d ≤ 2147483647) (he : 0 ≤ e ∧ e ≤ 2147483647) (hf : Bit f) : block_wrong.f 8 k [a, b, c, d, e, f] = some 0 := by
  obtain ⟨l, e1, hl⟩ := fields_time h
  obtain ⟨x, y, z, u, v, w, rfl, hx, hy, hz, hu, hv, hw⟩ := six_of hl
  unfold block_wrong.f
  rw [typed_Fields.mono _ 7 _ (typed_Fields.mono _ 6 _ (typed_Fields.mono _ 5 _ (typed_Fields.mono _ 4 _ e1)))]
  simp [block_wrong.l0, rd_T60, rd, hx, hy, hz, hu, hv, hw, fits_bit ha, fits_time hb.1 hb.2, fits_bit hc, fits_time hd.1 hd.2, fits_time he.1 he.2, fits_bit hf, wrap64]
theorem wrong_count {k a b c d e f : Int} (h : k = 4 ∨ k = 5) (ha : Bit a) (hb : Bit b) (hc : -32768 ≤ c ∧ c ≤ 32767) (hd : Bit d) (he : -32768 ≤ e ∧ e ≤ 32767) (hf : Bit f) : block_wrong.f 8 k [a, b, c, d, e, f] = some 0 := by
  obtain ⟨l, e1, hl⟩ := fields_count h
  obtain ⟨x, y, z, u, v, w, rfl, hx, hy, hz, hu, hv, hw⟩ := six_of hl
  unfold block_wrong.f
  rw [typed_Fields.mono _ 7 _ (typed_Fields.mono _ 6 _ (typed_Fields.mono _ 5 _ (typed_Fields.mono _ 4 _ e1)))]
  simp [block_wrong.l0, rd_T60, rd, hx, hy, hz, hu, hv, hw, fits_bit ha, fits_bit hb, fits_int hc.1 hc.2, fits_bit hd, fits_int he.1 he.2, fits_bit hf, wrap64]

end Go.Proofs.YtefflkmegodafaaDoor.PBlockKeeps
