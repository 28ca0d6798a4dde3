/-
  Plain facts of layer 4 (num): what each operation comes to at values that fit.
-/
import Derived.Test.YtjdoeehmnfbepaaNumR
namespace Go.Proofs.Ytjdoeehmnfbepaa.Num
open Go.RowKit

theorem kind_or (n : Int) : kindV n = 2 ∨ kindV n = 3 := by unfold kindV; split <;> simp
def modT (t : Int) : Int := if t = 2 then 65536 else 4294967296
theorem wrap_add (t x : Int) (h : t = 2 ∨ t = 3) : ∃ k, wrapT t x = x + modT t * k := by
  rcases h with rfl | rfl
  · refine ⟨-((x + 32768) / 65536), ?_⟩; rw [wrap2]; show _ = x + 65536 * _; omega
  · refine ⟨-((x + 2147483648) / 4294967296), ?_⟩; rw [wrap3]; show _ = x + 4294967296 * _; omega
theorem wrap_of_add (t x k : Int) (h : t = 2 ∨ t = 3) : wrapT t (x + modT t * k) = wrapT t x := by
  rcases h with rfl | rfl
  · simp only [wrap2, modT, if_pos]; omega
  · simp only [wrap3, modT]; simp; omega
theorem wrap_sum (t x y : Int) (h : t = 2 ∨ t = 3) : wrapT t (wrapT t x + y) = wrapT t (x + y) := by
  obtain ⟨k, hk⟩ := wrap_add t x h
  rw [hk, show x + modT t * k + y = x + y + modT t * k from by omega, wrap_of_add t _ _ h]
theorem wrap_sum' (t x y : Int) (h : t = 2 ∨ t = 3) : wrapT t (x + wrapT t y) = wrapT t (x + y) := by
  rw [Int.add_comm, wrap_sum t y x h, Int.add_comm]
theorem wrap_mul (t x y : Int) (h : t = 2 ∨ t = 3) : wrapT t (wrapT t x * y) = wrapT t (x * y) := by
  obtain ⟨k, hk⟩ := wrap_add t x h
  rw [hk, Int.add_mul, Int.mul_assoc, wrap_of_add t _ _ h]
theorem wrap_mul' (t x y : Int) (h : t = 2 ∨ t = 3) : wrapT t (x * wrapT t y) = wrapT t (x * y) := by
  rw [Int.mul_comm, wrap_mul t y x h, Int.mul_comm]
theorem wrap_64 (t x : Int) (h : t = 2 ∨ t = 3) : wrapT t (wrap64 x) = wrapT t x := by
  rcases h with rfl | rfl
  · simp only [wrap2, wrap64]; omega
  · simp only [wrap3, wrap64]; omega
theorem not_i64 (n : Int) (h1 : -9223372036854775808 ≤ n) (h2 : n ≤ 9223372036854775807) : bits .xor .i64 (-1) n = -1 - n := by
  have e : (BitVec.ofInt 64 (-1) ^^^ BitVec.ofInt 64 n).toNat = 18446744073709551615 - (BitVec.ofInt 64 n).toNat := by
    have a : BitVec.ofInt 64 (-1) = BitVec.allOnes 64 := by decide
    rw [a, BitVec.allOnes_xor, BitVec.toNat_not]
  show IntKind.i64.wrap ((BitVec.ofInt 64 (-1) ^^^ BitVec.ofInt 64 n).toNat : Nat) = -1 - n
  rw [e, BitVec.toNat_ofInt, IntKind.wrap_i64]
  have : (n % ((2 ^ 64 : Nat) : Int)) = n % 18446744073709551616 := rfl
  rw [this]
  omega

theorem known_or {t : Int} (h : t = 2 ∨ t = 3) : knownB t = true := by rcases h with rfl | rfl <;> rfl
theorem has_or {t k : Int} (h : t = 2 ∨ t = 3) (hk : k = 28 ∨ k = 12 ∨ k = 14 ∨ k = 30) : hasB k t = true := by
  rcases h with rfl | rfl <;> rcases hk with rfl | rfl | rfl | rfl <;> rfl
section
variable {t a b : Int} (h : t = 2 ∨ t = 3) (ha : fitsB t a = true) (hb : fitsB t b = true)
include h ha hb
theorem does_1 : doesV 1 t false a b = (wrapT t (a + b), 0) := by
  simp [doesV, opOne, opTruth, opK, has_or h, ha, hb, opV, wrap_64 t _ h]
theorem does_2 : doesV 2 t false a b = (wrapT t (a - b), 0) := by
  simp [doesV, opOne, opTruth, opK, has_or h, ha, hb, opV, wrap_64 t _ h]
theorem does_3 : doesV 3 t false a b = (wrapT t (a * b), 0) := by
  simp [doesV, opOne, opTruth, opK, has_or h, ha, hb, opV, wrap_64 t _ h]
theorem does_4 (h0 : ¬ b = 0) : doesV 4 t false a b = (wrapT t (a.tdiv b), 0) := by
  simp [doesV, opOne, opTruth, opK, has_or h, ha, hb, opV, wrap_64 t _ h, h0]
theorem does_5 (h0 : ¬ b = 0) : doesV 5 t false a b = (wrapT t (a.tmod b), 0) := by
  simp [doesV, opOne, opTruth, opK, has_or h, ha, hb, opV, h0]
theorem does_8 : doesV 8 t false a b = (wrapT t (bits .xor .i64 a b), 0) := by
  simp [doesV, opOne, opTruth, opK, has_or h, ha, hb, opV]
end
theorem does_40 {t a : Int} (h : t = 2 ∨ t = 3) (ha : fitsB t a = true) : doesV 4 t false a 0 = (0, 41) ∧ doesV 5 t false a 0 = (0, 41) := by
  have h0 : fitsB t 0 = true := by rcases h with rfl | rfl <;> decide +kernel
  exact ⟨by simp [doesV, opOne, opK, has_or h, ha, h0], by simp [doesV, opOne, opK, has_or h, ha, h0]⟩
theorem does_15 {t a : Int} (h : t = 2 ∨ t = 3) (ha : fitsB t a = true) : doesV 15 t true a a = (wrapT t (-a), 0) := by
  simp [doesV, opOne, opTruth, opK, has_or h, ha, opV, wrap_64 t _ h]
theorem fits_bound {t a : Int} (h : t = 2 ∨ t = 3) (ha : fitsB t a = true) : -2147483648 ≤ a ∧ a ≤ 2147483647 := by
  rcases h with rfl | rfl
  · have := fits2.1 ha; omega
  · exact fits3.1 ha
theorem does_16 {t a : Int} (h : t = 2 ∨ t = 3) (ha : fitsB t a = true) : doesV 16 t true a a = (wrapT t (-1 - a), 0) := by
  have b := fits_bound h ha
  have hn := not_i64 a (by omega) (by omega)
  simp [doesV, opOne, opTruth, opK, has_or h, ha, opV, hn]

/-- a value of type t that came out of capstanlaw04.wrapped -/
theorem wrapped_fits {t : Int} (h : t = 2 ∨ t = 3) (n : Int) : fitsB t (wrappedV t n) = true := by
  unfold wrappedV; rw [if_pos (known_or h)]; exact wrap_fits (known_or h) n

theorem bnext {w a b : World} (h : Below w.heap.size w a) (k : Below a.heap.size a b) : Below w.heap.size w b := h.trans (k.mono h.size)
theorem below_drewN {B : Nat} {a w : World} (h : Below B a w) (n : Nat) : Below B a (w.drewN n) := ⟨h.os, h.tape, h.output, h.size, h.block⟩
theorem below_new1 (w : World) (o : Obj) : Below w.heap.size w (w.alloc o) := (Below.refl _ _).alloc (Nat.le_refl _) o
theorem below_new2 (w : World) (o o' : Obj) : Below w.heap.size w ((w.alloc o).alloc o') := (below_new1 w o).alloc (by simp) o'
theorem quiet_left {P : Program} {f : FuncId} {args : Array Value} {w : World} {n : Nat} {v : Value}
    (h : Calls P f args (w.drewN n) fun e w' => e = .returned v ∧ w.drewN n = w') : Calls P f args (w.drewN n) fun e w'' => e = .returned v ∧ ∃ m, w'' = w.drewN m :=
  h.mono fun _ _ ⟨he, hm⟩ => ⟨he, n, hm.symm⟩

end Go.Proofs.Ytjdoeehmnfbepaa.Num
