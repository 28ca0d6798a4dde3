/-
  The walk of num.find: which operation there is of a number.
-/
import Derived.Test.YtefflkmegodafaaDoorNumA
import Derived.Laws.EntriesVeiled
import Derived.Deep.Cut
namespace Go.Proofs.YtefflkmegodafaaDoor.Num
open Go.RowKit

/-- the function that does an operation -/
def opF (n : Int) : FuncId :=
  if n = 1 then 69 else if n = 2 then 70 else if n = 3 then 71 else if n = 4 then 72
  else if n = 5 then 73 else if n = 6 then 74 else if n = 7 then 75 else if n = 8 then 76
  else if n = 9 then 77 else if n = 10 then 79 else if n = 11 then 80 else if n = 12 then 81
  else if n = 13 then 82 else if n = 14 then 83 else if n = 15 then 84 else 85

set_option maxRecDepth 100000 in
set_option maxHeartbeats 4000000 in
theorem find_yes (n : Int) (h1 : 1 ≤ n) (h2 : n ≤ 16) (w : World) : Calls Tryd.prog 65 #[.int .i64 n] w fun e w' => e = .returned (.tuple #[.agg #[.int .i64 (opK n), .bool (opOne n), .func (.func (opF n)) #[] #[], .bool (opTruth n)], .bool true]) ∧ Below w.heap.size w w' := by
  have hB : ∀ o1 o2 : Obj, Below w.heap.size w ((w.alloc o1).alloc o2) := fun o1 o2 => ((Below.refl _ _).alloc (Nat.le_refl _) _).alloc (by simp) _
  go_enter Tryd.func65, Tryd.ntmps65
  go_upto_region 4 with (fail)
  have hn : n = 1 ∨ n = 2 ∨ n = 3 ∨ n = 4 ∨ n = 5 ∨ n = 6 ∨ n = 7 ∨ n = 8 ∨ n = 9 ∨ n = 10 ∨ n = 11 ∨ n = 12 ∨ n = 13 ∨ n = 14 ∨ n = 15 ∨ n = 16 := by omega
  rcases hn with rfl | rfl | rfl | rfl | rfl | rfl | rfl | rfl | rfl | rfl | rfl | rfl | rfl | rfl | rfl | rfl
  · go_wp2
    exact bodyPost_ret (v := .tuple #[.agg #[.int .i64 28, .bool false, .func (.func 69) #[] #[], .bool false], .bool true]) (by simp [results, Tryd.results65, go_sem]) rfl ⟨rfl, hB _ _⟩
  · go_wp2
    exact bodyPost_ret (v := .tuple #[.agg #[.int .i64 28, .bool false, .func (.func 70) #[] #[], .bool false], .bool true]) (by simp [results, Tryd.results65, go_sem]) rfl ⟨rfl, hB _ _⟩
  · go_wp2
    exact bodyPost_ret (v := .tuple #[.agg #[.int .i64 12, .bool false, .func (.func 71) #[] #[], .bool false], .bool true]) (by simp [results, Tryd.results65, go_sem]) rfl ⟨rfl, hB _ _⟩
  · go_wp2
    exact bodyPost_ret (v := .tuple #[.agg #[.int .i64 12, .bool false, .func (.func 72) #[] #[], .bool false], .bool true]) (by simp [results, Tryd.results65, go_sem]) rfl ⟨rfl, hB _ _⟩
  · go_wp2
    exact bodyPost_ret (v := .tuple #[.agg #[.int .i64 12, .bool false, .func (.func 73) #[] #[], .bool false], .bool true]) (by simp [results, Tryd.results65, go_sem]) rfl ⟨rfl, hB _ _⟩
  · go_wp2
    exact bodyPost_ret (v := .tuple #[.agg #[.int .i64 14, .bool false, .func (.func 74) #[] #[], .bool false], .bool true]) (by simp [results, Tryd.results65, go_sem]) rfl ⟨rfl, hB _ _⟩
  · go_wp2
    exact bodyPost_ret (v := .tuple #[.agg #[.int .i64 14, .bool false, .func (.func 75) #[] #[], .bool false], .bool true]) (by simp [results, Tryd.results65, go_sem]) rfl ⟨rfl, hB _ _⟩
  · go_wp2
    exact bodyPost_ret (v := .tuple #[.agg #[.int .i64 14, .bool false, .func (.func 76) #[] #[], .bool false], .bool true]) (by simp [results, Tryd.results65, go_sem]) rfl ⟨rfl, hB _ _⟩
  · go_wp2
    exact bodyPost_ret (v := .tuple #[.agg #[.int .i64 30, .bool false, .func (.func 77) #[] #[], .bool true], .bool true]) (by simp [results, Tryd.results65, go_sem]) rfl ⟨rfl, hB _ _⟩
  · go_wp2
    exact bodyPost_ret (v := .tuple #[.agg #[.int .i64 30, .bool false, .func (.func 79) #[] #[], .bool true], .bool true]) (by simp [results, Tryd.results65, go_sem]) rfl ⟨rfl, hB _ _⟩
  · go_wp2
    exact bodyPost_ret (v := .tuple #[.agg #[.int .i64 28, .bool false, .func (.func 80) #[] #[], .bool true], .bool true]) (by simp [results, Tryd.results65, go_sem]) rfl ⟨rfl, hB _ _⟩
  · go_wp2
    exact bodyPost_ret (v := .tuple #[.agg #[.int .i64 28, .bool false, .func (.func 81) #[] #[], .bool true], .bool true]) (by simp [results, Tryd.results65, go_sem]) rfl ⟨rfl, hB _ _⟩
  · go_wp2
    exact bodyPost_ret (v := .tuple #[.agg #[.int .i64 28, .bool false, .func (.func 82) #[] #[], .bool true], .bool true]) (by simp [results, Tryd.results65, go_sem]) rfl ⟨rfl, hB _ _⟩
  · go_wp2
    exact bodyPost_ret (v := .tuple #[.agg #[.int .i64 28, .bool false, .func (.func 83) #[] #[], .bool true], .bool true]) (by simp [results, Tryd.results65, go_sem]) rfl ⟨rfl, hB _ _⟩
  · go_wp2
    exact bodyPost_ret (v := .tuple #[.agg #[.int .i64 28, .bool true, .func (.func 84) #[] #[], .bool false], .bool true]) (by simp [results, Tryd.results65, go_sem]) rfl ⟨rfl, hB _ _⟩
  · go_wp2
    exact bodyPost_ret (v := .tuple #[.agg #[.int .i64 14, .bool true, .func (.func 85) #[] #[], .bool false], .bool true]) (by simp [results, Tryd.results65, go_sem]) rfl ⟨rfl, hB _ _⟩

set_option maxRecDepth 100000 in
set_option maxHeartbeats 4000000 in
theorem find_no (n : Int) (h : ¬ (1 ≤ n ∧ n ≤ 16)) (w : World) : Calls Tryd.prog 65 #[.int .i64 n] w fun e w' => e = .returned (.tuple #[.agg #[.int .i64 0, .bool false, .nilFunc, .bool false], .bool false]) ∧ Below w.heap.size w w' := by
  have hB : ∀ o1 o2 : Obj, Below w.heap.size w ((w.alloc o1).alloc o2) := fun o1 o2 => ((Below.refl _ _).alloc (Nat.le_refl _) _).alloc (by simp) _
  by_cases h1 : n < 1
  · go_enter Tryd.func65, Tryd.ntmps65
    go_wp2
    exact bodyPost_ret (v := .tuple #[.agg #[.int .i64 0, .bool false, .nilFunc, .bool false], .bool false]) (by simp [results, Tryd.results65, go_sem]) rfl ⟨rfl, hB _ _⟩
  · have h2 : 16 < n := by omega
    clear h
    go_enter Tryd.func65, Tryd.ntmps65
    go_wp2
    exact bodyPost_ret (v := .tuple #[.agg #[.int .i64 0, .bool false, .nilFunc, .bool false], .bool false]) (by simp [results, Tryd.results65, go_sem]) rfl ⟨rfl, hB _ _⟩

end Go.Proofs.YtefflkmegodafaaDoor.Num
