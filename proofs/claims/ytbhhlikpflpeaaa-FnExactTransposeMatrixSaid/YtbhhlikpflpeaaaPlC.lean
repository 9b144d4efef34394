/- Plain laws: marks. -/
import Derived.Test.YtbhhlikpflpeaaaPlB
namespace Go.Vam
open Go Go.RowKit
set_option linter.unusedSimpArgs false
set_option linter.unusedVariables false

/-- A row whose first j numbers are marked, from k on. -/
def mkI (k : Int) (xs : List Int) (j : Nat) : List Int := (List.range j).map (fun (i : Nat) => k + i) ++ xs.drop j
theorem mkI_zero (k : Int) (xs : List Int) : mkI k xs 0 = xs := by simp [mkI]
theorem mkI_len (k : Int) (xs : List Int) (j : Nat) (h : j ≤ xs.length) : (mkI k xs j).length = xs.length := by simp [mkI]; omega
theorem mkI_set (k : Int) (xs : List Int) (j : Nat) (h : j < xs.length) : ((mkI k xs j).map (D.int .i64)).set j (.int .i64 (k + j)) = (mkI k xs (j + 1)).map (D.int .i64) := by
  rw [← List.map_set]
  congr 1
  unfold mkI
  rw [List.set_append_right _ _ (by simp), List.range_succ, List.map_append, List.append_assoc]
  congr 1
  simp only [List.length_map, List.length_range, Nat.sub_self, List.map_cons, List.map_nil]
  rw [List.drop_eq_getElem_cons h]
  rfl
/-- The marked row. -/
def mrkI (k : Int) (xs : List Int) : List Int := mkI k xs xs.length
theorem mrkI_eq (k : Int) (xs : List Int) : mrkI k xs = (List.range xs.length).map (fun (i : Nat) => k + i) := by simp [mrkI, mkI]
theorem mrkI_at {k : Int} {xs ys : List Int} (he : ys = mrkI k xs) {j : Nat} (h : j < ys.length) : ys[j]? = some (k + j) := by
  subst he
  rw [mrkI_eq] at h ⊢
  simp at h
  simp [h]
theorem mrkI_len (k : Int) (xs : List Int) : (mrkI k xs).length = xs.length := by simp [mrkI_eq]

/-- A table whose first j rows are marked: where the count stands; what it holds. -/
def mkC (k : Int) (m : List (List Int)) (j : Nat) : Int := k + rowsum (m.take j)
def mkM (k : Int) (m : List (List Int)) (j : Nat) : List (List Int) := (List.range j).map (fun i => mrkI (mkC k m i) (m.getD i [])) ++ m.drop j
theorem mkM_zero (k : Int) (m : List (List Int)) : mkM k m 0 = m := by simp [mkM]
theorem mkM_len (k : Int) (m : List (List Int)) (j : Nat) (h : j ≤ m.length) : (mkM k m j).length = m.length := by simp [mkM]; omega
theorem mkM_at (k : Int) (m : List (List Int)) (j : Nat) {x : List Int} (h : m[j]? = some x) : (mkM k m j)[j]? = some x := by
  unfold mkM
  rw [List.getElem?_append_right (by simp)]
  simp [h]
theorem mkM_set (k : Int) (m : List (List Int)) (j : Nat) {x : List Int} (h : m[j]? = some x) : ((mkM k m j).map dI).set j (dI (mrkI (mkC k m j) x)) = (mkM k m (j + 1)).map dI := by
  obtain ⟨hj, hx⟩ := List.getElem?_eq_some_iff.1 h
  rw [← List.map_set]
  congr 1
  unfold mkM
  rw [List.set_append_right _ _ (by simp), List.range_succ, List.map_append, List.append_assoc]
  congr 1
  simp only [List.length_map, List.length_range, Nat.sub_self, List.map_cons, List.map_nil]
  rw [List.drop_eq_getElem_cons hj, List.set_cons_zero, List.getD_eq_getElem?_getD, h]
  rfl
theorem mkC_succ (k : Int) (m : List (List Int)) (j : Nat) {x : List Int} (h : m[j]? = some x) : mkC k m (j + 1) = mkC k m j + x.length := by
  unfold mkC; rw [rowsum_take h]; omega
theorem mkC_full (k : Int) (m : List (List Int)) : mkC k m m.length = k + rowsum m := by simp [mkC]
theorem mkC_le (k : Int) (m : List (List Int)) (j : Nat) : k ≤ mkC k m j ∧ mkC k m j ≤ k + rowsum m := by
  unfold mkC; have := rowsum_le m j; omega
/-- The marked table. -/
def mrkM (k : Int) (m : List (List Int)) : List (List Int) := mkM k m m.length
theorem mrkM_len (k : Int) (m : List (List Int)) : (mrkM k m).length = m.length := mkM_len _ _ _ (Nat.le_refl _)
theorem mrkM_at {k : Int} {m y : List (List Int)} (he : y = mrkM k m) {j : Nat} {x : List Int} (h : m[j]? = some x) : y[j]? = some (mrkI (mkC k m j) x) := by
  subst he
  obtain ⟨hj, hx⟩ := List.getElem?_eq_some_iff.1 h
  simp [mrkM, mkM, hj, h, hx]
end Go.Vam
