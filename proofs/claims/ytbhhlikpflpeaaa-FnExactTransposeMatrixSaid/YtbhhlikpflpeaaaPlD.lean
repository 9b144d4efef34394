/- Plain laws: turning a table; applying it; sums and multiples of rows. -/
import Derived.Test.YtbhhlikpflpeaaaPlC
namespace Go.Vam
open Go Go.RowKit
set_option linter.unusedSimpArgs false
set_option linter.unusedVariables false

/-- The column j, of the first i rows; the first k columns. -/
def colp (m : List (List Int)) (j i : Nat) : List Int := (m.take i).map fun r => r.getD j 0
def trp (m : List (List Int)) (k : Nat) : List (List Int) := (List.range k).map fun j => colp m j m.length
def trn (m : List (List Int)) : List (List Int) := trp m (m.getD 0 []).length
theorem colp_len (m : List (List Int)) (j i : Nat) (h : i ≤ m.length) : (colp m j i).length = i := by simp [colp]; omega
theorem colp_app {m : List (List Int)} {j i : Nat} {r : List Int} {x : Int} (hr : m[i]? = some r) (hx : r[j]? = some x) : (colp m j i).map (D.int .i64) ++ [.int .i64 x] = (colp m j (i + 1)).map (D.int .i64) := by
  have : r.getD j 0 = x := by rw [List.getD_eq_getElem?_getD, hx]; rfl
  simp [colp, List.take_add_one, hr, hx]
theorem trp_len (m : List (List Int)) (k : Nat) : (trp m k).length = k := by simp [trp]
theorem trp_app (m : List (List Int)) (k : Nat) : (trp m k).map dI ++ [dI (colp m k m.length)] = (trp m (k + 1)).map dI := by
  simp [trp, List.range_succ]
theorem trp_row (m : List (List Int)) (k : Nat) : ∀ r ∈ trp m k, r.length = m.length := by
  intro r hr
  simp only [trp, List.mem_map, List.mem_range] at hr
  obtain ⟨j, _, rfl⟩ := hr
  exact colp_len _ _ _ (Nat.le_refl _)
theorem rowsum_const {m : List (List Int)} {n : Nat} (h : ∀ r ∈ m, r.length = n) : rowsum m = m.length * n := by
  induction m with
  | nil => simp [rowsum]
  | cons r m ih =>
    have h1 := h r (by simp)
    have h2 := ih fun x hx => h x (by simp [hx])
    simp only [rowsum, List.map_cons, List.sum_cons] at h2 ⊢
    rw [h2, h1, List.length_cons, Nat.add_mul]; omega
theorem ckM_one (p : Int) (m : List (List Int)) : ckM p [m] = if isMat p m = true then 0 else 1 := by
  have : (isP p && [m].all (isMat p)) = isMat p m := by
    simp only [List.all_cons, List.all_nil, Bool.and_true]
    by_cases hm : isMat p m = true
    · simp [hm, show isP p = true by simp only [isMat, Bool.and_eq_true] at hm; exact hm.1.1.1.1.1]
    · simp [hm]
  simp only [ckM, this]

/-- What a turning call answers. -/
def ttv (p : Int) (m : List (List Int)) : List (List Int) := if isMat p m = true then trn m else []
def ttc (p : Int) (m : List (List Int)) : Int := if isMat p m = true then 0 else 1
theorem ttv_size (p : Int) (m : List (List Int)) : (ttv p m).length ≤ 16 ∧ (∀ r ∈ ttv p m, r.length ≤ 16) ∧ rowsum (ttv p m) ≤ 256 := by
  unfold ttv
  split
  · rename_i h
    obtain ⟨_, _, _, h16, _, hr16, _⟩ := isMat_facts h
    have h1 := trp_len m (m.getD 0 []).length
    have h2 := trp_row m (m.getD 0 []).length
    refine ⟨by unfold trn; omega, fun r hr => by rw [h2 r hr]; omega, ?_⟩
    unfold trn
    rw [rowsum_const h2, h1]
    exact Nat.mul_le_mul hr16 h16
  · simp [rowsum]
/-- Small enough for all that is asked. -/
theorem small_rows {m : List (List Int)} {n : Nat} (h : ∀ r ∈ m, r.length ≤ n) (hn : n ≤ 9223372036854775807) : ∀ r ∈ m, r.length ≤ 9223372036854775807 := fun r hr => Nat.le_trans (h r hr) hn
end Go.Vam
