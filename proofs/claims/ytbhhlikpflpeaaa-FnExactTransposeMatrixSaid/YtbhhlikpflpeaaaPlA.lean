/- Plain laws: what the walks compute, no program in sight: numbers, rows, tables. -/
import Derived.Test.YtbhhlikpflpeaaaVamP
namespace Go.Vam
open Go Go.RowKit
set_option linter.unusedSimpArgs false
set_option linter.unusedVariables false

def inR (lo hi n : Int) : Bool := decide (lo ≤ n) && decide (n ≤ hi)
def nums (p : Int) (xs : List Int) : Bool := xs.all (inR 0 (p - 1))
def isP (p : Int) : Bool := decide (p = 3) || decide (p = 5) || decide (p = 7) || decide (p = 11) || decide (p = 13)
def okRow (p : Int) (n : Nat) (r : List Int) : Bool := decide (r.length = n) && nums p r
def isMat (p : Int) (m : List (List Int)) : Bool :=
  isP p && decide (1 ≤ m.length) && decide (m.length ≤ 16) && decide (1 ≤ (m.getD 0 []).length) && decide ((m.getD 0 []).length ≤ 16) && m.all (okRow p (m.getD 0 []).length)

theorem all_false_at {α : Type} {l : List α} {f : α → Bool} {k : Nat} {x : α} (hx : l[k]? = some x) (hf : f x = false) : l.all f = false := by
  rw [List.all_eq_false]
  exact ⟨x, List.mem_of_getElem? hx, by simp [hf]⟩
theorem all_take {α : Type} {l : List α} {f : α → Bool} {k : Nat} {x : α} (hx : l[k]? = some x) (hk : (l.take k).all f = true) (hf : f x = true) : (l.take (k + 1)).all f = true := by
  rw [List.take_add_one, hx]; simp only [List.all_append, hk, Option.toList, List.all_cons, hf, List.all_nil, Bool.and_self]
theorem all_full {α : Type} {l : List α} {f : α → Bool} {k : Nat} (hl : l.length ≤ k) (hk : (l.take k).all f = true) : l.all f = true := by
  rwa [List.take_of_length_le hl] at hk
theorem at_ {α : Type} {l : List α} {k : Nat} (h : k < l.length) : ∃ x, l[k]? = some x ∧ l[k] = x := ⟨l[k], by simp, rfl⟩

def szv (n : Nat) (left : Int) : Int := if (n : Int) ≤ left then left - n else -1
def rowsum (m : List (List Int)) : Nat := (m.map List.length).sum

theorem rowsum_take {m : List (List Int)} {k : Nat} {x : List Int} (h : m[k]? = some x) : rowsum (m.take (k + 1)) = rowsum (m.take k) + x.length := by
  unfold rowsum; rw [List.take_add_one, h]; simp
theorem rowsum_le (m : List (List Int)) (k : Nat) : rowsum (m.take k) ≤ rowsum m := by
  conv => rhs; rw [← List.take_append_drop k m]
  unfold rowsum; rw [List.map_append, List.sum_append]; omega

/-- A list that is being filled. -/
def fillL {α : Type} (f : α → D) (z : D) (xs : List α) (k : Nat) : List D := (xs.take k).map f ++ List.replicate (xs.length - k) z
theorem fill_len {α : Type} (f : α → D) (z : D) (xs : List α) (k : Nat) (h : k ≤ xs.length) : (fillL f z xs k).length = xs.length := by
  simp [fillL]; omega
theorem fill_zero {α : Type} (f : α → D) (z : D) (xs : List α) : List.replicate xs.length z = fillL f z xs 0 := by simp [fillL]
theorem fill_full {α : Type} (f : α → D) (z : D) (xs : List α) (k : Nat) (h : xs.length ≤ k) : fillL f z xs k = xs.map f := by
  simp [fillL, List.take_of_length_le h, Nat.sub_eq_zero_of_le h]
theorem fill_set {α : Type} (f : α → D) (z : D) (xs : List α) (k : Nat) (x : α) (h : xs[k]? = some x) : (fillL f z xs k).set k (f x) = fillL f z xs (k + 1) := by
  obtain ⟨hk, hx⟩ := List.getElem?_eq_some_iff.1 h
  unfold fillL
  rw [List.take_add_one, h, List.set_append_right _ _ (by simp; omega)]
  have : xs.length - k = (xs.length - (k + 1)) + 1 := by omega
  rw [this, List.replicate_succ]
  simp [Nat.min_eq_left (Nat.le_of_lt hk)]

theorem take_eq_at {α : Type} {a b : List α} {k : Nat} {x y : α} (hx : a[k]? = some x) (hy : b[k]? = some y) (h : a.take k = b.take k) (e : x = y) : a.take (k + 1) = b.take (k + 1) := by
  rw [List.take_add_one, List.take_add_one, hx, hy, h, e]
theorem ne_at {α : Type} {a b : List α} {k : Nat} {x y : α} (hx : a[k]? = some x) (hy : b[k]? = some y) (h : x ≠ y) : a ≠ b := by
  rintro rfl; rw [hx] at hy; exact h (Option.some.inj hy)
theorem eq_full {α : Type} {a b : List α} {k : Nat} (hl : a.length = b.length) (hk : a.length ≤ k) (h : a.take k = b.take k) : a = b := by
  rwa [List.take_of_length_le hk, List.take_of_length_le (by omega)] at h
theorem rowsum_mem {m : List (List Int)} {r : List Int} (h : r ∈ m) : r.length ≤ rowsum m := by
  induction m with
  | nil => cases h
  | cons a m ih =>
    simp only [rowsum, List.map_cons, List.sum_cons]
    rcases List.mem_cons.1 h with rfl | h
    · omega
    · have := ih h; simp only [rowsum] at this; omega

/-- What the checks ahead of the rows say. -/
def preM (p : Int) (m : List (List Int)) : Bool :=
  isP p && decide (1 ≤ m.length) && decide (m.length ≤ 16) && decide (1 ≤ (m.getD 0 []).length) && decide ((m.getD 0 []).length ≤ 16)
theorem isMat_eq (p : Int) (m : List (List Int)) : isMat p m = (preM p m && m.all (okRow p (m.getD 0 []).length)) := rfl
theorem isP_le {p : Int} (h : isP p = true) : 3 ≤ p ∧ p ≤ 13 := by
  simp [isP] at h; omega

/-- A row of the implementation's table. -/
def tabRow (p : Int) (n : Nat) (r : List Int) : Bool := decide (r.length = n) && decide (1 ≤ r.length) && decide (r.length ≤ 16) && nums p r
def isTab (p : Int) (m : List (List Int)) : Bool := decide (m.length ≤ 16) && m.all (tabRow p (m.getD 0 []).length)

theorem isMat_tab (p : Int) (m : List (List Int)) : isMat p m = (isP p && (decide (0 < m.length) && isTab p m)) := by
  cases m with
  | nil => simp [isMat]
  | cons r m =>
    have e : (r :: m).getD 0 [] = r := rfl
    rw [Bool.eq_iff_iff]
    simp only [isMat, isTab, e, List.all_eq_true, Bool.and_eq_true, decide_eq_true_eq, okRow, tabRow]
    constructor
    · rintro ⟨⟨⟨⟨⟨h1, h2⟩, h3⟩, h4⟩, h5⟩, h6⟩
      exact ⟨h1, h2, h3, fun x hx => by obtain ⟨a, b⟩ := h6 x hx; exact ⟨⟨⟨a, by omega⟩, by omega⟩, b⟩⟩
    · rintro ⟨h1, h2, h3, h6⟩
      obtain ⟨⟨⟨a, b⟩, c⟩, d⟩ := h6 r (by simp)
      exact ⟨⟨⟨⟨⟨h1, h2⟩, h3⟩, b⟩, c⟩, fun x hx => ⟨(h6 x hx).1.1.1, (h6 x hx).2⟩⟩
end Go.Vam
