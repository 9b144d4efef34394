/- Plain laws: traces; what a table of the right shape holds. -/
import Derived.Test.YtbhhlikpflpeaaaPlA
namespace Go.Vam
open Go Go.RowKit
set_option linter.unusedSimpArgs false
set_option linter.unusedVariables false

theorem getD0_of {m : List (List Int)} {r : List Int} (h : m[0]? = some r) : m.getD 0 [] = r := by simp [h]

theorem isMat_facts {p : Int} {m : List (List Int)} (h : isMat p m = true) :
    3 ≤ p ∧ p ≤ 13 ∧ 1 ≤ m.length ∧ m.length ≤ 16 ∧ 1 ≤ (m.getD 0 []).length ∧ (m.getD 0 []).length ≤ 16 ∧
    (∀ (k : Nat) (r : List Int), m[k]? = some r → r.length = (m.getD 0 []).length ∧ ∀ (j : Nat) (x : Int), r[j]? = some x → 0 ≤ x ∧ x ≤ p - 1) := by
  simp only [isMat, Bool.and_eq_true, decide_eq_true_eq] at h
  obtain ⟨⟨⟨⟨⟨h1, h2⟩, h3⟩, h4⟩, h5⟩, h6⟩ := h
  obtain ⟨a, b⟩ := isP_le h1
  refine ⟨a, b, h2, h3, h4, h5, fun k r hk => ?_⟩
  have := List.all_eq_true.1 h6 r (List.mem_of_getElem? hk)
  simp only [okRow, Bool.and_eq_true, decide_eq_true_eq, nums, List.all_eq_true] at this
  refine ⟨this.1, fun j x hx => ?_⟩
  have := this.2 x (List.mem_of_getElem? hx)
  simp only [inR, Bool.and_eq_true, decide_eq_true_eq] at this
  exact this

/-- The code of a check for a square table. -/
def sqM (p : Int) (m : List (List Int)) : Int := if isMat p m = true then (if m.length = (m.getD 0 []).length then 0 else 2) else 1
theorem sqM_zero {p : Int} {m : List (List Int)} (h : sqM p m = 0) : isMat p m = true ∧ m.length = (m.getD 0 []).length := by
  unfold sqM at h
  split at h
  · split at h
    · exact ⟨‹_›, ‹_›⟩
    · cases h
  · cases h

def diag (m : List (List Int)) (k : Nat) : Int := (m.getD k []).getD k 0
def trs (m : List (List Int)) : Nat → Int
  | 0 => 0
  | k + 1 => trs m k + diag m k
def trv (p : Int) (m : List (List Int)) : Int := if sqM p m = 0 then (trs m m.length) % p else 0

theorem diag_at {m : List (List Int)} {k : Nat} {r : List Int} {x : Int} (h : m[k]? = some r) (hx : r[k]? = some x) : diag m k = x := by
  simp [diag, h, hx]

theorem trs_bound {m : List (List Int)} (h : ∀ k, k < m.length → 0 ≤ diag m k ∧ diag m k ≤ 12) : ∀ k, k ≤ m.length → 0 ≤ trs m k ∧ trs m k ≤ 12 * k
  | 0, _ => by simp [trs]
  | k + 1, hk => by
    have h1 := trs_bound h k (by omega)
    have h2 := h k (by omega)
    simp only [trs]
    omega
theorem sqM_diag {p : Int} {m : List (List Int)} (h : isMat p m = true) (hs : m.length = (m.getD 0 []).length) :
    ∀ k, k < m.length → ∃ r x, m[k]? = some r ∧ r[k]? = some x ∧ m[k]? = some r ∧ r.length = m.length ∧ 0 ≤ x ∧ x ≤ p - 1 := by
  intro k hk
  obtain ⟨_, _, _, _, _, _, hf⟩ := isMat_facts h
  obtain ⟨r, hr, _⟩ := at_ hk
  obtain ⟨h1, h2⟩ := hf k r hr
  obtain ⟨x, hx, _⟩ := at_ (show k < r.length by omega)
  exact ⟨r, x, hr, hx, hr, by omega, h2 k x hx⟩
theorem trs_small {p : Int} {m : List (List Int)} (h : isMat p m = true) (hs : m.length = (m.getD 0 []).length) (k : Nat) (hk : k ≤ m.length) : 0 ≤ trs m k ∧ trs m k ≤ 192 := by
  obtain ⟨_, hp, _, hm, _, _, _⟩ := isMat_facts h
  have := trs_bound (m := m) (fun j hj => by
    obtain ⟨r, x, h1, h2, _, _, h3, h4⟩ := sqM_diag h hs j hj
    rw [diag_at h1 h2]; omega) k hk
  omega

/-- Go's remainder, of what is not negative. -/
theorem tmod_nn {a b : Int} (h : 0 ≤ a) : a.tmod b = a % b := Int.tmod_eq_emod_of_nonneg h
theorem mod_fit {a p : Int} (h : 0 < p) : 0 ≤ a % p ∧ a % p < p := ⟨Int.emod_nonneg _ (by omega), Int.emod_lt_of_pos _ h⟩
theorem tmod_bounds (n : Int) {p : Int} (h : 0 < p) : -p < n.tmod p ∧ n.tmod p < p := by
  by_cases hn : 0 ≤ n
  · rw [tmod_nn hn]; have := mod_fit (a := n) h; omega
  · have e : n.tmod p = -((-n).tmod p) := by rw [Int.neg_tmod, Int.neg_neg]
    rw [e, tmod_nn (by omega)]
    have := mod_fit (a := -n) h; omega
/-- Go's way to a remainder that is not negative. -/
theorem num_mod (n : Int) {p : Int} (h : 0 < p) : (n.tmod p + p).tmod p = n % p := by
  have hb := tmod_bounds n h
  rw [tmod_nn (by omega), Int.add_emod_right]
  by_cases hn : 0 ≤ n
  · rw [tmod_nn hn, Int.emod_emod_of_dvd _ (Int.dvd_refl p)]
  · have e : n.tmod p = n - p * (n.tdiv p) := by have := Int.mul_tdiv_add_tmod n p; omega
    rw [e, Int.sub_mul_emod_self_left]

/-- The first place of which f holds, or -1. -/
def fidx {α : Type} (f : α → Bool) : List α → Int
  | [] => -1
  | x :: r => if f x = true then 0 else (if fidx f r < 0 then -1 else fidx f r + 1)
theorem fidx_nn {α : Type} (f : α → Bool) : ∀ l : List α, fidx f l = -1 ∨ 0 ≤ fidx f l
  | [] => .inl rfl
  | x :: r => by
    simp only [fidx]
    split
    · right; omega
    · split
      · left; rfl
      · right; omega
theorem fidx_at {α : Type} {f : α → Bool} : ∀ {l : List α} {k : Nat} {x : α}, l[k]? = some x → f x = true → (l.take k).all (fun y => !f y) = true → fidx f l = k
  | [], _, _, h, _, _ => by simp at h
  | y :: r, 0, x, h, hx, _ => by
    simp at h; subst h; simp [fidx, hx]
  | y :: r, k + 1, x, h, hx, ha => by
    simp only [List.take_succ_cons, List.all_cons, Bool.and_eq_true, Bool.not_eq_true'] at ha
    have ih := fidx_at (l := r) (k := k) (by simpa using h) hx ha.2
    simp only [fidx, ha.1, ih]
    simp
    omega
theorem fidx_no {α : Type} {f : α → Bool} : ∀ {l : List α}, l.all (fun y => !f y) = true → fidx f l = -1
  | [], _ => rfl
  | y :: r, h => by
    simp only [List.all_cons, Bool.and_eq_true, Bool.not_eq_true'] at h
    simp [fidx, h.1, fidx_no h.2]
theorem fidx_any {α : Type} (f : α → Bool) : ∀ l : List α, decide (0 ≤ fidx f l) = l.any f
  | [] => rfl
  | y :: r => by
    have ih := fidx_any f r
    have hn := fidx_nn f r
    simp only [fidx, List.any_cons]
    by_cases hy : f y = true
    · simp [hy]
    · simp only [hy, if_false, ← ih]
      by_cases h0 : fidx f r < 0
      · rw [if_pos h0]; simp; omega
      · rw [if_neg h0]; simp; omega

abbrev szM_ok (m : List (List Int)) : Prop := m.length ≤ 1048576 ∧ ∀ r ∈ m, r.length ≤ 1048576
abbrev szC_ok (c : List (List (List Int))) : Prop := c.length ≤ 1048576 ∧ ∀ m ∈ c, szM_ok m
/-- Not a table, by the implementation's test. -/
def noTab (p : Int) (m : List (List Int)) : Bool := !(decide (0 < m.length) && isTab p m)
def ckM (p : Int) (c : List (List (List Int))) : Int := if (isP p && c.all (isMat p)) = true then 0 else 1
theorem noTab_eq {p : Int} (h : isP p = true) (m : List (List Int)) : noTab p m = !isMat p m := by
  simp [noTab, isMat_tab, h]
def hasNo (p : Int) (c : List (List (List Int))) : Bool := c.any (noTab p)
theorem hasNo_eq (p : Int) (c : List (List (List Int))) : decide (0 ≤ fidx (noTab p) c) = hasNo p c := fidx_any _ _
theorem any_noTab {p : Int} (h : isP p = true) (c : List (List (List Int))) : hasNo p c = !c.all (isMat p) := by
  unfold hasNo
  induction c with
  | nil => rfl
  | cons m c ih => simp [ih, noTab_eq h]
end Go.Vam
