/- A call that takes an own list and gives it back; a list's tail, cleared. -/
import Derived.Test.YtalfgfpgenlokaaVamAA
import Derived.Lib.SliceRun
namespace Go.Vam
open Go Go.RowKit
set_option linter.unusedSimpArgs false

section
variable {P : Program} {N : Lim}

end

@[simp high] theorem len_gone {α : Type} (f : α → D) (xs : List α) (n : Nat) : (List.take n (xs.map f) ++ List.replicate (xs.length - n) D.gone).length = xs.length := by
 simp; omega
@[simp high] theorem take_gone {α : Type} (f : α → D) (xs : List α) (n : Nat) : List.take n (List.take n (xs.map f) ++ List.replicate (xs.length - n) D.gone) = List.take n (xs.map f) := by
 rcases Nat.lt_or_ge n xs.length with h | h
 ·rw [List.take_append_of_le_length (by simp; omega),List.take_take,Nat.min_self]
 ·have : xs.length - n = 0 := by omega
  rw [this,List.replicate_zero,List.append_nil,List.take_take,Nat.min_self]
end Go.Vam
