import Derived.Test.YtbhhlikpflpeaaaVamT
import Derived.Test.YtbhhlikpflpeaaaProg
namespace Go.Vam
open Go Go.RowKit Go.Proofs
set_option maxRecDepth 100000

def tau : TypeId → TK
  | 2 => .int .i64
  | 3 => .int .i64
  | 4 => .bool
  | 22 => .sl 31
  | 31 => .sl 2
  | 43 => .int .i64
  | 58 => .sl 22
  | _ => .other

theorem tau_ok : TyOk Try.prog tau := by
  intro t
  unfold tau
  split
  · exact ⟨⟨_, _, rfl, rfl, by decide, rfl, rfl, rfl⟩, rfl⟩
  · exact ⟨⟨_, _, rfl, rfl, by decide, rfl, rfl, rfl⟩, rfl⟩
  · exact ⟨⟨_, _, rfl, rfl, by decide, rfl, rfl, rfl⟩, rfl⟩
  · exact ⟨⟨_, _, rfl, rfl, by decide, rfl, rfl, rfl⟩, rfl, _, rfl, rfl⟩
  · exact ⟨⟨_, _, rfl, rfl, by decide, rfl, rfl, rfl⟩, rfl, _, rfl, rfl⟩
  · exact ⟨⟨_, _, rfl, rfl, by decide, rfl, rfl, rfl⟩, rfl⟩
  · exact ⟨⟨_, _, rfl, rfl, by decide, rfl, rfl, rfl⟩, rfl, _, rfl, rfl⟩
  · exact trivial
@[simp] theorem tau_2 : tau 2 = .int .i64 := (rfl)
@[simp] theorem tau_3 : tau 3 = .int .i64 := (rfl)
@[simp] theorem tau_4 : tau 4 = .bool := (rfl)
@[simp] theorem tau_22 : tau 22 = .sl 31 := (rfl)
@[simp] theorem tau_31 : tau 31 = .sl 2 := (rfl)
@[simp] theorem tau_43 : tau 43 = .int .i64 := (rfl)
@[simp] theorem tau_58 : tau 58 = .sl 22 := (rfl)
theorem try_mixed : Try.prog.follows .mixedOrders = true := by rfl
end Go.Vam
