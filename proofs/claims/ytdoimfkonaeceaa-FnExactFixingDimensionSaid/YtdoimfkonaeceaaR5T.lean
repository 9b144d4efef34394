import Derived.Test.YtdoimfkonaeceaaVamV
import Derived.Test.YtdoimfkonaeceaaProg
namespace Go.Vam
open Go Go.RowKit Go.Proofs
set_option maxRecDepth 100000

def tau : TypeId → TK
  | 2 => .int .i64
  | 3 => .int .i64
  | 4 => .bool
  | 5 => .int .u8
  | 22 => .sl 2
  | 24 => .st [.int .i64 0, .list []]
  | 25 => .sl 22
  | 30 => .st [.int .i64 0, .list []]
  | 37 => .st [.int .i64 0, .list []]
  | 41 => .st [.int .i64 0, .list []]
  | 50 => .sl 5
  | 61 => .int .u64
  | 74 => .sl 25
  | 105 => .int .i64
  | 136 => .st [.list [], .int .i64 0, .int .u64 0]
  | 137 => .int .u64
  | 178 => .st [.list [], .int .i64 0, .int .u64 0]
  | 196 => .sl 4
  | 222 => .int .i64
  | 232 => .int .u64
  | _ => .other

theorem tau_ok : TyOk Try.prog tau := by
  intro t
  unfold tau
  split
  · exact ⟨⟨_, _, rfl, rfl, by decide, rfl, rfl, rfl⟩, rfl⟩
  · exact ⟨⟨_, _, rfl, rfl, by decide, rfl, rfl, rfl⟩, rfl⟩
  · exact ⟨⟨_, _, rfl, rfl, by decide, rfl, rfl, rfl⟩, rfl⟩
  · exact ⟨⟨_, _, rfl, rfl, by decide, rfl, rfl, rfl⟩, rfl⟩
  · exact ⟨⟨_, _, rfl, rfl, by decide, rfl, rfl, rfl⟩, rfl, _, rfl, rfl⟩
  · refine ⟨⟨_, _, rfl, rfl, by decide, rfl, rfl, rfl⟩, _, rfl, rfl, ?_⟩
    intro i f h
    match i, h with
    | 0, h => cases h; exact ⟨rfl, ⟨_, rfl, rfl⟩, _, rfl, rfl⟩
    | 1, h => cases h; exact ⟨rfl, ⟨_, rfl, rfl⟩, _, rfl, rfl⟩
    | n + 2, h => simp at h
  · exact ⟨⟨_, _, rfl, rfl, by decide, rfl, rfl, rfl⟩, rfl, _, rfl, rfl⟩
  · refine ⟨⟨_, _, rfl, rfl, by decide, rfl, rfl, rfl⟩, _, rfl, rfl, ?_⟩
    intro i f h
    match i, h with
    | 0, h => cases h; exact ⟨rfl, ⟨_, rfl, rfl⟩, _, rfl, rfl⟩
    | 1, h => cases h; exact ⟨rfl, ⟨_, rfl, rfl⟩, _, rfl, rfl⟩
    | n + 2, h => simp at h
  · refine ⟨⟨_, _, rfl, rfl, by decide, rfl, rfl, rfl⟩, _, rfl, rfl, ?_⟩
    intro i f h
    match i, h with
    | 0, h => cases h; exact ⟨rfl, ⟨_, rfl, rfl⟩, _, rfl, rfl⟩
    | 1, h => cases h; exact ⟨rfl, ⟨_, rfl, rfl⟩, _, rfl, rfl⟩
    | n + 2, h => simp at h
  · refine ⟨⟨_, _, rfl, rfl, by decide, rfl, rfl, rfl⟩, _, rfl, rfl, ?_⟩
    intro i f h
    match i, h with
    | 0, h => cases h; exact ⟨rfl, ⟨_, rfl, rfl⟩, _, rfl, rfl⟩
    | 1, h => cases h; exact ⟨rfl, ⟨_, rfl, rfl⟩, _, rfl, rfl⟩
    | n + 2, h => simp at h
  · exact ⟨⟨_, _, rfl, rfl, by decide, rfl, rfl, rfl⟩, rfl, _, rfl, rfl⟩
  · exact ⟨⟨_, _, rfl, rfl, by decide, rfl, rfl, rfl⟩, rfl⟩
  · exact ⟨⟨_, _, rfl, rfl, by decide, rfl, rfl, rfl⟩, rfl, _, rfl, rfl⟩
  · exact ⟨⟨_, _, rfl, rfl, by decide, rfl, rfl, rfl⟩, rfl⟩
  · refine ⟨⟨_, _, rfl, rfl, by decide, rfl, rfl, rfl⟩, _, rfl, rfl, ?_⟩
    intro i f h
    match i, h with
    | 0, h => cases h; exact ⟨rfl, ⟨_, rfl, rfl⟩, _, rfl, rfl⟩
    | 1, h => cases h; exact ⟨rfl, ⟨_, rfl, rfl⟩, _, rfl, rfl⟩
    | 2, h => cases h; exact ⟨rfl, ⟨_, rfl, rfl⟩, _, rfl, rfl⟩
    | n + 3, h => simp at h
  · exact ⟨⟨_, _, rfl, rfl, by decide, rfl, rfl, rfl⟩, rfl⟩
  · refine ⟨⟨_, _, rfl, rfl, by decide, rfl, rfl, rfl⟩, _, rfl, rfl, ?_⟩
    intro i f h
    match i, h with
    | 0, h => cases h; exact ⟨rfl, ⟨_, rfl, rfl⟩, _, rfl, rfl⟩
    | 1, h => cases h; exact ⟨rfl, ⟨_, rfl, rfl⟩, _, rfl, rfl⟩
    | 2, h => cases h; exact ⟨rfl, ⟨_, rfl, rfl⟩, _, rfl, rfl⟩
    | n + 3, h => simp at h
  · exact ⟨⟨_, _, rfl, rfl, by decide, rfl, rfl, rfl⟩, rfl, _, rfl, rfl⟩
  · exact ⟨⟨_, _, rfl, rfl, by decide, rfl, rfl, rfl⟩, rfl⟩
  · exact ⟨⟨_, _, rfl, rfl, by decide, rfl, rfl, rfl⟩, rfl⟩
  · exact trivial
@[simp] theorem tau_2 : tau 2 = .int .i64 := (rfl)
@[simp] theorem tau_3 : tau 3 = .int .i64 := (rfl)
@[simp] theorem tau_4 : tau 4 = .bool := (rfl)
@[simp] theorem tau_5 : tau 5 = .int .u8 := (rfl)
@[simp] theorem tau_22 : tau 22 = .sl 2 := (rfl)
@[simp] theorem tau_24 : tau 24 = .st [.int .i64 0, .list []] := (rfl)
@[simp] theorem tau_25 : tau 25 = .sl 22 := (rfl)
@[simp] theorem tau_30 : tau 30 = .st [.int .i64 0, .list []] := (rfl)
@[simp] theorem tau_37 : tau 37 = .st [.int .i64 0, .list []] := (rfl)
@[simp] theorem tau_41 : tau 41 = .st [.int .i64 0, .list []] := (rfl)
@[simp] theorem tau_50 : tau 50 = .sl 5 := (rfl)
@[simp] theorem tau_61 : tau 61 = .int .u64 := (rfl)
@[simp] theorem tau_74 : tau 74 = .sl 25 := (rfl)
@[simp] theorem tau_105 : tau 105 = .int .i64 := (rfl)
@[simp] theorem tau_136 : tau 136 = .st [.list [], .int .i64 0, .int .u64 0] := (rfl)
@[simp] theorem tau_137 : tau 137 = .int .u64 := (rfl)
@[simp] theorem tau_178 : tau 178 = .st [.list [], .int .i64 0, .int .u64 0] := (rfl)
@[simp] theorem tau_196 : tau 196 = .sl 4 := (rfl)
@[simp] theorem tau_222 : tau 222 = .int .i64 := (rfl)
@[simp] theorem tau_232 : tau 232 = .int .u64 := (rfl)
theorem try_mixed : Try.prog.follows .mixedOrders = true := by rfl
end Go.Vam
