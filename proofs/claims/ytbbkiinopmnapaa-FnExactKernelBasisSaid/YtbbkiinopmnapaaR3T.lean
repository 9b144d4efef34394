import Derived.Test.YtbbkiinopmnapaaVamV
import Derived.Test.YtbbkiinopmnapaaProg
namespace Go.Vam
open Go Go.RowKit Go.Proofs
set_option maxRecDepth 100000

def tau : TypeId → TK
  | 2 => .int .i64
  | 3 => .int .i64
  | 4 => .bool
  | 5 => .int .u8
  | 22 => .sl 24
  | 24 => .sl 2
  | 33 => .st [.int .i64 0, .list []]
  | 37 => .st [.int .i64 0, .list []]
  | 41 => .sl 5
  | 52 => .int .u64
  | 75 => .st [.int .i64 0, .list []]
  | 78 => .st [.int .i64 0, .list []]
  | 88 => .int .i64
  | 106 => .st [.list [], .int .i64 0, .int .u64 0]
  | 107 => .int .u64
  | 143 => .sl 22
  | 148 => .sl 4
  | 181 => .st [.list [], .int .i64 0, .int .u64 0]
  | 194 => .int .i64
  | 205 => .int .u64
  | _ => .other

theorem tau_ok : TyOk Try.prog tau := by
  intro t
  unfold tau
  split
  · exact ⟨⟨_, _, rfl, rfl, by decide, rfl, rfl, rfl⟩, rfl⟩
  · exact ⟨⟨_, _, rfl, rfl, by decide, rfl, rfl, rfl⟩, rfl⟩
  · exact ⟨⟨_, _, rfl, rfl, by decide, rfl, rfl, rfl⟩, rfl⟩
  · exact ⟨⟨_, _, rfl, rfl, by decide, rfl, rfl, rfl⟩, rfl⟩
  · exact ⟨⟨_, _, rfl, rfl, by decide, rfl, rfl, rfl⟩, rfl, _, rfl, rfl⟩
  · exact ⟨⟨_, _, rfl, rfl, by decide, rfl, rfl, rfl⟩, rfl, _, rfl, rfl⟩
  · refine ⟨⟨_, _, rfl, rfl, by decide, rfl, rfl, rfl⟩, _, rfl, rfl, ?_⟩
    intro i f h
    match i, h with
    | 0, h => cases h; exact ⟨rfl, ⟨_, rfl, rfl⟩, _, rfl, rfl⟩
    | 1, h => cases h; exact ⟨rfl, ⟨_, rfl, rfl⟩, _, rfl, rfl⟩
    | n + 2, h => simp at h
  · refine ⟨⟨_, _, rfl, rfl, by decide, rfl, rfl, rfl⟩, _, rfl, rfl, ?_⟩
    intro i f h
    match i, h with
    | 0, h => cases h; exact ⟨rfl, ⟨_, rfl, rfl⟩, _, rfl, rfl⟩
    | 1, h => cases h; exact ⟨rfl, ⟨_, rfl, rfl⟩, _, rfl, rfl⟩
    | n + 2, h => simp at h
  · exact ⟨⟨_, _, rfl, rfl, by decide, rfl, rfl, rfl⟩, rfl, _, rfl, rfl⟩
  · exact ⟨⟨_, _, rfl, rfl, by decide, rfl, rfl, rfl⟩, rfl⟩
  · refine ⟨⟨_, _, rfl, rfl, by decide, rfl, rfl, rfl⟩, _, rfl, rfl, ?_⟩
    intro i f h
    match i, h with
    | 0, h => cases h; exact ⟨rfl, ⟨_, rfl, rfl⟩, _, rfl, rfl⟩
    | 1, h => cases h; exact ⟨rfl, ⟨_, rfl, rfl⟩, _, rfl, rfl⟩
    | n + 2, h => simp at h
  · refine ⟨⟨_, _, rfl, rfl, by decide, rfl, rfl, rfl⟩, _, rfl, rfl, ?_⟩
    intro i f h
    match i, h with
    | 0, h => cases h; exact ⟨rfl, ⟨_, rfl, rfl⟩, _, rfl, rfl⟩
    | 1, h => cases h; exact ⟨rfl, ⟨_, rfl, rfl⟩, _, rfl, rfl⟩
    | n + 2, h => simp at h
  · exact ⟨⟨_, _, rfl, rfl, by decide, rfl, rfl, rfl⟩, rfl⟩
  · refine ⟨⟨_, _, rfl, rfl, by decide, rfl, rfl, rfl⟩, _, rfl, rfl, ?_⟩
    intro i f h
    match i, h with
    | 0, h => cases h; exact ⟨rfl, ⟨_, rfl, rfl⟩, _, rfl, rfl⟩
    | 1, h => cases h; exact ⟨rfl, ⟨_, rfl, rfl⟩, _, rfl, rfl⟩
    | 2, h => cases h; exact ⟨rfl, ⟨_, rfl, rfl⟩, _, rfl, rfl⟩
    | n + 3, h => simp at h
  · exact ⟨⟨_, _, rfl, rfl, by decide, rfl, rfl, rfl⟩, rfl⟩
  · exact ⟨⟨_, _, rfl, rfl, by decide, rfl, rfl, rfl⟩, rfl, _, rfl, rfl⟩
  · exact ⟨⟨_, _, rfl, rfl, by decide, rfl, rfl, rfl⟩, rfl, _, rfl, rfl⟩
  · refine ⟨⟨_, _, rfl, rfl, by decide, rfl, rfl, rfl⟩, _, rfl, rfl, ?_⟩
    intro i f h
    match i, h with
    | 0, h => cases h; exact ⟨rfl, ⟨_, rfl, rfl⟩, _, rfl, rfl⟩
    | 1, h => cases h; exact ⟨rfl, ⟨_, rfl, rfl⟩, _, rfl, rfl⟩
    | 2, h => cases h; exact ⟨rfl, ⟨_, rfl, rfl⟩, _, rfl, rfl⟩
    | n + 3, h => simp at h
  · exact ⟨⟨_, _, rfl, rfl, by decide, rfl, rfl, rfl⟩, rfl⟩
  · exact ⟨⟨_, _, rfl, rfl, by decide, rfl, rfl, rfl⟩, rfl⟩
  · exact trivial
@[simp] theorem tau_2 : tau 2 = .int .i64 := (rfl)
@[simp] theorem tau_3 : tau 3 = .int .i64 := (rfl)
@[simp] theorem tau_4 : tau 4 = .bool := (rfl)
@[simp] theorem tau_5 : tau 5 = .int .u8 := (rfl)
@[simp] theorem tau_22 : tau 22 = .sl 24 := (rfl)
@[simp] theorem tau_24 : tau 24 = .sl 2 := (rfl)
@[simp] theorem tau_33 : tau 33 = .st [.int .i64 0, .list []] := (rfl)
@[simp] theorem tau_37 : tau 37 = .st [.int .i64 0, .list []] := (rfl)
@[simp] theorem tau_41 : tau 41 = .sl 5 := (rfl)
@[simp] theorem tau_52 : tau 52 = .int .u64 := (rfl)
@[simp] theorem tau_75 : tau 75 = .st [.int .i64 0, .list []] := (rfl)
@[simp] theorem tau_78 : tau 78 = .st [.int .i64 0, .list []] := (rfl)
@[simp] theorem tau_88 : tau 88 = .int .i64 := (rfl)
@[simp] theorem tau_106 : tau 106 = .st [.list [], .int .i64 0, .int .u64 0] := (rfl)
@[simp] theorem tau_107 : tau 107 = .int .u64 := (rfl)
@[simp] theorem tau_143 : tau 143 = .sl 22 := (rfl)
@[simp] theorem tau_148 : tau 148 = .sl 4 := (rfl)
@[simp] theorem tau_181 : tau 181 = .st [.list [], .int .i64 0, .int .u64 0] := (rfl)
@[simp] theorem tau_194 : tau 194 = .int .i64 := (rfl)
@[simp] theorem tau_205 : tau 205 = .int .u64 := (rfl)
theorem try_mixed : Try.prog.follows .mixedOrders = true := by rfl
end Go.Vam
