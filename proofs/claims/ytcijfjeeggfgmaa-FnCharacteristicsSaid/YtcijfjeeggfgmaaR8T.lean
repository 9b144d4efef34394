import Derived.Test.YtcijfjeeggfgmaaVamAM
import Derived.Lib.AppendZerosOnto
import Derived.Lib.AppendZeros
import Derived.Lib.Walk
import Derived.Lib.SliceRun
import Derived.Test.YtcijfjeeggfgmaaProg
namespace Go.Vam
open Go Go.RowKit Go.Proofs
set_option maxRecDepth 100000

def tau : TypeId → TK
  | 2 => .int .i64
  | 3 => .int .i64
  | 4 => .bool
  | 5 => .int .u8
  | 22 => .sl 2
  | 24 => .st [.int .i64 0, .list []]
  | 25 => .sl 22
  | 30 => .st [.int .i64 0, .list []]
  | 38 => .st [.int .i64 0, .list []]
  | 41 => .st [.int .i64 0, .list []]
  | 46 => .sl 5
  | 58 => .int .u64
  | 82 => .sl 25
  | 106 => .st [.list [], .int .i64 0, .int .u64 0]
  | 107 => .int .u64
  | 127 => .int .i64
  | 150 => .fn
  | 154 => .st [.list [], .int .i64 0, .int .u64 0]
  | 157 => .sl 4
  | 187 => .int .i64
  | 204 => .int .u64
  | _ => .other

theorem tau_ok : TyOk Try.prog tau := by
  intro t
  unfold tau
  split
  · exact ⟨⟨_, _, rfl, rfl, by decide, rfl, rfl, rfl⟩, rfl⟩
  · exact ⟨⟨_, _, rfl, rfl, by decide, rfl, rfl, rfl⟩, rfl⟩
  · exact ⟨⟨_, _, rfl, rfl, by decide, rfl, rfl, rfl⟩, rfl⟩
  · exact ⟨⟨_, _, rfl, rfl, by decide, rfl, rfl, rfl⟩, rfl⟩
  · exact ⟨⟨_, _, rfl, rfl, by decide, rfl, rfl, rfl⟩, rfl, _, rfl, rfl⟩
  · refine ⟨⟨_, _, rfl, rfl, by decide, rfl, rfl, rfl⟩, _, rfl, rfl, ?_⟩
    intro i f h
    match i, h with
    | 0, h => cases h; exact ⟨rfl, ⟨_, rfl, rfl⟩, _, rfl, rfl⟩
    | 1, h => cases h; exact ⟨rfl, ⟨_, rfl, rfl⟩, _, rfl, rfl⟩
    | n + 2, h => simp at h
  · exact ⟨⟨_, _, rfl, rfl, by decide, rfl, rfl, rfl⟩, rfl, _, rfl, rfl⟩
  · refine ⟨⟨_, _, rfl, rfl, by decide, rfl, rfl, rfl⟩, _, rfl, rfl, ?_⟩
    intro i f h
    match i, h with
    | 0, h => cases h; exact ⟨rfl, ⟨_, rfl, rfl⟩, _, rfl, rfl⟩
    | 1, h => cases h; exact ⟨rfl, ⟨_, rfl, rfl⟩, _, rfl, rfl⟩
    | n + 2, h => simp at h
  · refine ⟨⟨_, _, rfl, rfl, by decide, rfl, rfl, rfl⟩, _, rfl, rfl, ?_⟩
    intro i f h
    match i, h with
    | 0, h => cases h; exact ⟨rfl, ⟨_, rfl, rfl⟩, _, rfl, rfl⟩
    | 1, h => cases h; exact ⟨rfl, ⟨_, rfl, rfl⟩, _, rfl, rfl⟩
    | n + 2, h => simp at h
  · refine ⟨⟨_, _, rfl, rfl, by decide, rfl, rfl, rfl⟩, _, rfl, rfl, ?_⟩
    intro i f h
    match i, h with
    | 0, h => cases h; exact ⟨rfl, ⟨_, rfl, rfl⟩, _, rfl, rfl⟩
    | 1, h => cases h; exact ⟨rfl, ⟨_, rfl, rfl⟩, _, rfl, rfl⟩
    | n + 2, h => simp at h
  · exact ⟨⟨_, _, rfl, rfl, by decide, rfl, rfl, rfl⟩, rfl, _, rfl, rfl⟩
  · exact ⟨⟨_, _, rfl, rfl, by decide, rfl, rfl, rfl⟩, rfl⟩
  · exact ⟨⟨_, _, rfl, rfl, by decide, rfl, rfl, rfl⟩, rfl, _, rfl, rfl⟩
  · refine ⟨⟨_, _, rfl, rfl, by decide, rfl, rfl, rfl⟩, _, rfl, rfl, ?_⟩
    intro i f h
    match i, h with
    | 0, h => cases h; exact ⟨rfl, ⟨_, rfl, rfl⟩, _, rfl, rfl⟩
    | 1, h => cases h; exact ⟨rfl, ⟨_, rfl, rfl⟩, _, rfl, rfl⟩
    | 2, h => cases h; exact ⟨rfl, ⟨_, rfl, rfl⟩, _, rfl, rfl⟩
    | n + 3, h => simp at h
  · exact ⟨⟨_, _, rfl, rfl, by decide, rfl, rfl, rfl⟩, rfl⟩
  · exact ⟨⟨_, _, rfl, rfl, by decide, rfl, rfl, rfl⟩, rfl⟩
  · exact ⟨⟨_, _, rfl, rfl, rfl, rfl⟩, _, rfl, rfl⟩
  · refine ⟨⟨_, _, rfl, rfl, by decide, rfl, rfl, rfl⟩, _, rfl, rfl, ?_⟩
    intro i f h
    match i, h with
    | 0, h => cases h; exact ⟨rfl, ⟨_, rfl, rfl⟩, _, rfl, rfl⟩
    | 1, h => cases h; exact ⟨rfl, ⟨_, rfl, rfl⟩, _, rfl, rfl⟩
    | 2, h => cases h; exact ⟨rfl, ⟨_, rfl, rfl⟩, _, rfl, rfl⟩
    | n + 3, h => simp at h
  · exact ⟨⟨_, _, rfl, rfl, by decide, rfl, rfl, rfl⟩, rfl, _, rfl, rfl⟩
  · exact ⟨⟨_, _, rfl, rfl, by decide, rfl, rfl, rfl⟩, rfl⟩
  · exact ⟨⟨_, _, rfl, rfl, by decide, rfl, rfl, rfl⟩, rfl⟩
  · exact trivial
@[simp] theorem tau_2 : tau 2 = .int .i64 := (rfl)
@[simp] theorem tau_3 : tau 3 = .int .i64 := (rfl)
@[simp] theorem tau_4 : tau 4 = .bool := (rfl)
@[simp] theorem tau_5 : tau 5 = .int .u8 := (rfl)
@[simp] theorem tau_22 : tau 22 = .sl 2 := (rfl)
@[simp] theorem tau_24 : tau 24 = .st [.int .i64 0, .list []] := (rfl)
@[simp] theorem tau_25 : tau 25 = .sl 22 := (rfl)
@[simp] theorem tau_30 : tau 30 = .st [.int .i64 0, .list []] := (rfl)
@[simp] theorem tau_38 : tau 38 = .st [.int .i64 0, .list []] := (rfl)
@[simp] theorem tau_41 : tau 41 = .st [.int .i64 0, .list []] := (rfl)
@[simp] theorem tau_46 : tau 46 = .sl 5 := (rfl)
@[simp] theorem tau_58 : tau 58 = .int .u64 := (rfl)
@[simp] theorem tau_82 : tau 82 = .sl 25 := (rfl)
@[simp] theorem tau_106 : tau 106 = .st [.list [], .int .i64 0, .int .u64 0] := (rfl)
@[simp] theorem tau_107 : tau 107 = .int .u64 := (rfl)
@[simp] theorem tau_127 : tau 127 = .int .i64 := (rfl)
@[simp] theorem tau_150 : tau 150 = .fn := (rfl)
@[simp] theorem tau_154 : tau 154 = .st [.list [], .int .i64 0, .int .u64 0] := (rfl)
@[simp] theorem tau_157 : tau 157 = .sl 4 := (rfl)
@[simp] theorem tau_187 : tau 187 = .int .i64 := (rfl)
@[simp] theorem tau_204 : tau 204 = .int .u64 := (rfl)
theorem try_mixed : Try.prog.follows .mixedOrders = true := by rfl
end Go.Vam
