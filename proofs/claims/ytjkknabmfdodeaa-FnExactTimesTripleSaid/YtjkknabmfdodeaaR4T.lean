import Derived.Test.YtjkknabmfdodeaaVamAA
import Derived.Lib.AppendZerosOnto
import Derived.Lib.AppendZeros
import Derived.Lib.Walk
import Derived.Lib.SliceRun
import Derived.Test.YtjkknabmfdodeaaProg
namespace Go.Vam
open Go Go.RowKit Go.Proofs
set_option maxRecDepth 100000

def tau : TypeId → TK
  | 2 => .int .i64
  | 3 => .int .i64
  | 4 => .bool
  | 5 => .int .u8
  | 22 => .sl 2
  | 24 => .st [.int .i64 0, .list []]
  | 25 => .sl 22
  | 30 => .st [.int .i64 0, .list []]
  | 37 => .st [.list [], .list [], .list []]
  | 39 => .st [.list [], .list [], .list []]
  | 53 => .sl 5
  | 61 => .int .u64
  | 94 => .int .i64
  | 116 => .st [.list [], .int .i64 0, .int .u64 0]
  | 118 => .int .u64
  | 149 => .sl 25
  | 156 => .ss 39 3
  | 162 => .st [.list [], .int .i64 0, .int .u64 0]
  | _ => .other

theorem tau_ok : TyOk Try.prog tau := by
  intro t
  unfold tau
  split
  · exact ⟨⟨_, _, rfl, rfl, by decide, rfl, rfl, rfl⟩, rfl⟩
  · exact ⟨⟨_, _, rfl, rfl, by decide, rfl, rfl, rfl⟩, rfl⟩
  · exact ⟨⟨_, _, rfl, rfl, by decide, rfl, rfl, rfl⟩, rfl⟩
  · exact ⟨⟨_, _, rfl, rfl, by decide, rfl, rfl, rfl⟩, rfl⟩
  · exact ⟨⟨_, _, rfl, rfl, by decide, rfl, rfl, rfl⟩, rfl, _, rfl, rfl⟩
  · refine ⟨⟨_, _, rfl, rfl, by decide, rfl, rfl, rfl⟩, _, rfl, rfl, ?_⟩
    intro i f h
    match i, h with
    | 0, h => cases h; exact ⟨rfl, ⟨_, rfl, rfl⟩, _, rfl, rfl⟩
    | 1, h => cases h; exact ⟨rfl, ⟨_, rfl, rfl⟩, _, rfl, rfl⟩
    | n + 2, h => simp at h
  · exact ⟨⟨_, _, rfl, rfl, by decide, rfl, rfl, rfl⟩, rfl, _, rfl, rfl⟩
  · refine ⟨⟨_, _, rfl, rfl, by decide, rfl, rfl, rfl⟩, _, rfl, rfl, ?_⟩
    intro i f h
    match i, h with
    | 0, h => cases h; exact ⟨rfl, ⟨_, rfl, rfl⟩, _, rfl, rfl⟩
    | 1, h => cases h; exact ⟨rfl, ⟨_, rfl, rfl⟩, _, rfl, rfl⟩
    | n + 2, h => simp at h
  · refine ⟨⟨_, _, rfl, rfl, by decide, rfl, rfl, rfl⟩, _, rfl, rfl, ?_⟩
    intro i f h
    match i, h with
    | 0, h => cases h; exact ⟨rfl, ⟨_, rfl, rfl⟩, _, rfl, rfl⟩
    | 1, h => cases h; exact ⟨rfl, ⟨_, rfl, rfl⟩, _, rfl, rfl⟩
    | 2, h => cases h; exact ⟨rfl, ⟨_, rfl, rfl⟩, _, rfl, rfl⟩
    | n + 3, h => simp at h
  · refine ⟨⟨_, _, rfl, rfl, by decide, rfl, rfl, rfl⟩, _, rfl, rfl, ?_⟩
    intro i f h
    match i, h with
    | 0, h => cases h; exact ⟨rfl, ⟨_, rfl, rfl⟩, _, rfl, rfl⟩
    | 1, h => cases h; exact ⟨rfl, ⟨_, rfl, rfl⟩, _, rfl, rfl⟩
    | 2, h => cases h; exact ⟨rfl, ⟨_, rfl, rfl⟩, _, rfl, rfl⟩
    | n + 3, h => simp at h
  · exact ⟨⟨_, _, rfl, rfl, by decide, rfl, rfl, rfl⟩, rfl, _, rfl, rfl⟩
  · exact ⟨⟨_, _, rfl, rfl, by decide, rfl, rfl, rfl⟩, rfl⟩
  · exact ⟨⟨_, _, rfl, rfl, by decide, rfl, rfl, rfl⟩, rfl⟩
  · refine ⟨⟨_, _, rfl, rfl, by decide, rfl, rfl, rfl⟩, _, rfl, rfl, ?_⟩
    intro i f h
    match i, h with
    | 0, h => cases h; exact ⟨rfl, ⟨_, rfl, rfl⟩, _, rfl, rfl⟩
    | 1, h => cases h; exact ⟨rfl, ⟨_, rfl, rfl⟩, _, rfl, rfl⟩
    | 2, h => cases h; exact ⟨rfl, ⟨_, rfl, rfl⟩, _, rfl, rfl⟩
    | n + 3, h => simp at h
  · exact ⟨⟨_, _, rfl, rfl, by decide, rfl, rfl, rfl⟩, rfl⟩
  · exact ⟨⟨_, _, rfl, rfl, by decide, rfl, rfl, rfl⟩, rfl, _, rfl, rfl⟩
  · exact ⟨rfl, _, rfl, rfl⟩
  · refine ⟨⟨_, _, rfl, rfl, by decide, rfl, rfl, rfl⟩, _, rfl, rfl, ?_⟩
    intro i f h
    match i, h with
    | 0, h => cases h; exact ⟨rfl, ⟨_, rfl, rfl⟩, _, rfl, rfl⟩
    | 1, h => cases h; exact ⟨rfl, ⟨_, rfl, rfl⟩, _, rfl, rfl⟩
    | 2, h => cases h; exact ⟨rfl, ⟨_, rfl, rfl⟩, _, rfl, rfl⟩
    | n + 3, h => simp at h
  · exact trivial
@[simp] theorem tau_2 : tau 2 = .int .i64 := (rfl)
@[simp] theorem tau_3 : tau 3 = .int .i64 := (rfl)
@[simp] theorem tau_4 : tau 4 = .bool := (rfl)
@[simp] theorem tau_5 : tau 5 = .int .u8 := (rfl)
@[simp] theorem tau_22 : tau 22 = .sl 2 := (rfl)
@[simp] theorem tau_24 : tau 24 = .st [.int .i64 0, .list []] := (rfl)
@[simp] theorem tau_25 : tau 25 = .sl 22 := (rfl)
@[simp] theorem tau_30 : tau 30 = .st [.int .i64 0, .list []] := (rfl)
@[simp] theorem tau_37 : tau 37 = .st [.list [], .list [], .list []] := (rfl)
@[simp] theorem tau_39 : tau 39 = .st [.list [], .list [], .list []] := (rfl)
@[simp] theorem tau_53 : tau 53 = .sl 5 := (rfl)
@[simp] theorem tau_61 : tau 61 = .int .u64 := (rfl)
@[simp] theorem tau_94 : tau 94 = .int .i64 := (rfl)
@[simp] theorem tau_116 : tau 116 = .st [.list [], .int .i64 0, .int .u64 0] := (rfl)
@[simp] theorem tau_118 : tau 118 = .int .u64 := (rfl)
@[simp] theorem tau_149 : tau 149 = .sl 25 := (rfl)
@[simp] theorem tau_156 : tau 156 = .ss 39 3 := (rfl)
@[simp] theorem tau_162 : tau 162 = .st [.list [], .int .i64 0, .int .u64 0] := (rfl)
theorem try_mixed : Try.prog.follows .mixedOrders = true := by rfl
end Go.Vam
