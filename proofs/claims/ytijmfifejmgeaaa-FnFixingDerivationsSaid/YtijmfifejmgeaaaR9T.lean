import Derived.Test.YtijmfifejmgeaaaVamAP
import Derived.Lib.AppendZerosOnto
import Derived.Lib.AppendZeros
import Derived.Lib.Walk
import Derived.Lib.SliceRun
import Derived.Test.YtijmfifejmgeaaaProg
namespace Go.Vam
open Go Go.RowKit Go.Proofs
set_option maxRecDepth 100000

def tau : TypeId → TK
  | 2 => .int .i64
  | 3 => .int .i64
  | 4 => .bool
  | 5 => .int .u8
  | 22 => .sl 23
  | 23 => .sl 2
  | 36 => .sl 5
  | 39 => .st [.int .i64 0, .list []]
  | 43 => .int .u64
  | 52 => .st [.int .i64 0, .list []]
  | 63 => .st [.int .i64 0, .list []]
  | 65 => .sl 22
  | 104 => .st [.list [], .int .i64 0, .int .u64 0]
  | 105 => .int .u64
  | 110 => .int .i64
  | 137 => .sl 4
  | 142 => .st [.list [], .int .i64 0, .int .u64 0]
  | 164 => .ss 63 2
  | 182 => .int .i64
  | 195 => .int .u64
  | _ => .other

theorem tau_ok : TyOk Try.prog tau := by
  intro t
  unfold tau
  split
  · exact ⟨⟨_, _, rfl, rfl, by decide, rfl, rfl, rfl⟩, rfl⟩
  · exact ⟨⟨_, _, rfl, rfl, by decide, rfl, rfl, rfl⟩, rfl⟩
  · exact ⟨⟨_, _, rfl, rfl, by decide, rfl, rfl, rfl⟩, rfl⟩
  · exact ⟨⟨_, _, rfl, rfl, by decide, rfl, rfl, rfl⟩, rfl⟩
  · exact ⟨⟨_, _, rfl, rfl, by decide, rfl, rfl, rfl⟩, rfl, _, rfl, rfl⟩
  · exact ⟨⟨_, _, rfl, rfl, by decide, rfl, rfl, rfl⟩, rfl, _, rfl, rfl⟩
  · exact ⟨⟨_, _, rfl, rfl, by decide, rfl, rfl, rfl⟩, rfl, _, rfl, rfl⟩
  · refine ⟨⟨_, _, rfl, rfl, by decide, rfl, rfl, rfl⟩, _, rfl, rfl, ?_⟩
    intro i f h
    match i, h with
    | 0, h => cases h; exact ⟨rfl, ⟨_, rfl, rfl⟩, _, rfl, rfl⟩
    | 1, h => cases h; exact ⟨rfl, ⟨_, rfl, rfl⟩, _, rfl, rfl⟩
    | n + 2, h => simp at h
  · exact ⟨⟨_, _, rfl, rfl, by decide, rfl, rfl, rfl⟩, rfl⟩
  · refine ⟨⟨_, _, rfl, rfl, by decide, rfl, rfl, rfl⟩, _, rfl, rfl, ?_⟩
    intro i f h
    match i, h with
    | 0, h => cases h; exact ⟨rfl, ⟨_, rfl, rfl⟩, _, rfl, rfl⟩
    | 1, h => cases h; exact ⟨rfl, ⟨_, rfl, rfl⟩, _, rfl, rfl⟩
    | n + 2, h => simp at h
  · refine ⟨⟨_, _, rfl, rfl, by decide, rfl, rfl, rfl⟩, _, rfl, rfl, ?_⟩
    intro i f h
    match i, h with
    | 0, h => cases h; exact ⟨rfl, ⟨_, rfl, rfl⟩, _, rfl, rfl⟩
    | 1, h => cases h; exact ⟨rfl, ⟨_, rfl, rfl⟩, _, rfl, rfl⟩
    | n + 2, h => simp at h
  · exact ⟨⟨_, _, rfl, rfl, by decide, rfl, rfl, rfl⟩, rfl, _, rfl, rfl⟩
  · refine ⟨⟨_, _, rfl, rfl, by decide, rfl, rfl, rfl⟩, _, rfl, rfl, ?_⟩
    intro i f h
    match i, h with
    | 0, h => cases h; exact ⟨rfl, ⟨_, rfl, rfl⟩, _, rfl, rfl⟩
    | 1, h => cases h; exact ⟨rfl, ⟨_, rfl, rfl⟩, _, rfl, rfl⟩
    | 2, h => cases h; exact ⟨rfl, ⟨_, rfl, rfl⟩, _, rfl, rfl⟩
    | n + 3, h => simp at h
  · exact ⟨⟨_, _, rfl, rfl, by decide, rfl, rfl, rfl⟩, rfl⟩
  · exact ⟨⟨_, _, rfl, rfl, by decide, rfl, rfl, rfl⟩, rfl⟩
  · exact ⟨⟨_, _, rfl, rfl, by decide, rfl, rfl, rfl⟩, rfl, _, rfl, rfl⟩
  · refine ⟨⟨_, _, rfl, rfl, by decide, rfl, rfl, rfl⟩, _, rfl, rfl, ?_⟩
    intro i f h
    match i, h with
    | 0, h => cases h; exact ⟨rfl, ⟨_, rfl, rfl⟩, _, rfl, rfl⟩
    | 1, h => cases h; exact ⟨rfl, ⟨_, rfl, rfl⟩, _, rfl, rfl⟩
    | 2, h => cases h; exact ⟨rfl, ⟨_, rfl, rfl⟩, _, rfl, rfl⟩
    | n + 3, h => simp at h
  · exact ⟨rfl, _, rfl, rfl⟩
  · exact ⟨⟨_, _, rfl, rfl, by decide, rfl, rfl, rfl⟩, rfl⟩
  · exact ⟨⟨_, _, rfl, rfl, by decide, rfl, rfl, rfl⟩, rfl⟩
  · exact trivial
@[simp] theorem tau_2 : tau 2 = .int .i64 := (rfl)
@[simp] theorem tau_3 : tau 3 = .int .i64 := (rfl)
@[simp] theorem tau_4 : tau 4 = .bool := (rfl)
@[simp] theorem tau_5 : tau 5 = .int .u8 := (rfl)
@[simp] theorem tau_22 : tau 22 = .sl 23 := (rfl)
@[simp] theorem tau_23 : tau 23 = .sl 2 := (rfl)
@[simp] theorem tau_36 : tau 36 = .sl 5 := (rfl)
@[simp] theorem tau_39 : tau 39 = .st [.int .i64 0, .list []] := (rfl)
@[simp] theorem tau_43 : tau 43 = .int .u64 := (rfl)
@[simp] theorem tau_52 : tau 52 = .st [.int .i64 0, .list []] := (rfl)
@[simp] theorem tau_63 : tau 63 = .st [.int .i64 0, .list []] := (rfl)
@[simp] theorem tau_65 : tau 65 = .sl 22 := (rfl)
@[simp] theorem tau_104 : tau 104 = .st [.list [], .int .i64 0, .int .u64 0] := (rfl)
@[simp] theorem tau_105 : tau 105 = .int .u64 := (rfl)
@[simp] theorem tau_110 : tau 110 = .int .i64 := (rfl)
@[simp] theorem tau_137 : tau 137 = .sl 4 := (rfl)
@[simp] theorem tau_142 : tau 142 = .st [.list [], .int .i64 0, .int .u64 0] := (rfl)
@[simp] theorem tau_164 : tau 164 = .ss 63 2 := (rfl)
@[simp] theorem tau_182 : tau 182 = .int .i64 := (rfl)
@[simp] theorem tau_195 : tau 195 = .int .u64 := (rfl)
theorem try_mixed : Try.prog.follows .mixedOrders = true := by rfl
end Go.Vam
