import Derived.Test.YtalfgfpgenlokaaVamAU
import Derived.Lib.AppendZerosOnto
import Derived.Lib.AppendZeros
import Derived.Lib.Walk
import Derived.Lib.SliceRun
import Derived.Test.YtalfgfpgenlokaaProg
namespace Go.Vam
open Go Go.RowKit Go.Proofs
set_option maxRecDepth 100000

def tau : TypeId → TK
 | 2 => .int .i64
 | 3 => .int .i64
 | 4 => .bool
 | 5 => .int .u8
 | 22 => .sl 5
 | 24 => .sl 2
 | 26 => .st [.int .i64 0,.list []]
 | 28 => .sl 34
 | 34 => .sl 24
 | 39 => .int .u64
 | 55 => .int .i64
 | 59 => .st [.list [],.int .i64 0,.int .u64 0]
 | 62 => .int .u64
 | 64 => .st [.list [],.int .i64 0,.int .u64 0]
 | _ => .other

theorem tau_ok : TyOk Try.prog tau := by
 intro t
 unfold tau
 split
 ·exact ⟨⟨_,_,rfl,rfl,by decide,rfl,rfl,rfl⟩,rfl⟩
 ·exact ⟨⟨_,_,rfl,rfl,by decide,rfl,rfl,rfl⟩,rfl⟩
 ·exact ⟨⟨_,_,rfl,rfl,by decide,rfl,rfl,rfl⟩,rfl⟩
 ·exact ⟨⟨_,_,rfl,rfl,by decide,rfl,rfl,rfl⟩,rfl⟩
 ·exact ⟨⟨_,_,rfl,rfl,by decide,rfl,rfl,rfl⟩,rfl,_,rfl,rfl⟩
 ·exact ⟨⟨_,_,rfl,rfl,by decide,rfl,rfl,rfl⟩,rfl,_,rfl,rfl⟩
 ·refine ⟨⟨_,_,rfl,rfl,by decide,rfl,rfl,rfl⟩,_,rfl,rfl,?_⟩
  intro i f h
  match i,h with
  | 0,h => cases h; exact ⟨rfl,⟨_,rfl,rfl⟩,_,rfl,rfl⟩
  | 1,h => cases h; exact ⟨rfl,⟨_,rfl,rfl⟩,_,rfl,rfl⟩
  | n + 2,h => simp at h
 ·exact ⟨⟨_,_,rfl,rfl,by decide,rfl,rfl,rfl⟩,rfl,_,rfl,rfl⟩
 ·exact ⟨⟨_,_,rfl,rfl,by decide,rfl,rfl,rfl⟩,rfl,_,rfl,rfl⟩
 ·exact ⟨⟨_,_,rfl,rfl,by decide,rfl,rfl,rfl⟩,rfl⟩
 ·exact ⟨⟨_,_,rfl,rfl,by decide,rfl,rfl,rfl⟩,rfl⟩
 ·refine ⟨⟨_,_,rfl,rfl,by decide,rfl,rfl,rfl⟩,_,rfl,rfl,?_⟩
  intro i f h
  match i,h with
  | 0,h => cases h; exact ⟨rfl,⟨_,rfl,rfl⟩,_,rfl,rfl⟩
  | 1,h => cases h; exact ⟨rfl,⟨_,rfl,rfl⟩,_,rfl,rfl⟩
  | 2,h => cases h; exact ⟨rfl,⟨_,rfl,rfl⟩,_,rfl,rfl⟩
  | n + 3,h => simp at h
 ·exact ⟨⟨_,_,rfl,rfl,by decide,rfl,rfl,rfl⟩,rfl⟩
 ·refine ⟨⟨_,_,rfl,rfl,by decide,rfl,rfl,rfl⟩,_,rfl,rfl,?_⟩
  intro i f h
  match i,h with
  | 0,h => cases h; exact ⟨rfl,⟨_,rfl,rfl⟩,_,rfl,rfl⟩
  | 1,h => cases h; exact ⟨rfl,⟨_,rfl,rfl⟩,_,rfl,rfl⟩
  | 2,h => cases h; exact ⟨rfl,⟨_,rfl,rfl⟩,_,rfl,rfl⟩
  | n + 3,h => simp at h
 ·exact trivial
@[simp] theorem tau_2 : tau 2 = .int .i64 := (rfl)
@[simp] theorem tau_3 : tau 3 = .int .i64 := (rfl)
@[simp] theorem tau_4 : tau 4 = .bool := (rfl)
@[simp] theorem tau_5 : tau 5 = .int .u8 := (rfl)
@[simp] theorem tau_22 : tau 22 = .sl 5 := (rfl)
@[simp] theorem tau_24 : tau 24 = .sl 2 := (rfl)
@[simp] theorem tau_26 : tau 26 = .st [.int .i64 0,.list []] := (rfl)
@[simp] theorem tau_28 : tau 28 = .sl 34 := (rfl)
@[simp] theorem tau_34 : tau 34 = .sl 24 := (rfl)
@[simp] theorem tau_39 : tau 39 = .int .u64 := (rfl)
@[simp] theorem tau_55 : tau 55 = .int .i64 := (rfl)
@[simp] theorem tau_59 : tau 59 = .st [.list [],.int .i64 0,.int .u64 0] := (rfl)
@[simp] theorem tau_62 : tau 62 = .int .u64 := (rfl)
@[simp] theorem tau_64 : tau 64 = .st [.list [],.int .i64 0,.int .u64 0] := (rfl)
theorem try_mixed : Try.prog.follows .mixedOrders = true := by rfl
theorem zs {N : Lim} {fl : FL} {Q : Exit → Frm → Prop} (f : FL) {id : Nat} {l : List Oper} {y : Code} (h1 : AfterL (runL tau Orc.none N (l.map (·.dst)) l fl) fun g => pickL (f.map (·.1)) g = f) (h2 : VW Try.prog N y (mk f) Q) : VW Try.prog N (.seq (.region id l.toArray false) y) (mk fl) Q := VW.ws tau_ok Sound.none _ f rfl h1 h2
theorem zr {N : Lim} {fl : FL} {Q : Exit → Frm → Prop} (f : FL) {id : Nat} {l : List Oper} (h1 : AfterL (runL tau Orc.none N (l.map (·.dst)) l fl) fun g => pickL (f.map (·.1)) g = f) (h2 : Q .normal (mk f)) : VW Try.prog N (.region id l.toArray false) (mk fl) Q := VW.wr tau_ok Sound.none _ f rfl h1 h2
end Go.Vam
