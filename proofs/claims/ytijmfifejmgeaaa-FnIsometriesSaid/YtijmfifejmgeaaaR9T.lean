import Derived.Test.YtijmfifejmgeaaaVamAO
import Derived.Test.YtijmfifejmgeaaaVamAQ
import Derived.Test.YtijmfifejmgeaaaVamAS
import Derived.Lib.AppendZerosOnto
import Derived.Lib.AppendZeros
import Derived.Lib.Walk
import Derived.Lib.SliceRun
import Derived.Test.YtijmfifejmgeaaaProg
namespace Go.Vam
open Go Go.RowKit Go.Proofs
set_option maxRecDepth 100000

def tau : TypeId → TK
 | 2 => .int .i64
 | 3 => .int .i64
 | 4 => .bool
 | 5 => .int .u8
 | 22 => .sl 23
 | 23 => .sl 2
 | 36 => .sl 5
 | 39 => .st [.int .i64 0,.list []]
 | 43 => .int .u64
 | 52 => .st [.int .i64 0,.list []]
 | 63 => .st [.int .i64 0,.list []]
 | 65 => .sl 22
 | 104 => .st [.list [],.int .i64 0,.int .u64 0]
 | 105 => .int .u64
 | 110 => .int .i64
 | 137 => .sl 4
 | 142 => .st [.list [],.int .i64 0,.int .u64 0]
 | 164 => .ss 63 2
 | 166 => .ar [.int .i64 0,.int .i64 0]
 | 182 => .int .i64
 | 195 => .int .u64
 | _ => .other

theorem tau_ok : TyOk Try.prog tau := by
 intro t
 unfold tau
 split
 ·exact ⟨⟨_,_,rfl,rfl,by decide,rfl,rfl,rfl⟩,rfl⟩
 ·exact ⟨⟨_,_,rfl,rfl,by decide,rfl,rfl,rfl⟩,rfl⟩
 ·exact ⟨⟨_,_,rfl,rfl,by decide,rfl,rfl,rfl⟩,rfl⟩
 ·exact ⟨⟨_,_,rfl,rfl,by decide,rfl,rfl,rfl⟩,rfl⟩
 ·exact ⟨⟨_,_,rfl,rfl,by decide,rfl,rfl,rfl⟩,rfl,_,rfl,rfl⟩
 ·exact ⟨⟨_,_,rfl,rfl,by decide,rfl,rfl,rfl⟩,rfl,_,rfl,rfl⟩
 ·exact ⟨⟨_,_,rfl,rfl,by decide,rfl,rfl,rfl⟩,rfl,_,rfl,rfl⟩
 ·refine ⟨⟨_,_,rfl,rfl,by decide,rfl,rfl,rfl⟩,_,rfl,rfl,?_⟩
  intro i f h
  match i,h with
  | 0,h => cases h; exact ⟨rfl,⟨_,rfl,rfl⟩,_,rfl,rfl⟩
  | 1,h => cases h; exact ⟨rfl,⟨_,rfl,rfl⟩,_,rfl,rfl⟩
  | n + 2,h => simp at h
 ·exact ⟨⟨_,_,rfl,rfl,by decide,rfl,rfl,rfl⟩,rfl⟩
 ·refine ⟨⟨_,_,rfl,rfl,by decide,rfl,rfl,rfl⟩,_,rfl,rfl,?_⟩
  intro i f h
  match i,h with
  | 0,h => cases h; exact ⟨rfl,⟨_,rfl,rfl⟩,_,rfl,rfl⟩
  | 1,h => cases h; exact ⟨rfl,⟨_,rfl,rfl⟩,_,rfl,rfl⟩
  | n + 2,h => simp at h
 ·refine ⟨⟨_,_,rfl,rfl,by decide,rfl,rfl,rfl⟩,_,rfl,rfl,?_⟩
  intro i f h
  match i,h with
  | 0,h => cases h; exact ⟨rfl,⟨_,rfl,rfl⟩,_,rfl,rfl⟩
  | 1,h => cases h; exact ⟨rfl,⟨_,rfl,rfl⟩,_,rfl,rfl⟩
  | n + 2,h => simp at h
 ·exact ⟨⟨_,_,rfl,rfl,by decide,rfl,rfl,rfl⟩,rfl,_,rfl,rfl⟩
 ·refine ⟨⟨_,_,rfl,rfl,by decide,rfl,rfl,rfl⟩,_,rfl,rfl,?_⟩
  intro i f h
  match i,h with
  | 0,h => cases h; exact ⟨rfl,⟨_,rfl,rfl⟩,_,rfl,rfl⟩
  | 1,h => cases h; exact ⟨rfl,⟨_,rfl,rfl⟩,_,rfl,rfl⟩
  | 2,h => cases h; exact ⟨rfl,⟨_,rfl,rfl⟩,_,rfl,rfl⟩
  | n + 3,h => simp at h
 ·exact ⟨⟨_,_,rfl,rfl,by decide,rfl,rfl,rfl⟩,rfl⟩
 ·exact ⟨⟨_,_,rfl,rfl,by decide,rfl,rfl,rfl⟩,rfl⟩
 ·exact ⟨⟨_,_,rfl,rfl,by decide,rfl,rfl,rfl⟩,rfl,_,rfl,rfl⟩
 ·refine ⟨⟨_,_,rfl,rfl,by decide,rfl,rfl,rfl⟩,_,rfl,rfl,?_⟩
  intro i f h
  match i,h with
  | 0,h => cases h; exact ⟨rfl,⟨_,rfl,rfl⟩,_,rfl,rfl⟩
  | 1,h => cases h; exact ⟨rfl,⟨_,rfl,rfl⟩,_,rfl,rfl⟩
  | 2,h => cases h; exact ⟨rfl,⟨_,rfl,rfl⟩,_,rfl,rfl⟩
  | n + 3,h => simp at h
 ·exact ⟨rfl,_,rfl,rfl⟩
 ·exact ⟨⟨_,_,rfl,rfl,by decide,rfl,rfl,rfl⟩,_,_,rfl,_,rfl,rfl⟩
 ·exact ⟨⟨_,_,rfl,rfl,by decide,rfl,rfl,rfl⟩,rfl⟩
 ·exact ⟨⟨_,_,rfl,rfl,by decide,rfl,rfl,rfl⟩,rfl⟩
 ·exact trivial
@[simp] theorem tau_2 : tau 2 = .int .i64 := (rfl)
@[simp] theorem tau_3 : tau 3 = .int .i64 := (rfl)
@[simp] theorem tau_4 : tau 4 = .bool := (rfl)
@[simp] theorem tau_5 : tau 5 = .int .u8 := (rfl)
@[simp] theorem tau_22 : tau 22 = .sl 23 := (rfl)
@[simp] theorem tau_23 : tau 23 = .sl 2 := (rfl)
@[simp] theorem tau_36 : tau 36 = .sl 5 := (rfl)
@[simp] theorem tau_39 : tau 39 = .st [.int .i64 0,.list []] := (rfl)
@[simp] theorem tau_43 : tau 43 = .int .u64 := (rfl)
@[simp] theorem tau_52 : tau 52 = .st [.int .i64 0,.list []] := (rfl)
@[simp] theorem tau_63 : tau 63 = .st [.int .i64 0,.list []] := (rfl)
@[simp] theorem tau_65 : tau 65 = .sl 22 := (rfl)
@[simp] theorem tau_104 : tau 104 = .st [.list [],.int .i64 0,.int .u64 0] := (rfl)
@[simp] theorem tau_105 : tau 105 = .int .u64 := (rfl)
@[simp] theorem tau_110 : tau 110 = .int .i64 := (rfl)
@[simp] theorem tau_137 : tau 137 = .sl 4 := (rfl)
@[simp] theorem tau_142 : tau 142 = .st [.list [],.int .i64 0,.int .u64 0] := (rfl)
@[simp] theorem tau_164 : tau 164 = .ss 63 2 := (rfl)
@[simp] theorem tau_166 : tau 166 = .ar [.int .i64 0,.int .i64 0] := (rfl)
@[simp] theorem tau_182 : tau 182 = .int .i64 := (rfl)
@[simp] theorem tau_195 : tau 195 = .int .u64 := (rfl)
theorem try_mixed : Try.prog.follows .mixedOrders = true := by rfl
def Try.sortL_ren : Go.Shelf.Ren := ⟨fun | 5 => 162 | 8 => 219 | 7 => 218 | 19 => 244 | 20 => 245 | 10 => 235 | 11 => 236 | 12 => 237 | 13 => 238 | 14 => 239 | 15 => 240 | 16 => 241 | 17 => 242 | 18 => 243 | 30 => 252 | 31 => 253 | 32 => 254 | 33 => 255 | 34 => 256 | 35 => 257 | 40 => 260 | n => n,fun | 23 => 23 | 25 => 2 | 3 => 3 | 32 => 105 | 22 => 23 | 0 => 0 | 44 => 190 | 46 => 43 | 4 => 4 | 36 => 183 | 35 => 182 | 41 => 174 | 5 => 5 | 9 => 9 | 53 => 195 | 57 => 199 | 63 => 201 | 64 => 202 | n => n,fun | n => n⟩
theorem Try.sortL : Go.Proofs.SlLaysM.n5 Try.prog Try.sortL_ren := {
 mixed := by kernel_rfl
 f5 := ⟨Try.f162.name,by decide,Try.func162.trans (congrArg some (by kernel_rfl))⟩
 f7 := ⟨Try.f218.name,by decide,Try.func218.trans (congrArg some (by kernel_rfl))⟩
 f8 := Try.func219.trans (congrArg some (by kernel_rfl))
 f10 := ⟨Try.f235.name,by decide,Try.func235.trans (congrArg some (by kernel_rfl))⟩
 f11 := ⟨Try.f236.name,by decide,Try.func236.trans (congrArg some (by kernel_rfl))⟩
 f12 := ⟨Try.f237.name,by decide,Try.func237.trans (congrArg some (by kernel_rfl))⟩
 f13 := ⟨Try.f238.name,by decide,Try.func238.trans (congrArg some (by kernel_rfl))⟩
 f14 := ⟨Try.f239.name,by decide,Try.func239.trans (congrArg some (by kernel_rfl))⟩
 f15 := ⟨Try.f240.name,by decide,Try.func240.trans (congrArg some (by kernel_rfl))⟩
 f16 := ⟨Try.f241.name,by decide,Try.func241.trans (congrArg some (by kernel_rfl))⟩
 f17 := ⟨Try.f242.name,by decide,Try.func242.trans (congrArg some (by kernel_rfl))⟩
 f18 := ⟨Try.f243.name,by decide,Try.func243.trans (congrArg some (by kernel_rfl))⟩
 f19 := Try.func244.trans (congrArg some (by kernel_rfl))
 f20 := Try.func245.trans (congrArg some (by kernel_rfl))
 f30 := ⟨Try.f252.name,by decide,Try.func252.trans (congrArg some (by kernel_rfl))⟩
 f31 := Try.func253.trans (congrArg some (by kernel_rfl))
 f32 := Try.func254.trans (congrArg some (by kernel_rfl))
 f33 := ⟨Try.f255.name,by decide,Try.func255.trans (congrArg some (by kernel_rfl))⟩
 f34 := ⟨Try.f256.name,by decide,Try.func256.trans (congrArg some (by kernel_rfl))⟩
 f35 := ⟨Try.f257.name,by decide,Try.func257.trans (congrArg some (by kernel_rfl))⟩
 f40 := ⟨Try.f260.name,by decide,Try.func260.trans (congrArg some (by kernel_rfl))⟩
 t0 := Try.underlying0
 a0 := Try.isAgg0
 z0 := Try.sizeOf0
 v0 := Try.zeroValue0
 t3 := Try.underlying3
 a3 := Try.isAgg3
 z3 := Try.sizeOf3
 v3 := Try.zeroValue3
 t4 := Try.underlying4
 a4 := Try.isAgg4
 z4 := Try.sizeOf4
 v4 := Try.zeroValue4
 t5 := Try.underlying5
 a5 := Try.isAgg5
 z5 := Try.sizeOf5
 v5 := Try.zeroValue5
 t9 := Try.underlying9
 a9 := Try.isAgg9
 z9 := Try.sizeOf9
 v9 := Try.zeroValue9
 t22 := Try.underlying23
 a22 := Try.isAgg23
 z22 := Try.sizeOf23
 v22 := Try.zeroValue23
 t23 := Try.underlying23
 a23 := Try.isAgg23
 z23 := Try.sizeOf23
 v23 := Try.zeroValue23
 t25 := Try.underlying2
 a25 := Try.isAgg2
 z25 := Try.sizeOf2
 v25 := Try.zeroValue2
 t32 := Try.underlying105
 a32 := Try.isAgg105
 z32 := Try.sizeOf105
 v32 := Try.zeroValue105
 t35 := Try.underlying182
 a35 := Try.isAgg182
 z35 := Try.sizeOf182
 v35 := Try.zeroValue182
 t36 := Try.underlying183
 a36 := Try.isAgg183
 z36 := Try.sizeOf183
 v36 := Try.zeroValue183
 t41 := Try.underlying174
 a41 := Try.isAgg174
 z41 := Try.sizeOf174
 v41 := Try.zeroValue174
 t44 := Try.underlying190
 a44 := Try.isAgg190
 z44 := Try.sizeOf190
 v44 := Try.zeroValue190
 t46 := Try.underlying43
 a46 := Try.isAgg43
 z46 := Try.sizeOf43
 v46 := Try.zeroValue43
 t53 := Try.underlying195
 a53 := Try.isAgg195
 z53 := Try.sizeOf195
 v53 := Try.zeroValue195
 t57 := Try.underlying199
 a57 := Try.isAgg199
 z57 := Try.sizeOf199
 v57 := Try.zeroValue199
 t63 := Try.underlying201
 a63 := Try.isAgg201
 z63 := Try.sizeOf201
 v63 := Try.zeroValue201
 t64 := Try.underlying202
 a64 := Try.isAgg202
 z64 := Try.sizeOf202
 v64 := Try.zeroValue202 }
theorem zs {N : Lim} {fl : FL} {Q : Exit → Frm → Prop} (f : FL) {id : Nat} {l : List Oper} {y : Code} (h1 : AfterL (runL tau Orc.none N (l.map (·.dst)) l fl) fun g => pickL (f.map (·.1)) g = f) (h2 : VW Try.prog N y (mk f) Q) : VW Try.prog N (.seq (.region id l.toArray false) y) (mk fl) Q := VW.ws tau_ok Sound.none _ f rfl h1 h2
theorem zr {N : Lim} {fl : FL} {Q : Exit → Frm → Prop} (f : FL) {id : Nat} {l : List Oper} (h1 : AfterL (runL tau Orc.none N (l.map (·.dst)) l fl) fun g => pickL (f.map (·.1)) g = f) (h2 : Q .normal (mk f)) : VW Try.prog N (.region id l.toArray false) (mk fl) Q := VW.wr tau_ok Sound.none _ f rfl h1 h2
end Go.Vam
