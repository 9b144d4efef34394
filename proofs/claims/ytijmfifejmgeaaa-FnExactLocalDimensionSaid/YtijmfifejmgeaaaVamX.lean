/- Regions of open order in which operations that act stand among others that only look. -/
import Derived.Test.YtijmfifejmgeaaaVamW
namespace Go.Vam
open Go Go.RowKit

def offT (ts : List Nat) (x : VV) : Bool := ts.all fun t => !(x.on t)
def VV.liv : VV → Bool
  | .dead => false
  | _ => true
/-- What acts touches only what hangs on the tokens ts. -/
def Within (ts : List Nat) (f : VV → VV) : Prop := ∀ x, (offT ts x = true → f x = x) ∧ (offT ts x = false → f x = .dead ∨ offT ts (f x) = false)

theorem Within.look {ts : List Nat} {f : VV → VV} (h : Within ts f) {x : VV} (h1 : offT ts (f x) = true) (h2 : (f x).liv = true) : offT ts x = true ∧ f x = x := by
  cases hx : offT ts x with
  | true => exact ⟨rfl, (h x).1 hx⟩
  | false =>
    rcases (h x).2 hx with e | e
    · rw [e] at h2; cases h2
    · rw [e] at h1; cases h1
theorem Within.comp {ts : List Nat} {f g : VV → VV} (hf : Within ts f) (hg : Within ts g) (hd : f .dead = .dead) : Within ts fun x => f (g x) := by
  intro x
  refine ⟨fun hx => ?_, fun hx => ?_⟩
  · simp only [(hg x).1 hx, (hf x).1 hx]
  · rcases (hg x).2 hx with e | e
    · left; simp only [e, hd]
    · exact (hf _).2 e

section
variable {P : Program} {τ : TypeId → TK} {Φ : Orc} {N : Lim} {ops : Array Oper} {Qf : Frm → Prop}

structure WayX (ops : Array Oper) (listed : Array Bool) : Prop where
  size : listed.size = ops.size
  closed : ∀ j oj, ops[j]? = some oj → listed.getD j false = true → ∀ e ∈ oj.after, Region.binds .any e = true → listed.getD e.on false = true

theorem WayX.set {listed : Array Bool} (hw : WayX ops listed) {i : Nat} (hi : i ∈ Region.ready .any ops listed) : WayX ops (listed.setIfInBounds i true) :=
  ⟨by simp [hw.size], closed_set hw.closed hi⟩

open Classical in
end
end Go.Vam
