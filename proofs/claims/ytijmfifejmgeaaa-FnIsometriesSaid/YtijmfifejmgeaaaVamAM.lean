/- A frame turned ahead of a step; a region of open order whose last two operations are told by hand. -/
import Derived.Test.YtijmfifejmgeaaaVamAL
namespace Go.Vam
open Go Go.RowKit
set_option linter.unusedSimpArgs false
set_option linter.unusedVariables false

section
variable {P : Program} {τ : TypeId → TK} {Φ : Orc} {N : Lim} {ops : Array Oper}

theorem OStep.fits {o : Oper} {f1 : FL} {σ : Frm} {ι : Type} {F : ι → Frm} {A : ι → Prop} (hf : Fits N f1 σ) (h : OStep P N o (mk f1) F A) : OStep P N o σ F A := fun R B w0 O a w K Q hs hK => by
 obtain ⟨O',h'⟩ := hf R B w0 O a w hs
 exact h R B w0 O' a w K Q h' hK

theorem Fits.part {fl fl' : FL} {s t d : Nat} {p : List Nat} {x : D} (hs : mk fl s = .ref t p true x) (hd : t ≠ d)
  (h : Fits N fl' (mk ((s,.ref d [] true x) :: fl.map fun q => (q.1,dtcVV t p d q.2)))) : Fits N fl' (mk fl) := fun R B w0 O a w hst => by
 have h' := hst.detach hs hd
 have e : upd (fun q => dtcVV t p d (mk fl q)) s (.ref d [] true x) = mk ((s,.ref d [] true x) :: fl.map fun q => (q.1,dtcVV t p d q.2)) := by
  funext j
  simp only [upd,mk_cons,mk_map (fun z => dtcVV t p d z) (by simp [dtcVV,VV.on])]
 rw [e] at h'
 exact h R B w0 _ a w h'

end
end Go.Vam
