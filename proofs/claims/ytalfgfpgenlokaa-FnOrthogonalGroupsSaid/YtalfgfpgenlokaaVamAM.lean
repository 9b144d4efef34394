/- A frame turned ahead of a step; a region of open order whose last two operations are told by hand. -/
import Derived.Test.YtalfgfpgenlokaaVamAL
namespace Go.Vam
open Go Go.RowKit
set_option linter.unusedSimpArgs false
set_option linter.unusedVariables false

section
variable {P : Program} {τ : TypeId → TK} {Φ : Orc} {N : Lim} {ops : Array Oper}

theorem OStep.fits {o : Oper} {f1 : FL} {σ : Frm} {ι : Type} {F : ι → Frm} {A : ι → Prop} (hf : Fits N f1 σ) (h : OStep P N o (mk f1) F A) : OStep P N o σ F A := fun R B w0 O a w K Q hs hK => by
 obtain ⟨O',h'⟩ := hf R B w0 O a w hs
 exact h R B w0 O' a w K Q h' hK

def tail2 (ops : Array Oper) (m : Nat) (fuel : Nat) (listed : Array Bool) : Prop :=
 fuel = 1 ∧ Region.ready .any ops listed ≠ [] ∧ (∀ j ∈ Region.ready .any ops listed,j = m + 1) ∧ Region.ready .any ops (listed.setIfInBounds (m + 1) true) = []

def drawH2 (ops : Array Oper) (m : Nat) : Bool :=
 decide (m + 2 = ops.size) && ((List.range m).all fun i => reachB ops ops.size m i) && reachB ops ops.size (m + 1) m && lexB ops ops.size 0 (Array.replicate ops.size false) && decide ((dsts ops.toList).Nodup) && decide (nilT ∉ dsts ops.toList)

theorem step_tkw' {o : Oper} {g : FuncId} {as : Array Operand} {ts : Array TypeId} {x : Operand} {d t : Nat} {u : Bool} {fl : FL} {ds xs rs : List D} (ho : o.op = .call ⟨.value (.func g),as,ts⟩)
  (hargs : as.toList.getLast? = some x) (hd : o.dst = some d) (hN : d ∈ N) (hx : ev (mk fl) x = .ref t [] u (.list xs)) (hu : u = true → xs.all D.sc = true) (hds : vals (mk fl) as.toList.dropLast = some ds) (hv : VTkW P g ds xs rs) :
  OStep P N o (mk fl) (fun _ : Unit => mk ((d,.ref d [] false (.list rs)) :: fl.map fun q => (q.1,kmap [t,d] q.2))) (fun _ => True) :=
 step_tkw ho (by obtain ⟨ys,e⟩ := List.getLast?_eq_some_iff.1 hargs; rw [e]; simp) hd hN hx hu hds hv

theorem Fits.part {fl fl' : FL} {s t d : Nat} {p : List Nat} {x : D} (hs : mk fl s = .ref t p true x) (hd : t ≠ d)
  (h : Fits N fl' (mk ((s,.ref d [] true x) :: fl.map fun q => (q.1,dtcVV t p d q.2)))) : Fits N fl' (mk fl) := fun R B w0 O a w hst => by
 have h' := hst.detach hs hd
 have e : upd (fun q => dtcVV t p d (mk fl q)) s (.ref d [] true x) = mk ((s,.ref d [] true x) :: fl.map fun q => (q.1,dtcVV t p d q.2)) := by
  funext j
  simp only [upd,mk_cons,mk_map (fun z => dtcVV t p d z) (by simp [dtcVV,VV.on])]
 rw [e] at h'
 exact h R B w0 _ a w h'

end
end Go.Vam
