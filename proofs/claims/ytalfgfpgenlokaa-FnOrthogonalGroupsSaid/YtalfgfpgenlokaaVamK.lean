/- For the walk: frames written out, and the region's rule in the form that it is met by simp. -/
import Derived.Test.YtalfgfpgenlokaaVamJ
namespace Go.Vam
open Go Go.RowKit

def mk : List (Nat × VV) → Frm
 | [],_ => .dead
 | (k,v) :: r,s => if s = k then v else mk r s

theorem mk_nil (s : Nat) : mk [] s = .dead := rfl
theorem mk_cons (k : Nat) (v : VV) (r : List (Nat × VV)) (s : Nat) : mk ((k,v) :: r) s = if s = k then v else mk r s := rfl

def keep (ks : List Nat) (σ : Frm) : Frm := mk (ks.map fun s => (s,σ s))

theorem keep_spec (ks : List Nat) (σ : Frm) (s : Nat) : keep ks σ s = .dead ∨ keep ks σ s = σ s := by
 induction ks with
 | nil => exact .inl rfl
 | cons k r ih =>
  simp only [keep,List.map_cons,mk_cons]
  split
  ·rename_i e; subst e; exact .inr rfl
  ·exact ih

def After (o : Option Frm) (K : Frm → Prop) : Prop := match o with
 | some σ => K σ
 | none => False

section
variable {P : Program} {τ : TypeId → TK} {Φ : Orc} {N : Lim} {σ : Frm} {Q : Exit → Frm → Prop}

theorem VW.reg (hτ : TyOk P τ) (hΦ : Sound P Φ) (ks : List Nat) {id : Nat} {l : List Oper} (h : After (vrun τ Φ N l.toArray l σ) fun σ' => Q .normal (keep ks σ')) :
  VW P N (.region id l.toArray false) σ Q := by
 cases hv : vrun τ Φ N l.toArray l σ with
 | none => rw [hv] at h; exact h.elim
 | some σ' =>
  rw [hv] at h
  intro R B w0 O a w hs
  exact wp_region_lit (vrun_sound hτ hΦ l hs hv fun O' _ _ h' => ⟨O',_,h'.forget (keep_spec ks σ'),h⟩)


theorem VW.sr (hτ : TyOk P τ) (hΦ : Sound P Φ) (ks : List Nat) {id : Nat} {l : List Oper} {y : Code}
  (h : ∀ K : Frm → Prop,(∀ σ,VW P N y σ Q → K σ) → After (vrun τ Φ N l.toArray l σ) fun σ' => K (keep ks σ')) :
  VW P N (.seq (.region id l.toArray false) y) σ Q :=
 VW.seq (VW.reg hτ hΦ ks (h _ fun _ hh => hh))

end
end Go.Vam
