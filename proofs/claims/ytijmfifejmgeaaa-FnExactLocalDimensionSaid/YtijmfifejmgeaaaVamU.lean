/- A struct of a number and a list, as a law's argument. -/
import Derived.Test.YtijmfifejmgeaaaVamO
import Derived.ChangeSame
namespace Go.Vam
open Go Go.RowKit Go.ChangeShapes Go.WideShapes Go.ChangeAt
section
variable {P : Program} {H : Type} {enc : TypeId × Value → H} {W : World} {b0 : Nat} {t e : TypeId} {v : Value} {d : DataW H} {ps : List MemPlace} {f0 f1 : Field}
theorem arg_st (ht : P.underlying t = some (.struct #[f0, f1])) (o0 : f0.offset = 0) (o1 : f1.offset = 1) (h0 : P.underlying f0.type = some (.int .i64)) (h1 : P.underlying f1.type = some (.slice e)) (he : P.underlying e = some (.int .i64))
    (c : P.cellsOf t = 2) (c0 : P.cellsOf f0.type = 1) (c1 : P.cellsOf f1.type = 1) (ce : P.cellsOf e = 1)
    (hval : Value.okWide P W .any b0 t v) (h : DataW.Trod enc P W 0 (fun _ => true) true t v d ps) : ∃ x y, Rd W (Blk W) v (.agg [i64 x, dI y]) ∧ fit x ∧ fitI y := by
  obtain ⟨cs, rfl, hcs⟩ := okWide_struct ht hval
  obtain ⟨fuel, hf⟩ := h
  simp only [Value.cells] at hf
  obtain ⟨y0, y1, n, _, hl, g0, g1⟩ := trod_struct2 ht hf
  rw [c] at hcs
  obtain ⟨l⟩ := cs
  match l, hcs with
  | [a, b], _ =>
    rw [o0, c0] at g0
    rw [o1, c1] at g1
    obtain ⟨d0, r0, q0⟩ := opens_int h0 W n a _ g0
    obtain ⟨x, rfl, hx⟩ := of_bI q0
    obtain ⟨d1, r1, q1⟩ := opens_slice h1 ce (opens_int he) W n b _ g1
    obtain ⟨y, rfl, hy⟩ := of_bLI q1
    refine ⟨x, y, .agg _ _ (fun i => if i = 0 then a else b) rfl (fun i hi => ?_) (fun i hi => ?_), hx, hy⟩
    · match i, hi with
      | 0, _ => rfl
      | 1, _ => rfl
    · match i, hi with
      | 0, _ => exact r0
      | 1, _ => exact r1
end
end Go.Vam
