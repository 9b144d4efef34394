/- A struct of three tables, as a law's argument. -/
import Derived.Test.YtjkknabmfdodeaaVamU
namespace Go.Vam
open Go Go.RowKit Go.ChangeShapes Go.WideShapes Go.ChangeAt
section
variable {P : Program} {H : Type} {enc : TypeId × Value → H} {W : World} {b0 : Nat} {t e e2 : TypeId} {v : Value} {d : DataW H} {ps : List MemPlace} {f0 f1 f2 : Field}
theorem arg_tr (ht : P.underlying t = some (.struct #[f0, f1, f2])) (o0 : f0.offset = 0) (o1 : f1.offset = 1) (o2 : f2.offset = 2)
    (h0 : P.underlying f0.type = some (.slice e)) (h1 : P.underlying f1.type = some (.slice e)) (h2 : P.underlying f2.type = some (.slice e)) (he : P.underlying e = some (.slice e2)) (he2 : P.underlying e2 = some (.int .i64))
    (c : P.cellsOf t = 3) (c0 : P.cellsOf f0.type = 1) (c1 : P.cellsOf f1.type = 1) (c2 : P.cellsOf f2.type = 1) (ce : P.cellsOf e = 1) (ce2 : P.cellsOf e2 = 1)
    (hval : Value.okWide P W .any b0 t v) (h : DataW.Trod enc P W 0 (fun _ => true) true t v d ps) : ∃ x y z, Rd W (Blk W) v (.agg [dM x, dM y, dM z]) ∧ fitM x ∧ fitM y ∧ fitM z := by
  obtain ⟨cs, rfl, hcs⟩ := okWide_struct ht hval
  obtain ⟨fuel, hf⟩ := h
  simp only [Value.cells] at hf
  obtain ⟨xs, n, _, _, hl, hlen, hp⟩ := DataW.trod_struct ht hf
  rw [c] at hcs
  obtain ⟨l⟩ := cs
  match xs, hlen, l, hcs with
  | [y0, y1, y2], _, [p, q, r], _ =>
    have g0 := hp 0 f0 rfl
    have g1 := hp 1 f1 rfl
    have g2 := hp 2 f2 rfl
    rw [o0, c0] at g0
    rw [o1, c1] at g1
    rw [o2, c2] at g2
    have hh := opens_slice he ce2 (opens_int he2 (H := H) (enc := enc))
    obtain ⟨d0, r0, q0⟩ := opens_slice h0 ce hh W n p _ g0
    obtain ⟨x, rfl, hx⟩ := of_bLLI q0
    obtain ⟨d1, r1, q1⟩ := opens_slice h1 ce hh W n q _ g1
    obtain ⟨y, rfl, hy⟩ := of_bLLI q1
    obtain ⟨d2, r2, q2⟩ := opens_slice h2 ce hh W n r _ g2
    obtain ⟨z, rfl, hz⟩ := of_bLLI q2
    refine ⟨x, y, z, .agg _ _ (fun i => if i = 0 then p else if i = 1 then q else r) rfl (fun i hi => ?_) (fun i hi => ?_), hx, hy, hz⟩
    · match i, hi with
      | 0, _ => rfl
      | 1, _ => rfl
      | 2, _ => rfl
    · match i, hi with
      | 0, _ => exact r0
      | 1, _ => exact r1
      | 2, _ => exact r2
end
end Go.Vam
