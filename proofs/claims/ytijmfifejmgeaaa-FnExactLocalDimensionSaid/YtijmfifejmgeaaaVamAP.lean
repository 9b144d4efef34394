/- Arrays of constants, and their elements; closed regions with two operations told by hand. -/
import Derived.Test.YtijmfifejmgeaaaVamAN
namespace Go.Vam
open Go Go.RowKit
set_option linter.unusedSimpArgs false
set_option linter.unusedVariables false

section
variable {P : Program} {τ : TypeId → TK} {Φ : Orc} {N : Lim}

theorem VW.mid2 (hτ : TyOk P τ) (hΦ : Sound P Φ) (ds : List (Option Nat)) (k m : Nat) (f1 F1 f2 F2 f3 : FL) {id : Nat} {l : List Oper} {y : Code} {fl : FL} {Q : Exit → Frm → Prop}
    (o o2 : Oper) (hds : l.map (·.dst) = ds) (ho : l[k]? = some o) (hg : o.guard = none) (ho2 : (l.drop (k + 1))[m]? = some o2) (hg2 : o2.guard = none)
    (h1 : AfterL (runL τ Φ N ds (l.take k) fl) fun f => pickL (f1.map (·.1)) f = f1)
    (hs : OStep P N o (mk f1) (fun _ : Unit => mk F1) (fun _ => True))
    (h2 : AfterL (runL τ Φ N ds ((l.drop (k + 1)).take m) F1) fun f => pickL (f2.map (·.1)) f = f2)
    (hs2 : OStep P N o2 (mk f2) (fun _ : Unit => mk F2) (fun _ => True))
    (h3 : AfterL (runL τ Φ N ds ((l.drop (k + 1)).drop (m + 1)) F2) fun f => pickL (f3.map (·.1)) f = f3)
    (h4 : VW P N y (mk f3) Q) : VW P N (.seq (.region id l.toArray false) y) (mk fl) Q := by
  subst hds
  refine VW.seq ?_
  intro R B w0 O a w hst
  have el : l.take k ++ o :: ((l.drop (k + 1)).take m ++ o2 :: (l.drop (k + 1)).drop (m + 1)) = l := by
    obtain ⟨hk2, e2⟩ := List.getElem?_eq_some_iff.1 ho2
    have : (l.drop (k + 1)).take m ++ o2 :: (l.drop (k + 1)).drop (m + 1) = l.drop (k + 1) := by
      rw [← e2, ← List.drop_eq_getElem_cons hk2, List.take_append_drop]
    rw [this]
    obtain ⟨hk, e⟩ := List.getElem?_eq_some_iff.1 ho
    rw [← e, ← List.drop_eq_getElem_cons hk, List.take_append_drop]
  refine wp_region_lit ?_
  have : wpList P l.toArray (fun e a' w' => ∃ O' σ', St R B w0 N O' σ' a' w' ∧ Nx (fun σ' => VW P N y σ' Q) Q e σ') (l.take k ++ o :: ((l.drop (k + 1)).take m ++ o2 :: (l.drop (k + 1)).drop (m + 1))) a w := by
    cases hv : runL τ Φ N (l.map (·.dst)) (l.take k) fl with
    | none => rw [hv] at h1; exact h1.elim
    | some f1' =>
      rw [hv] at h1
      refine vrun_pre hτ hΦ (l.take k) _ hst (runL_ok (l0 := l) (l.take k) fl f1' hv) fun O1 a1 w1 hst1 => ?_
      have hst2 := st_pick hst1 h1
      refine wpList_step fun K hK => ?_
      have hw : Region.wanted o (yielded l.toArray a1.tmps) = true := by simp [Region.wanted, hg]
      rw [if_pos hw]
      refine hs R B w0 O1 a1 w1 K _ hst2 fun i O2 a2 w2 hA hst3 => hK a2 w2 ?_
      cases hv2 : runL τ Φ N (l.map (·.dst)) ((l.drop (k + 1)).take m) F1 with
      | none => rw [hv2] at h2; exact h2.elim
      | some f2' =>
        rw [hv2] at h2
        refine vrun_pre hτ hΦ ((l.drop (k + 1)).take m) _ hst3 (runL_ok (l0 := l) ((l.drop (k + 1)).take m) F1 f2' hv2) fun O3 a3 w3 hst4 => ?_
        have hst5 := st_pick hst4 h2
        refine wpList_step fun K2 hK2 => ?_
        have hw2 : Region.wanted o2 (yielded l.toArray a3.tmps) = true := by simp [Region.wanted, hg2]
        rw [if_pos hw2]
        refine hs2 R B w0 O3 a3 w3 K2 _ hst5 fun i O4 a4 w4 hA hst6 => hK2 a4 w4 ?_
        cases hv3 : runL τ Φ N (l.map (·.dst)) ((l.drop (k + 1)).drop (m + 1)) F2 with
        | none => rw [hv3] at h3; exact h3.elim
        | some f3' =>
          rw [hv3] at h3
          refine vrun_sound hτ hΦ ((l.drop (k + 1)).drop (m + 1)) hst6 (runL_ok (l0 := l) ((l.drop (k + 1)).drop (m + 1)) F2 f3' hv3) fun O5 a5 w5 hst7 => ?_
          exact ⟨O5, mk f3, st_pick hst7 h3, h4⟩
  rwa [el] at this

theorem step_quiet {o : Oper} {d : Nat} {fl : FL} {x : VV} (hd : o.dst = some d) (hN : d ∈ N)
    (hrun : ∀ {R B : Nat → Prop} {w0 : W0} {O : Own} {a : Act} {w : World}, St R B w0 N O (mk fl) a w → ∃ v, (execOp a.eval o).run P w = .ok (.value v) w ∧ Rel R w O x v) :
    OStep P N o (mk fl) (fun _ : Unit => mk ((d, x) :: fl)) (fun _ => True) := by
  intro R B w0 O a w K Q h hK
  obtain ⟨v, h1, h2⟩ := hrun h
  unfold Oper.wp
  rw [h1]
  simp only [Oper.upon]
  rw [hd]
  have hm : Made R B w w O O [] x v := ⟨Keeps.refl _ _ _, .refl _ _, h.own, h.inj, h2⟩
  have h' := h.made hm hN
  rw [killl_nil] at h'
  have e : upd (mk fl) d x = mk ((d, x) :: fl) := (mk_upd d _ fl).symm
  rw [e] at h'
  exact hK () O _ w trivial h'

theorem run_build_arr {T E : TypeId} {n : Nat} {z : Value} {ps : Array (Nat × Value)} {cs : Array Value} (hz : ∀ w, (zeroValue T).run P w = .ok z w) (hu : P.underlying T = some (.array n E)) (hs : ∀ w, (sizeOf E).run P w = .ok 1 w)
    (hf : Instr.fill (fun i => some (i * 1, 1)) z.cells ps.toList = some cs) (w : World) : (Instr.build T ps).run P w = .ok (.agg cs) w := by
  simp only [Instr.build, Sem.run_bind, hz, run_underlying hu, hs, Result.andThen_ok, hf, Sem.run_pure]

/-- An array of numbers is built of constants. -/
theorem step_barr {o : Oper} {T E : TypeId} {n d : Nat} {fl : FL} {parts : Array (Nat × Operand)} {ps : Array (Nat × Value)} {z : Value} (ns : List Int) (ho : o.op = .build T parts) (hd : o.dst = some d) (hN : d ∈ N)
    (hps : ∀ a : Act, parts.map (fun (i, x) => (i, a.eval x)) = ps) (hz : ∀ w, (zeroValue T).run P w = .ok z w) (hu : P.underlying T = some (.array n E)) (hs : ∀ w, (sizeOf E).run P w = .ok 1 w)
    (hf : Instr.fill (fun i => some (i * 1, 1)) z.cells ps.toList = some (ns.map (Value.int .i64)).toArray) :
    OStep P N o (mk fl) (fun _ : Unit => mk ((d, .val (.agg (ns.map (D.int .i64)))) :: fl)) (fun _ => True) := by
  refine step_quiet hd hN fun {R B w0 O a w} h => ⟨.agg (ns.map (Value.int .i64)).toArray, ?_, ?_⟩
  · simp only [execOp, ho, hps]
    refine run_v ?_
    exact run_build_arr hz hu hs hf w
  · refine Rd.agg _ _ (fun i => .int .i64 (ns.getD i 0)) (by simp) (fun i hi => ?_) fun i hi => ?_
    · have hi' : i < ns.length := by simpa using hi
      simp [List.getD_eq_getElem?_getD, hi']
    · have hi' : i < ns.length := by simpa using hi
      simp only [List.getElem_map, List.getD_eq_getElem?_getD, List.getElem?_eq_getElem hi', Option.getD_some]
      exact .int _ _

/-- An element of an array of numbers is taken. -/
theorem step_iarr {o : Oper} {T E : TypeId} {n d : Nat} {fl : FL} {x i : Operand} {ns : List Int} {k : Int} {y : Int} (ho : o.op = .index T x i) (hd : o.dst = some d) (hN : d ∈ N)
    (hx : ev (mk fl) x = .val (.agg (ns.map (D.int .i64)))) (hi : ev (mk fl) i = .val (.int .i64 k)) (hk : idx ns k = some y) (hn : ns.length = n) (hu : P.underlying T = some (.array n E)) (hs : ∀ w, (sizeOf E).run P w = .ok 1 w)
    (ha : ∀ w, (isAgg E).run P w = .ok false w) :
    OStep P N o (mk fl) (fun _ : Unit => mk ((d, .val (.int .i64 y)) :: fl)) (fun _ => True) := by
  refine step_quiet hd hN fun {R B w0 O a w} h => ⟨.int .i64 y, ?_, .int _ _⟩
  have hxr := rel_ev h x
  have hir := rel_ev h i
  rw [hx] at hxr
  rw [hi] at hir
  simp only [execOp, ho]
  refine run_v ?_
  generalize a.eval x = xv at hxr
  generalize a.eval i = iv at hir
  cases (hir : Rd w (Fro R O w) iv (.int .i64 k))
  cases (hxr : Rd w (Fro R O w) xv (.agg (ns.map (D.int .i64)))) with
  | agg cs _ vs hl hv hr =>
    obtain ⟨h0, h1, h2, _⟩ := idx_some hk
    have hlt : k.toNat < ns.length := h1
    have hget : cs[k.toNat]? = some (.int .i64 y) := by
      have a1 := hv k.toNat (by simpa using hlt)
      have a2 := hr k.toNat (by simpa using hlt)
      simp only [List.getElem_map] at a2
      rw [a1]
      have : ns[k.toNat] = y := by rw [List.getElem?_eq_getElem hlt] at h2; exact Option.some.inj h2
      rw [this] at a2
      generalize vs k.toNat = u at a2
      cases a2
      rfl
    have hin : 0 ≤ k ∧ k < (n : Int) := by omega
    simp only [Instr.index, asIntOf, Sem.run_bind, Sem.run_pure, Result.andThen_ok, run_underlying hu, if_pos hin, hs, part, ha, Nat.mul_one, hget, Bool.false_eq_true, if_false]
end
end Go.Vam
