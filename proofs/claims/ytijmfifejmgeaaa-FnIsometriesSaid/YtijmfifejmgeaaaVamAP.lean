/- Arrays of constants, and their elements; closed regions with two operations told by hand. -/
import Derived.Test.YtijmfifejmgeaaaVamAN
namespace Go.Vam
open Go Go.RowKit
set_option linter.unusedSimpArgs false
set_option linter.unusedVariables false

section
variable {P : Program} {τ : TypeId → TK} {Φ : Orc} {N : Lim}

theorem step_quiet {o : Oper} {d : Nat} {fl : FL} {x : VV} (hd : o.dst = some d) (hN : d ∈ N)
  (hrun : ∀ {R B : Nat → Prop} {w0 : W0} {O : Own} {a : Act} {w : World},St R B w0 N O (mk fl) a w → ∃ v,(execOp a.eval o).run P w = .ok (.value v) w ∧ Rel R w O x v) :
  OStep P N o (mk fl) (fun _ : Unit => mk ((d,x) :: fl)) (fun _ => True) := by
 intro R B w0 O a w K Q h hK
 obtain ⟨v,h1,h2⟩ := hrun h
 unfold Oper.wp
 rw [h1]
 simp only [Oper.upon]
 rw [hd]
 have hm : Made R B w w O O [] x v := ⟨Keeps.refl _ _ _,.refl _ _,h.own,h.inj,h2⟩
 have h' := h.made hm hN
 rw [killl_nil] at h'
 have e : upd (mk fl) d x = mk ((d,x) :: fl) := (mk_upd d _ fl).symm
 rw [e] at h'
 exact hK () O _ w trivial h'

theorem step_iarr {o : Oper} {T E : TypeId} {n d : Nat} {fl : FL} {x i : Operand} {ns : List Int} {k : Int} {y : Int} (ho : o.op = .index T x i) (hd : o.dst = some d) (hN : d ∈ N)
  (hx : ev (mk fl) x = .val (.agg (ns.map (D.int .i64)))) (hi : ev (mk fl) i = .val (.int .i64 k)) (hk : idx ns k = some y) (hn : ns.length = n) (hu : P.underlying T = some (.array n E)) (hs : ∀ w,(sizeOf E).run P w = .ok 1 w)
  (ha : ∀ w,(isAgg E).run P w = .ok false w) :
  OStep P N o (mk fl) (fun _ : Unit => mk ((d,.val (.int .i64 y)) :: fl)) (fun _ => True) := by
 refine step_quiet hd hN fun {R B w0 O a w} h => ⟨.int .i64 y,?_,.int _ _⟩
 have hxr := rel_ev h x
 have hir := rel_ev h i
 rw [hx] at hxr
 rw [hi] at hir
 simp only [execOp,ho]
 refine run_v ?_
 generalize a.eval x = xv at hxr
 generalize a.eval i = iv at hir
 cases (hir : Rd w (Fro R O w) iv (.int .i64 k))
 cases (hxr : Rd w (Fro R O w) xv (.agg (ns.map (D.int .i64)))) with
 | agg cs _ vs hl hv hr =>
  obtain ⟨h0,h1,h2,_⟩ := idx_some hk
  have hlt : k.toNat < ns.length := h1
  have hget : cs[k.toNat]? = some (.int .i64 y) := by
   have a1 := hv k.toNat (by simpa using hlt)
   have a2 := hr k.toNat (by simpa using hlt)
   simp only [List.getElem_map] at a2
   rw [a1]
   have : ns[k.toNat] = y := by rw [List.getElem?_eq_getElem hlt] at h2; exact Option.some.inj h2
   rw [this] at a2
   generalize vs k.toNat = u at a2
   cases a2
   rfl
  have hin : 0 ≤ k ∧ k < (n : Int) := by omega
  simp only [Instr.index,asIntOf,Sem.run_bind,Sem.run_pure,Result.andThen_ok,run_underlying hu,if_pos hin,hs,part,ha,Nat.mul_one,hget,Bool.false_eq_true,if_false]
end
end Go.Vam
