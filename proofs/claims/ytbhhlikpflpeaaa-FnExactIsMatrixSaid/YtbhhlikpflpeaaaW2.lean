import Derived.Test.YtbhhlikpflpeaaaW1
namespace Go.Vam
open Go Go.RowKit Go.Proofs
set_option maxRecDepth 100000
set_option linter.unusedSimpArgs false
set_option linter.unusedVariables false

def szv (n : Nat) (left : Int) : Int := if (n : Int) ≤ left then left - n else -1
def rowsum (m : List (List Int)) : Nat := (m.map List.length).sum

theorem rowsum_take {m : List (List Int)} {k : Nat} {x : List Int} (h : m[k]? = some x) : rowsum (m.take (k + 1)) = rowsum (m.take k) + x.length := by
  unfold rowsum; rw [List.take_add_one, h]; simp
theorem rowsum_le (m : List (List Int)) (k : Nat) : rowsum (m.take k) ≤ rowsum m := by
  conv => rhs; rw [← List.take_append_drop k m]
  unfold rowsum; rw [List.map_append, List.sum_append]; omega

/-- A list that is being filled. -/
def fillL {α : Type} (f : α → D) (z : D) (xs : List α) (k : Nat) : List D := (xs.take k).map f ++ List.replicate (xs.length - k) z
theorem fill_len {α : Type} (f : α → D) (z : D) (xs : List α) (k : Nat) (h : k ≤ xs.length) : (fillL f z xs k).length = xs.length := by
  simp [fillL]; omega
theorem fill_zero {α : Type} (f : α → D) (z : D) (xs : List α) : List.replicate xs.length z = fillL f z xs 0 := by simp [fillL]
theorem fill_full {α : Type} (f : α → D) (z : D) (xs : List α) (k : Nat) (h : xs.length ≤ k) : fillL f z xs k = xs.map f := by
  simp [fillL, List.take_of_length_le h, Nat.sub_eq_zero_of_le h]
theorem fill_set {α : Type} (f : α → D) (z : D) (xs : List α) (k : Nat) (x : α) (h : xs[k]? = some x) : (fillL f z xs k).set k (f x) = fillL f z xs (k + 1) := by
  obtain ⟨hk, hx⟩ := List.getElem?_eq_some_iff.1 h
  unfold fillL
  rw [List.take_add_one, h, List.set_append_right _ _ (by simp; omega)]
  have : xs.length - k = (xs.length - (k + 1)) + 1 := by omega
  rw [this, List.replicate_succ]
  simp [Nat.min_eq_left (Nat.le_of_lt hk)]

theorem szI (xs : List Int) (left : Int) (hl : xs.length ≤ 9223372036854775807) (h0 : 0 ≤ left) (h1 : left ≤ 1048576) :
    VCall Try.prog 30 [dI xs, i64 left] [.sc (.int .i64 (szv xs.length left))] := by
  refine VCall.enter Try.call30 Try.func30 rfl 12 Try.ntmps30 (by simp) [.tmp 4] rfl ?_
  -- region 0
  refine VW.es tau_ok Sound.none [some 4] [0, 1] rfl fun K hK => ?_
  simp
  refine hK _ ?_
  clear hK K
  -- region 1
  refine VW.es tau_ok Sound.none [some 5, some 6, some 7, some 8, some 1] [1] rfl fun K hK => ?_
  simp [wrap_in (x := left - xs.length) (by omega) (by omega)]
  refine hK _ ?_
  clear hK K
  refine VW.sq fun K1 hK1 => ?_
  -- region 2
  refine VW.vs tau_ok Sound.none [some 9, some 10] [(10, .val (.bool (decide (left - xs.length < 0))))] [1] rfl ?_ ?_
  ·
    simp <;> try omega
  refine VW.cond rfl (fun hb10 => ?_) (fun hb10 => ?_)
  ·
    replace hb10 := of_decide_eq_true hb10
    have hs : szv xs.length left = -1 := by unfold szv; rw [if_neg (by omega)]
    -- region 3
    refine VW.es tau_ok Sound.none [some 4] [4] rfl fun K hK => ?_
    simp [hb10, hs]
    refine hK _ ?_
    clear hK K
    refine VW.ret ?_
    simp [Post, Nx, Bk, hb10, hs] <;> try omega
  ·
    replace hb10 := of_decide_eq_false hb10
    have hs : szv xs.length left = left - xs.length := by unfold szv; rw [if_pos (by omega)]
    refine VW.skip ?_
    refine hK1 _ ?_
    -- region 4
    refine VW.es tau_ok Sound.none [some 11, some 4] [4] rfl fun K hK => ?_
    simp [hb10, hs]
    refine hK _ ?_
    clear hK K
    refine VW.ret ?_
    simp [Post, Nx, Bk, hb10, hs] <;> try omega

theorem toI (xs : List Int) (hl : xs.length ≤ 1048576) :
    VCall Try.prog 21 [dI xs] [.own true (dI xs)] := by
  refine VCall.enter Try.call21 Try.func21 rfl 22 Try.ntmps21 (by simp) [.tmp 2] rfl ?_
  -- region 0
  refine VW.es tau_ok Sound.none [some 2] [0] rfl fun K hK => ?_
  simp
  refine hK _ ?_
  clear hK K
  -- region 1
  refine VW.es tau_ok Sound.none [some 5, some 6, some 7, some 3] [0, 3] rfl fun K hK => ?_
  simp [show ((xs.length : Int) ≤ 1099511627776) by omega]
  refine hK _ ?_
  clear hK K
  refine VW.sq fun K1 hK1 => ?_
  -- region 2
  refine VW.es tau_ok Sound.none [some 4] [0, 3, 4] rfl fun K hK => ?_
  simp
  refine hK _ ?_
  clear hK K
  refine VW.block ?_
  refine VW.frL [3, 4, 0] fun K hK => ?_
  simp
  refine hK _ ?_
  clear hK K
  rw [fill_zero (D.int .i64) (.int .i64 0) xs]
  refine VW.loopN (xs.length) (fun k => [(3, .ref 3 [] true (.list (fillL (D.int .i64) (.int .i64 0) xs k))), (4, .val (i64 k))]) (fun k => True) rfl ?_ ?_
  ·
    trivial
  ·
    intro k hk hF0
    refine VW.sq fun K2 hK2 => ?_
    -- region 3
    refine VW.vs tau_ok Sound.none [some 8, some 9, some 10, some 11] [(11, .val (.bool (decide (k < xs.length))))] [0, 3, 4] rfl ?_ ?_
    ·
      simp <;> try omega
    refine VW.cond rfl (fun hb11 => ?_) (fun hb11 => ?_)
    ·
      replace hb11 := of_decide_eq_true hb11
      obtain ⟨x, hx, ex⟩ := at_ hb11
      have hfl := fill_len (D.int .i64) (.int .i64 0) xs k hk
      have hfs := fill_set (D.int .i64) (.int .i64 0) xs k x hx
      refine VW.skip ?_
      refine hK2 _ ?_
      refine VW.sq fun K3 hK3 => ?_
      refine VW.block ?_
      -- region 5
      refine VW.er tau_ok Sound.none [some 14, some 15, some 16, some 17, some 18, some 19, some 20, none] [3, 4, 0] rfl fun K hK => ?_
      simp [hb11, hx, ex, hfl, hfs, wrap_in (x := (k : Int) + 1) (by omega) (by omega)]
      refine hK _ ?_
      clear hK K
      refine hK3 _ ?_
      -- region 4
      refine VW.er tau_ok Sound.none [some 12, some 13, some 4] [3, 4, 0] rfl fun K hK => ?_
      simp [hb11, hx, ex, hfl, hfs, wrap_in (x := (k : Int) + 1) (by omega) (by omega)]
      refine hK _ ?_
      clear hK K
      refine and3 ?_ ?_ ?_
      ·
        omega
      ·
        trivial
      ·
        simp [hb11, hx, ex, hfl, hfs, wrap_in (x := (k : Int) + 1) (by omega) (by omega)] <;> try omega
    ·
      replace hb11 := of_decide_eq_false hb11
      have hff := fill_full (D.int .i64) (.int .i64 0) xs k (by omega)
      refine VW.exit ?_
      refine hK1 _ ?_
      -- region 6
      refine VW.es tau_ok Sound.none [some 21, some 2] [2] rfl fun K hK => ?_
      simp [hb11, hff]
      refine hK _ ?_
      clear hK K
      refine VW.ret ?_
      simp [Post, Nx, Bk, hb11, hff] <;> try omega

theorem toM (m : List (List Int)) (hl : m.length ≤ 1048576) (hr : ∀ r ∈ m, r.length ≤ 1048576) :
    VCall Try.prog 11 [dM m] [.own true (dM m)] := by
  refine VCall.enter Try.call11 Try.func11 rfl 23 Try.ntmps11 (by simp) [.tmp 2] rfl ?_
  -- region 0
  refine VW.es tau_ok Sound.none [some 2] [0] rfl fun K hK => ?_
  simp
  refine hK _ ?_
  clear hK K
  -- region 1
  refine VW.es tau_ok Sound.none [some 5, some 6, some 7, some 3] [0, 3] rfl fun K hK => ?_
  simp [show ((m.length : Int) ≤ 1099511627776) by omega]
  refine hK _ ?_
  clear hK K
  refine VW.sq fun K1 hK1 => ?_
  -- region 2
  refine VW.es tau_ok Sound.none [some 4] [0, 3, 4] rfl fun K hK => ?_
  simp
  refine hK _ ?_
  clear hK K
  refine VW.block ?_
  refine VW.frL [3, 4, 0] fun K hK => ?_
  simp
  refine hK _ ?_
  clear hK K
  rw [fill_zero dI (.list []) m]
  refine VW.loopN (m.length) (fun k => [(3, .ref 3 [] true (.list (fillL dI (.list []) m k))), (4, .val (i64 k))]) (fun k => True) rfl ?_ ?_
  ·
    trivial
  ·
    intro k hk hF0
    refine VW.sq fun K2 hK2 => ?_
    -- region 3
    refine VW.vs tau_ok Sound.none [some 8, some 9, some 10, some 11] [(11, .val (.bool (decide (k < m.length))))] [0, 3, 4] rfl ?_ ?_
    ·
      simp <;> try omega
    refine VW.cond rfl (fun hb11 => ?_) (fun hb11 => ?_)
    ·
      replace hb11 := of_decide_eq_true hb11
      obtain ⟨x, hx, ex⟩ := at_ hb11
      have hfl := fill_len dI (.list []) m k hk
      have hfs := fill_set dI (.list []) m k x hx
      refine VW.skip ?_
      refine hK2 _ ?_
      refine VW.sq fun K3 hK3 => ?_
      refine VW.block ?_
      -- region 5
      refine VW.er tau_ok (Sound.none.add 20 (toI x (hr _ (List.mem_of_getElem? hx)))) [some 14, some 15, some 16, some 17, some 18, some 19, some 20, some 21, none] [3, 4, 0] rfl fun K hK => ?_
      simp [hb11, hx, ex, hfl, hfs, wrap_in (x := (k : Int) + 1) (by omega) (by omega)]
      refine hK _ ?_
      clear hK K
      refine hK3 _ ?_
      -- region 4
      refine VW.er tau_ok Sound.none [some 12, some 13, some 4] [3, 4, 0] rfl fun K hK => ?_
      simp [hb11, hx, ex, hfl, hfs, wrap_in (x := (k : Int) + 1) (by omega) (by omega)]
      refine hK _ ?_
      clear hK K
      refine and3 ?_ ?_ ?_
      ·
        omega
      ·
        trivial
      ·
        simp [hb11, hx, ex, hfl, hfs, wrap_in (x := (k : Int) + 1) (by omega) (by omega)] <;> try omega
    ·
      replace hb11 := of_decide_eq_false hb11
      have hff := fill_full dI (.list []) m k (by omega)
      refine VW.exit ?_
      refine hK1 _ ?_
      -- region 6
      refine VW.es tau_ok Sound.none [some 22, some 2] [2] rfl fun K hK => ?_
      simp [hb11, hff]
      refine hK _ ?_
      clear hK K
      refine VW.ret ?_
      simp [Post, Nx, Bk, hb11, hff] <;> try omega

end Go.Vam
