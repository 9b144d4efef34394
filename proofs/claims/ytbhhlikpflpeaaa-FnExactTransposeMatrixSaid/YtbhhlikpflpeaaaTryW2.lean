import Derived.Test.YtbhhlikpflpeaaaTryW1
namespace Go.Vam
open Go Go.RowKit Go.Proofs
set_option maxRecDepth 100000
set_option linter.unusedSimpArgs false
set_option linter.unusedVariables false

theorem toM (m : List (List Int)) (hl : m.length ≤ 1048576) (hr : ∀ r ∈ m, r.length ≤ 1048576) :
    VCall Try.prog 11 [dM m] [.own true (dM m)] := by
  refine VCall.enter Try.call11 Try.func11 rfl 23 Try.ntmps11 (by simp) [.tmp 2] rfl ?_
  -- region 0
  refine VW.es tau_ok Sound.none [some 2] [0] rfl fun K hK => ?_
  simp
  refine hK _ ?_
  clear hK K
  -- region 1
  refine VW.es tau_ok Sound.none [some 5, some 6, some 7, some 3] [0, 3] rfl fun K hK => ?_
  simp [show ((m.length : Int) ≤ 1099511627776) by omega]
  refine hK _ ?_
  clear hK K
  refine VW.sq fun K1 hK1 => ?_
  -- region 2
  refine VW.es tau_ok Sound.none [some 4] [0, 3, 4] rfl fun K hK => ?_
  simp
  refine hK _ ?_
  clear hK K
  refine VW.block ?_
  refine VW.frL [3, 4, 0] fun K hK => ?_
  simp
  refine hK _ ?_
  clear hK K
  rw [fill_zero dI (.list []) m]
  refine VW.loopN (m.length) (fun k => [(3, .ref 3 [] true (.list (fillL dI (.list []) m k))), (4, .val (i64 k))]) (fun k => True) rfl ?_ ?_
  ·
    trivial
  ·
    intro k hk hF0
    refine VW.sq fun K2 hK2 => ?_
    -- region 3
    refine VW.vs tau_ok Sound.none [some 8, some 9, some 10, some 11] [(11, .val (.bool (decide (k < m.length))))] [0, 3, 4] rfl ?_ ?_
    ·
      simp <;> try omega
    refine VW.cond rfl (fun hb11 => ?_) (fun hb11 => ?_)
    ·
      replace hb11 := of_decide_eq_true hb11
      obtain ⟨x, hx, ex⟩ := at_ hb11
      have hfl := fill_len dI (.list []) m k hk
      have hfs := fill_set dI (.list []) m k x hx
      refine VW.skip ?_
      refine hK2 _ ?_
      refine VW.sq fun K3 hK3 => ?_
      refine VW.block ?_
      -- region 5
      refine VW.er tau_ok (Sound.none.add 20 (toI x (hr _ (List.mem_of_getElem? hx))) rfl) [some 14, some 15, some 16, some 17, some 18, some 19, some 20, some 21, none] [3, 4, 0] rfl fun K hK => ?_
      simp [hb11, hx, ex, hfl, hfs, wrap_in (x := (k : Int) + 1) (by omega) (by omega)]
      refine hK _ ?_
      clear hK K
      refine hK3 _ ?_
      -- region 4
      refine VW.er tau_ok Sound.none [some 12, some 13, some 4] [3, 4, 0] rfl fun K hK => ?_
      simp [hb11, hx, ex, hfl, hfs, wrap_in (x := (k : Int) + 1) (by omega) (by omega)]
      refine hK _ ?_
      clear hK K
      refine and3 ?_ ?_ ?_
      ·
        omega
      ·
        trivial
      ·
        simp [hb11, hx, ex, hfl, hfs, wrap_in (x := (k : Int) + 1) (by omega) (by omega)] <;> try omega
    ·
      replace hb11 := of_decide_eq_false hb11
      have hff := fill_full dI (.list []) m k (by omega)
      refine VW.exit ?_
      refine hK1 _ ?_
      -- region 6
      refine VW.es tau_ok Sound.none [some 22, some 2] [2] rfl fun K hK => ?_
      simp [hb11, hff]
      refine hK _ ?_
      clear hK K
      refine VW.ret ?_
      simp [Post, PostM, Nx, Bk, hb11, hff] <;> try omega

theorem szM (m : List (List Int)) (left : Int) (hl : m.length ≤ 9223372036854775807) (hr : ∀ r ∈ m, r.length ≤ 9223372036854775807) (h0 : 0 ≤ left) (h1 : left ≤ 1048576) :
    VCall Try.prog 9 [dM m, i64 left] [.sc (.int .i64 (szv (m.length + rowsum m) left))] := by
  refine VCall.enter Try.call9 Try.func9 rfl 27 Try.ntmps9 (by simp) [.tmp 4] rfl ?_
  -- region 0
  refine VW.es tau_ok Sound.none [some 4] [0, 1] rfl fun K hK => ?_
  simp
  refine hK _ ?_
  clear hK K
  -- region 1
  refine VW.es tau_ok Sound.none [some 6, some 7, some 8, some 9, some 1] [0, 1] rfl fun K hK => ?_
  simp [wrap_in (x := left - m.length) (by omega) (by omega)]
  refine hK _ ?_
  clear hK K
  refine VW.sq fun K1 hK1 => ?_
  -- region 2
  refine VW.vs tau_ok Sound.none [some 10, some 11] [(11, .val (.bool (decide (left - m.length < 0))))] [0, 1] rfl ?_ ?_
  ·
    simp <;> try omega
  refine VW.cond rfl (fun hb11 => ?_) (fun hb11 => ?_)
  ·
    replace hb11 := of_decide_eq_true hb11
    have hs : szv (m.length + rowsum m) left = -1 := by unfold szv; rw [if_neg (by omega)]
    -- region 3
    refine VW.es tau_ok Sound.none [some 4] [4] rfl fun K hK => ?_
    simp [hb11, hs]
    refine hK _ ?_
    clear hK K
    refine VW.ret ?_
    simp [Post, PostM, Nx, Bk, hb11, hs] <;> try omega
  ·
    replace hb11 := of_decide_eq_false hb11
    refine VW.skip ?_
    refine hK1 _ ?_
    refine VW.sq fun K2 hK2 => ?_
    -- region 4
    refine VW.es tau_ok Sound.none [some 5] [0, 1, 5] rfl fun K hK => ?_
    simp [hb11]
    refine hK _ ?_
    clear hK K
    refine VW.block ?_
    refine VW.frL [1, 5, 0] fun K hK => ?_
    simp
    refine hK _ ?_
    clear hK K
    have e0 : left - m.length = left - m.length - rowsum (m.take 0) := by simp [rowsum]
    rw [e0]
    refine VW.loopN (m.length) (fun k => [(1, .val (i64 (left - m.length - rowsum (m.take k)))), (5, .val (i64 k))]) (fun k => 0 ≤ left - m.length - rowsum (m.take k)) rfl ?_ ?_
    ·
      simp [rowsum]; omega
    ·
      intro k hk hF0
      refine VW.sq fun K3 hK3 => ?_
      -- region 5
      refine VW.vs tau_ok Sound.none [some 12, some 13, some 14, some 15] [(15, .val (.bool (decide (k < m.length))))] [0, 1, 5] rfl ?_ ?_
      ·
        simp [hb11] <;> try omega
      refine VW.cond rfl (fun hb15 => ?_) (fun hb15 => ?_)
      ·
        replace hb15 := of_decide_eq_true hb15
        obtain ⟨x, hx, ex⟩ := at_ hb15
        have hst := rowsum_take hx
        have hsl := rowsum_le m (k + 1)
        have hxl := hr _ (List.mem_of_getElem? hx)
        refine VW.skip ?_
        refine hK3 _ ?_
        refine VW.sq fun K4 hK4 => ?_
        refine VW.block ?_
        -- region 7
        refine VW.vs tau_ok (Sound.none.add 23 (szI x (left - m.length - rowsum (m.take k)) hxl hF0 (by omega)) rfl) [some 18, some 19, some 20, some 21, some 22, some 23, some 1] [(1, .val (i64 (szv x.length (left - m.length - rowsum (m.take k)))))] [0, 5] rfl ?_ ?_
        ·
          simp [hb11, hb15, hx, ex, wrap_in (x := (k : Int) + 1) (by omega) (by omega)] <;> try omega
        have hsv : szv x.length (left - m.length - rowsum (m.take k)) < 0 ↔ left - m.length - rowsum (m.take (k + 1)) < 0 := by unfold szv; split <;> omega
        -- region 8
        refine VW.vs tau_ok Sound.none [some 24, some 25] [(25, .val (.bool (decide (left - m.length - rowsum (m.take (k + 1)) < 0))))] [0, 1, 5] rfl ?_ ?_
        ·
          simp [hsv, hb11, hb15, hx, ex, wrap_in (x := (k : Int) + 1) (by omega) (by omega)] <;> try omega
        refine VW.cond rfl (fun hb25 => ?_) (fun hb25 => ?_)
        ·
          replace hb25 := of_decide_eq_true hb25
          have hs : szv (m.length + rowsum m) left = -1 := by unfold szv; rw [if_neg (by omega)]
          -- region 9
          refine VW.es tau_ok Sound.none [some 4] [4] rfl fun K hK => ?_
          simp [hb11, hb15, hx, ex, wrap_in (x := (k : Int) + 1) (by omega) (by omega), hb25, hs]
          refine hK _ ?_
          clear hK K
          refine VW.ret ?_
          simp [Post, PostM, Nx, Bk, hb11, hb15, hx, ex, wrap_in (x := (k : Int) + 1) (by omega) (by omega), hb25, hs] <;> try omega
        ·
          replace hb25 := of_decide_eq_false hb25
          have hle : szv x.length (left - m.length - rowsum (m.take k)) = left - m.length - rowsum (m.take (k + 1)) := by unfold szv; rw [if_pos (by omega)]; omega
          refine VW.skip ?_
          refine hK4 _ ?_
          -- region 6
          refine VW.er tau_ok Sound.none [some 16, some 17, some 5] [1, 5, 0] rfl fun K hK => ?_
          simp [hb11, hb15, hx, ex, wrap_in (x := (k : Int) + 1) (by omega) (by omega), hb25, hle]
          refine hK _ ?_
          clear hK K
          refine and3 ?_ ?_ ?_
          ·
            omega
          ·
            rw [rowsum_take hx]; omega
          ·
            simp [hb11, hb15, hx, ex, wrap_in (x := (k : Int) + 1) (by omega) (by omega), hb25, hle] <;> try omega
      ·
        replace hb15 := of_decide_eq_false hb15
        have hk0 : m.take k = m := List.take_of_length_le (by omega)
        rw [hk0] at hF0
        have hs : szv (m.length + rowsum m) left = left - m.length - rowsum m := by unfold szv; rw [if_pos (by omega)]; omega
        refine VW.exit ?_
        refine hK2 _ ?_
        -- region 10
        refine VW.es tau_ok Sound.none [some 26, some 4] [4] rfl fun K hK => ?_
        simp [hb11, hb15, hk0, hs]
        refine hK _ ?_
        clear hK K
        refine VW.ret ?_
        simp [Post, PostM, Nx, Bk, hb11, hb15, hk0, hs] <;> try omega

theorem eqI (a b : List Int) (hl : a.length ≤ 9223372036854775807) :
    VCall Try.prog 23 [dI a, dI b] [.sc (.bool (decide (a = b)))] := by
  refine VCall.enter Try.call23 Try.func23 rfl 26 Try.ntmps23 (by simp) [.tmp 4] rfl ?_
  -- region 0
  refine VW.es tau_ok Sound.none [some 4] [0, 1] rfl fun K hK => ?_
  simp
  refine hK _ ?_
  clear hK K
  refine VW.sq fun K1 hK1 => ?_
  -- region 1
  refine VW.vs tau_ok Sound.none [some 6, some 7, some 8, some 9, some 10] [(10, .val (.bool (decide (¬ a.length = b.length))))] [0, 1] rfl ?_ ?_
  ·
    simp <;> try omega
  refine VW.cond rfl (fun hb10 => ?_) (fun hb10 => ?_)
  ·
    replace hb10 := of_decide_eq_true hb10
    have hs : a ≠ b := fun e => hb10 (by rw [e])
    -- region 2
    refine VW.es tau_ok Sound.none [some 4] [4] rfl fun K hK => ?_
    simp [hb10, hs]
    refine hK _ ?_
    clear hK K
    refine VW.ret ?_
    simp [Post, PostM, Nx, Bk, hb10, hs] <;> try omega
  ·
    replace hb10 := of_decide_eq_false hb10
    simp only [Decidable.not_not] at hb10
    refine VW.skip ?_
    refine hK1 _ ?_
    refine VW.sq fun K2 hK2 => ?_
    -- region 3
    refine VW.es tau_ok Sound.none [some 5] [0, 1, 5] rfl fun K hK => ?_
    simp
    refine hK _ ?_
    clear hK K
    refine VW.block ?_
    refine VW.frL [5, 0, 1] fun K hK => ?_
    simp
    refine hK _ ?_
    clear hK K
    refine VW.loopN (a.length) (fun k => [(5, .val (i64 k))]) (fun k => a.take k = b.take k) rfl ?_ ?_
    ·
      simp
    ·
      intro k hk hF0
      refine VW.sq fun K3 hK3 => ?_
      -- region 4
      refine VW.vs tau_ok Sound.none [some 11, some 12, some 13, some 14] [(14, .val (.bool (decide (k < a.length))))] [0, 1, 5] rfl ?_ ?_
      ·
        simp <;> try omega
      refine VW.cond rfl (fun hb14 => ?_) (fun hb14 => ?_)
      ·
        replace hb14 := of_decide_eq_true hb14
        obtain ⟨x, hx, ex⟩ := at_ hb14
        have hb14' : k < b.length := by omega
        obtain ⟨y, hy, ey⟩ := at_ hb14'
        refine VW.skip ?_
        refine hK3 _ ?_
        refine VW.sq fun K4 hK4 => ?_
        refine VW.block ?_
        -- region 6
        refine VW.vds tau_ok Sound.none try_mixed [some 17, some 18, some 19, some 20, some 21, some 22, some 23, some 24, some 25] [(25, .val (.bool (decide (¬ x = y))))] [0, 1, 5] 9 rfl (by kernel_rfl) (by rfl) ?_ ?_
        ·
          simp [hb14, hx, ex, hb14', hy, ey, wrap_in (x := (k : Int) + 1) (by omega) (by omega)] <;> try omega
        refine VW.cond rfl (fun hb25 => ?_) (fun hb25 => ?_)
        ·
          replace hb25 := of_decide_eq_true hb25
          have hs : a ≠ b := ne_at hx hy hb25
          -- region 7
          refine VW.es tau_ok Sound.none [some 4] [4] rfl fun K hK => ?_
          simp [hb14, hx, ex, hb14', hy, ey, wrap_in (x := (k : Int) + 1) (by omega) (by omega), hb25, hs]
          refine hK _ ?_
          clear hK K
          refine VW.ret ?_
          simp [Post, PostM, Nx, Bk, hb14, hx, ex, hb14', hy, ey, wrap_in (x := (k : Int) + 1) (by omega) (by omega), hb25, hs] <;> try omega
        ·
          replace hb25 := of_decide_eq_false hb25
          simp only [Decidable.not_not] at hb25
          refine VW.skip ?_
          refine hK4 _ ?_
          -- region 5
          refine VW.er tau_ok Sound.none [some 15, some 16, some 5] [5, 0, 1] rfl fun K hK => ?_
          simp [hb14, hx, ex, hb14', hy, ey, wrap_in (x := (k : Int) + 1) (by omega) (by omega), hb25]
          refine hK _ ?_
          clear hK K
          refine and3 ?_ ?_ ?_
          ·
            omega
          ·
            exact take_eq_at hx hy hF0 hb25
          ·
            simp [hb14, hx, ex, hb14', hy, ey, wrap_in (x := (k : Int) + 1) (by omega) (by omega), hb25] <;> try omega
      ·
        replace hb14 := of_decide_eq_false hb14
        have hs : a = b := eq_full hb10 (by omega) hF0
        refine VW.exit ?_
        refine hK2 _ ?_
        -- region 8
        refine VW.es tau_ok Sound.none [some 4] [4] rfl fun K hK => ?_
        simp [hb14, hs]
        refine hK _ ?_
        clear hK K
        refine VW.ret ?_
        simp [Post, PostM, Nx, Bk, hb14, hs] <;> try omega

theorem eqM (a b : List (List Int)) (hl : a.length ≤ 9223372036854775807) (hr : ∀ r ∈ a, r.length ≤ 9223372036854775807) :
    VCall Try.prog 13 [dM a, dM b] [.sc (.bool (decide (a = b)))] := by
  refine VCall.enter Try.call13 Try.func13 rfl 27 Try.ntmps13 (by simp) [.tmp 4] rfl ?_
  -- region 0
  refine VW.es tau_ok Sound.none [some 4] [0, 1] rfl fun K hK => ?_
  simp
  refine hK _ ?_
  clear hK K
  refine VW.sq fun K1 hK1 => ?_
  -- region 1
  refine VW.vs tau_ok Sound.none [some 6, some 7, some 8, some 9, some 10] [(10, .val (.bool (decide (¬ a.length = b.length))))] [0, 1] rfl ?_ ?_
  ·
    simp <;> try omega
  refine VW.cond rfl (fun hb10 => ?_) (fun hb10 => ?_)
  ·
    replace hb10 := of_decide_eq_true hb10
    have hs : a ≠ b := fun e => hb10 (by rw [e])
    -- region 2
    refine VW.es tau_ok Sound.none [some 4] [4] rfl fun K hK => ?_
    simp [hb10, hs]
    refine hK _ ?_
    clear hK K
    refine VW.ret ?_
    simp [Post, PostM, Nx, Bk, hb10, hs] <;> try omega
  ·
    replace hb10 := of_decide_eq_false hb10
    simp only [Decidable.not_not] at hb10
    refine VW.skip ?_
    refine hK1 _ ?_
    refine VW.sq fun K2 hK2 => ?_
    -- region 3
    refine VW.es tau_ok Sound.none [some 5] [0, 1, 5] rfl fun K hK => ?_
    simp
    refine hK _ ?_
    clear hK K
    refine VW.block ?_
    refine VW.frL [5, 0, 1] fun K hK => ?_
    simp
    refine hK _ ?_
    clear hK K
    refine VW.loopN (a.length) (fun k => [(5, .val (i64 k))]) (fun k => a.take k = b.take k) rfl ?_ ?_
    ·
      simp
    ·
      intro k hk hF0
      refine VW.sq fun K3 hK3 => ?_
      -- region 4
      refine VW.vs tau_ok Sound.none [some 11, some 12, some 13, some 14] [(14, .val (.bool (decide (k < a.length))))] [0, 1, 5] rfl ?_ ?_
      ·
        simp <;> try omega
      refine VW.cond rfl (fun hb14 => ?_) (fun hb14 => ?_)
      ·
        replace hb14 := of_decide_eq_true hb14
        obtain ⟨x, hx, ex⟩ := at_ hb14
        have hb14' : k < b.length := by omega
        obtain ⟨y, hy, ey⟩ := at_ hb14'
        refine VW.skip ?_
        refine hK3 _ ?_
        refine VW.sq fun K4 hK4 => ?_
        refine VW.block ?_
        -- region 6
        refine VW.vds tau_ok (Sound.none.add 25 (eqI x y (hr _ (List.mem_of_getElem? hx))) rfl) try_mixed [some 17, some 18, some 19, some 20, some 21, some 22, some 23, some 24, some 25, some 26] [(26, .val (.bool (decide (¬ x = y))))] [0, 1, 5] 10 rfl (by kernel_rfl) (by rfl) ?_ ?_
        ·
          simp [hb14, hx, ex, hb14', hy, ey, wrap_in (x := (k : Int) + 1) (by omega) (by omega)] <;> try omega
        refine VW.cond rfl (fun hb26 => ?_) (fun hb26 => ?_)
        ·
          replace hb26 := of_decide_eq_true hb26
          have hs : a ≠ b := ne_at hx hy hb26
          -- region 7
          refine VW.es tau_ok Sound.none [some 4] [4] rfl fun K hK => ?_
          simp [hb14, hx, ex, hb14', hy, ey, wrap_in (x := (k : Int) + 1) (by omega) (by omega), hb26, hs]
          refine hK _ ?_
          clear hK K
          refine VW.ret ?_
          simp [Post, PostM, Nx, Bk, hb14, hx, ex, hb14', hy, ey, wrap_in (x := (k : Int) + 1) (by omega) (by omega), hb26, hs] <;> try omega
        ·
          replace hb26 := of_decide_eq_false hb26
          simp only [Decidable.not_not] at hb26
          refine VW.skip ?_
          refine hK4 _ ?_
          -- region 5
          refine VW.er tau_ok Sound.none [some 15, some 16, some 5] [5, 0, 1] rfl fun K hK => ?_
          simp [hb14, hx, ex, hb14', hy, ey, wrap_in (x := (k : Int) + 1) (by omega) (by omega), hb26]
          refine hK _ ?_
          clear hK K
          refine and3 ?_ ?_ ?_
          ·
            omega
          ·
            exact take_eq_at hx hy hF0 hb26
          ·
            simp [hb14, hx, ex, hb14', hy, ey, wrap_in (x := (k : Int) + 1) (by omega) (by omega), hb26] <;> try omega
      ·
        replace hb14 := of_decide_eq_false hb14
        have hs : a = b := eq_full hb10 (by omega) hF0
        refine VW.exit ?_
        refine hK2 _ ?_
        -- region 8
        refine VW.es tau_ok Sound.none [some 4] [4] rfl fun K hK => ?_
        simp [hb14, hs]
        refine hK _ ?_
        clear hK K
        refine VW.ret ?_
        simp [Post, PostM, Nx, Bk, hb14, hs] <;> try omega

theorem l02Is (p : Int) (m : List (List Int)) (hl : m.length ≤ 1048576) (hr : ∀ r ∈ m, r.length ≤ 1048576) :
    VCall Try.prog 31 [i64 p, dM m] [.sc (.bool (isMat p m))] := by
  refine VCall.enter Try.call31 Try.func31 rfl 58 Try.ntmps31 (by simp) [.tmp 4] rfl ?_
  -- region 0
  refine VW.es tau_ok Sound.none [some 4] [0, 1] rfl fun K hK => ?_
  simp
  refine hK _ ?_
  clear hK K
  refine VW.sq fun K1 hK1 => ?_
  -- region 1
  refine VW.vs tau_ok (Sound.none.add 7 (l01Prime p) rfl) [some 6, some 7, some 8, some 9, some 10, some 11, some 12, some 13, some 14, some 15, some 16, some 17, some 18, some 19, some 20, some 21, some 22, some 23, some 24, some 25, some 26, some 27, some 28, some 29, some 30, some 31, some 32] [(32, .val (.bool (decide (preM p m = false))))] [0, 1] rfl ?_ ?_
  ·
    by_cases hg0 : isP p = false
    ·
      simp [preM, hg0] <;> try omega
    ·
      by_cases hg1 : (m.length : Int) < 1
      ·
        have hm : m = [] := List.eq_nil_of_length_eq_zero (by omega)
        simp [preM, hg0, hg1, hm] <;> try omega
      ·
        have hm0 : 0 < m.length := by omega
        obtain ⟨r, hr0, er0⟩ := at_ hm0
        by_cases hg2 : (16 : Int) < m.length
        ·
          simp [preM, hg0, hg1, hm0, hr0, er0, hg2] <;> try omega
        ·
          by_cases hg3 : (r.length : Int) < 1
          ·
            have hm : r = [] := List.eq_nil_of_length_eq_zero (by omega)
            simp [preM, hg0, hg1, hm0, hr0, er0, hg2, hg3, hm] <;> try omega
          ·
            by_cases hg4 : (16 : Int) < r.length
            ·
              simp [preM, hg0, hg1, hm0, hr0, er0, hg2, hg3, hg4] <;> try omega
            ·
              simp [preM, hg0, hg1, hm0, hr0, er0, hg2, hg3, hg4] <;> try omega
  refine VW.cond rfl (fun hb32 => ?_) (fun hb32 => ?_)
  ·
    replace hb32 := of_decide_eq_true hb32
    have hs : isMat p m = false := by rw [isMat_eq, hb32]; rfl
    -- region 2
    refine VW.es tau_ok Sound.none [some 4] [4] rfl fun K hK => ?_
    simp [hb32, hs]
    refine hK _ ?_
    clear hK K
    refine VW.ret ?_
    simp [Post, PostM, Nx, Bk, hb32, hs] <;> try omega
  ·
    replace hb32 := of_decide_eq_false hb32
    simp only [Bool.not_eq_false] at hb32
    have hpre := hb32
    simp only [preM, Bool.and_eq_true, decide_eq_true_eq] at hpre
    obtain ⟨⟨⟨⟨hP, hm1⟩, hm2⟩, hr1⟩, hr2⟩ := hpre
    obtain ⟨hp3, hp13⟩ := isP_le hP
    obtain ⟨r, hr0, er0⟩ := at_ (show 0 < m.length by omega)
    have er1 : m.getD 0 [] = r := by simp [hr0]
    have hm0 : 0 < m.length := hm1
    rw [er1] at hr1 hr2
    refine VW.skip ?_
    refine hK1 _ ?_
    refine VW.sq fun K2 hK2 => ?_
    -- region 3
    refine VW.es tau_ok Sound.none [some 5] [0, 1, 5] rfl fun K hK => ?_
    simp [hm0, hr0, er0]
    refine hK _ ?_
    clear hK K
    refine VW.block ?_
    refine VW.frL [5, 0, 1] fun K hK => ?_
    simp
    refine hK _ ?_
    clear hK K
    refine VW.loopN (m.length) (fun k => [(5, .val (i64 k))]) (fun k => (m.take k).all (okRow p r.length) = true) rfl ?_ ?_
    ·
      simp
    ·
      intro k hk hF0
      refine VW.sq fun K3 hK3 => ?_
      -- region 4
      refine VW.vs tau_ok Sound.none [some 33, some 34, some 35, some 36] [(36, .val (.bool (decide (k < m.length))))] [0, 1, 5] rfl ?_ ?_
      ·
        simp [hm0, hr0, er0] <;> try omega
      refine VW.cond rfl (fun hb36 => ?_) (fun hb36 => ?_)
      ·
        replace hb36 := of_decide_eq_true hb36
        obtain ⟨x, hx, ex⟩ := at_ hb36
        refine VW.skip ?_
        refine hK3 _ ?_
        refine VW.sq fun K4 hK4 => ?_
        refine VW.block ?_
        -- region 6
        refine VW.vds tau_ok (Sound.none.add 55 (l01Numbers p x (by omega) (by omega) (hr _ (List.mem_of_getElem? hx))) rfl) try_mixed [some 39, some 40, some 41, some 42, some 43, some 44, some 45, some 46, some 47, some 48, some 49, some 50, some 51, some 52, some 53, some 54, some 55, some 56, some 57] [(57, .val (.bool (decide (okRow p r.length x = false))))] [0, 1, 5] 19 rfl (by kernel_rfl) (by rfl) ?_ ?_
        ·
          by_cases hg0 : x.length = r.length
          rotate_left
          ·
            simp [okRow, hm0, hr0, er0, hb36, hx, ex, wrap_in (x := (k : Int) + 1) (by omega) (by omega), hg0] <;> try omega
          ·
            simp [okRow, hm0, hr0, er0, hb36, hx, ex, wrap_in (x := (k : Int) + 1) (by omega) (by omega), hg0] <;> try omega
        refine VW.cond rfl (fun hb57 => ?_) (fun hb57 => ?_)
        ·
          replace hb57 := of_decide_eq_true hb57
          have hall : isMat p m = false := by rw [isMat_eq, er1, all_false_at hx hb57]; simp
          -- region 7
          refine VW.es tau_ok Sound.none [some 4] [4] rfl fun K hK => ?_
          simp [hm0, hr0, er0, hb36, hx, ex, wrap_in (x := (k : Int) + 1) (by omega) (by omega), hb57, hall]
          refine hK _ ?_
          clear hK K
          refine VW.ret ?_
          simp [Post, PostM, Nx, Bk, hm0, hr0, er0, hb36, hx, ex, wrap_in (x := (k : Int) + 1) (by omega) (by omega), hb57, hall] <;> try omega
        ·
          replace hb57 := of_decide_eq_false hb57
          simp only [Bool.not_eq_false] at hb57
          refine VW.skip ?_
          refine hK4 _ ?_
          -- region 5
          refine VW.er tau_ok Sound.none [some 37, some 38, some 5] [5, 0, 1] rfl fun K hK => ?_
          simp [hm0, hr0, er0, hb36, hx, ex, wrap_in (x := (k : Int) + 1) (by omega) (by omega), hb57]
          refine hK _ ?_
          clear hK K
          refine and3 ?_ ?_ ?_
          ·
            omega
          ·
            exact all_take hx hF0 hb57
          ·
            simp [hm0, hr0, er0, hb36, hx, ex, wrap_in (x := (k : Int) + 1) (by omega) (by omega), hb57] <;> try omega
      ·
        replace hb36 := of_decide_eq_false hb36
        have hall : isMat p m = true := by rw [isMat_eq, er1, all_full (by omega) hF0, hb32]; rfl
        refine VW.exit ?_
        refine hK2 _ ?_
        -- region 8
        refine VW.es tau_ok Sound.none [some 4] [4] rfl fun K hK => ?_
        simp [hm0, hr0, er0, hb36, hall]
        refine hK _ ?_
        clear hK K
        refine VW.ret ?_
        simp [Post, PostM, Nx, Bk, hm0, hr0, er0, hb36, hall] <;> try omega

theorem sIsMatrix (p : Int) (m : List (List Int)) (hl : m.length ≤ 1048576) (hr : ∀ r ∈ m, r.length ≤ 1048576) :
    VCall Try.prog 10 [i64 p, dM m] [.sc (.bool (isMat p m))] := by
  refine VCall.enter Try.call10 Try.func10 rfl 8 Try.ntmps10 (by simp) [.tmp 4] rfl ?_
  -- region 0
  refine VW.es tau_ok Sound.none [some 4] [0, 1] rfl fun K hK => ?_
  simp
  refine hK _ ?_
  clear hK K
  -- region 1
  refine VW.es tau_ok (Sound.none.add 7 (l02Is p m hl hr) rfl) [some 5, some 6, some 7, some 4] [4] rfl fun K hK => ?_
  simp
  refine hK _ ?_
  clear hK K
  refine VW.ret ?_
  simp [Post, PostM, Nx, Bk] <;> try omega

theorem isTable (p : Int) (m : List (List Int)) (hp : -9223372036854775808 < p) (hp1 : p ≤ 9223372036854775807) (hl : m.length ≤ 1048576) (hr : ∀ r ∈ m, r.length ≤ 1048576) :
    VCall Try.prog 50 [i64 p, dM m] [.sc (.bool (isTab p m))] := by
  refine VCall.enter Try.call50 Try.func50 rfl 40 Try.ntmps50 (by simp) [.tmp 4] rfl ?_
  -- region 0
  refine VW.es tau_ok Sound.none [some 4] [0, 1] rfl fun K hK => ?_
  simp
  refine hK _ ?_
  clear hK K
  refine VW.sq fun K1 hK1 => ?_
  -- region 1
  refine VW.vs tau_ok Sound.none [some 7, some 8, some 9] [(9, .val (.bool (decide (16 < (m.length : Int)))))] [0, 1] rfl ?_ ?_
  ·
    simp <;> try omega
  refine VW.cond rfl (fun hb9 => ?_) (fun hb9 => ?_)
  ·
    replace hb9 := of_decide_eq_true hb9
    have hs : isTab p m = false := by unfold isTab; rw [decide_eq_false (by omega)]; rfl
    -- region 2
    refine VW.es tau_ok Sound.none [some 4] [4] rfl fun K hK => ?_
    simp [hb9, hs]
    refine hK _ ?_
    clear hK K
    refine VW.ret ?_
    simp [Post, PostM, Nx, Bk, hb9, hs] <;> try omega
  ·
    replace hb9 := of_decide_eq_false hb9
    have hs : isTab p m = m.all (tabRow p (m.getD 0 []).length) := by unfold isTab; rw [decide_eq_true (by omega)]; rfl
    refine VW.skip ?_
    refine hK1 _ ?_
    refine VW.sq fun K2 hK2 => ?_
    -- region 3
    refine VW.es tau_ok Sound.none [some 10, some 11, some 12] [0, 1, 10, 11, 12] rfl fun K hK => ?_
    simp
    refine hK _ ?_
    clear hK K
    refine VW.block ?_
    refine VW.frL [12, 0, 1, 10, 11] fun K hK => ?_
    simp
    refine hK _ ?_
    clear hK K
    refine VW.loopN (m.length) (fun k => [(12, .val (i64 k))]) (fun k => (m.take k).all (tabRow p (m.getD 0 []).length) = true) rfl ?_ ?_
    ·
      simp
    ·
      intro k hk hF0
      -- region 4
      refine VW.vs tau_ok Sound.none [some 13] [(13, .val (.bool (decide (k < m.length))))] [0, 1, 10, 11, 12] rfl ?_ ?_
      ·
        simp <;> try omega
      refine VW.sq fun K3 hK3 => ?_
      refine VW.cond rfl (fun hb13 => ?_) (fun hb13 => ?_)
      ·
        replace hb13 := of_decide_eq_true hb13
        obtain ⟨x, hx, ex⟩ := at_ hb13
        obtain ⟨r, hr0, er0⟩ := at_ (show 0 < m.length by omega)
        have er1 : m.getD 0 [] = r := by simp [hr0]
        have hm0 : 0 < m.length := by omega
        refine VW.skip ?_
        refine hK3 _ ?_
        refine VW.sq fun K4 hK4 => ?_
        refine VW.block ?_
        -- region 5
        refine VW.es tau_ok Sound.none [some 14, some 15, some 6] [0, 1, 6, 10, 11, 12] rfl fun K hK => ?_
        simp [hb13, hx, ex, hm0, hr0, er0, wrap_in (x := (k : Int) + 1) (by omega) (by omega)]
        refine hK _ ?_
        clear hK K
        -- region 6
        refine VW.vs tau_ok (Sound.none.add 36 (fis p x hp hp1 (hr _ (List.mem_of_getElem? hx))) rfl) [some 16, some 17, some 18, some 19, some 20, some 21, some 22, some 23, some 24, some 25, some 26, some 27, some 28, some 29, some 30, some 31, some 32, some 33, some 34, some 35, some 36, some 37, some 38] [(38, .val (.bool (decide (tabRow p r.length x = false))))] [0, 1, 10, 11, 12] rfl ?_ ?_
        ·
          by_cases hg0 : x.length = r.length
          rotate_left
          ·
            simp [tabRow, hb13, hx, ex, hm0, hr0, er0, wrap_in (x := (k : Int) + 1) (by omega) (by omega), hg0] <;> try omega
          ·
            by_cases hg1 : (r.length : Int) < 1
            ·
              have hm : r = [] := List.eq_nil_of_length_eq_zero (by omega)
              simp [tabRow, hb13, hx, ex, hm0, hr0, er0, wrap_in (x := (k : Int) + 1) (by omega) (by omega), hg0, hg1, hm] <;> try omega
            ·
              by_cases hg2 : 16 < (r.length : Int)
              ·
                simp [tabRow, hb13, hx, ex, hm0, hr0, er0, wrap_in (x := (k : Int) + 1) (by omega) (by omega), hg0, hg1, hg2] <;> try omega
              ·
                have hc1 : 1 ≤ r.length := by omega
                have hc2 : r.length ≤ 16 := by omega
                simp [tabRow, hb13, hx, ex, hm0, hr0, er0, wrap_in (x := (k : Int) + 1) (by omega) (by omega), hg0, hg1, hg2, hc1, hc2] <;> try omega
        refine VW.cond rfl (fun hb38 => ?_) (fun hb38 => ?_)
        ·
          replace hb38 := of_decide_eq_true hb38
          have hall : isTab p m = false := by rw [hs, er1, all_false_at hx hb38]
          -- region 7
          refine VW.es tau_ok Sound.none [some 4] [4] rfl fun K hK => ?_
          simp [hb13, hx, ex, hm0, hr0, er0, wrap_in (x := (k : Int) + 1) (by omega) (by omega), hb38, hall]
          refine hK _ ?_
          clear hK K
          refine VW.ret ?_
          simp [Post, PostM, Nx, Bk, hb13, hx, ex, hm0, hr0, er0, wrap_in (x := (k : Int) + 1) (by omega) (by omega), hb38, hall] <;> try omega
        ·
          replace hb38 := of_decide_eq_false hb38
          simp only [Bool.not_eq_false] at hb38
          refine VW.skip ?_
          refine hK4 _ ?_
          -- region 8
          refine VW.er tau_ok Sound.none [some 39, some 12] [12, 0, 1, 10, 11] rfl fun K hK => ?_
          simp [hb13, hx, ex, hm0, hr0, er0, wrap_in (x := (k : Int) + 1) (by omega) (by omega), hb38]
          refine hK _ ?_
          clear hK K
          refine and3 ?_ ?_ ?_
          ·
            omega
          ·
            rw [er1]; exact all_take hx (er1 ▸ hF0) hb38
          ·
            simp [hb13, hx, ex, hm0, hr0, er0, wrap_in (x := (k : Int) + 1) (by omega) (by omega), hb38] <;> try omega
      ·
        replace hb13 := of_decide_eq_false hb13
        have hall : isTab p m = true := by rw [hs, all_full (by omega) hF0]
        refine VW.exit ?_
        refine hK2 _ ?_
        -- region 9
        refine VW.es tau_ok Sound.none [some 4] [4] rfl fun K hK => ?_
        simp [hb13, hall]
        refine hK _ ?_
        clear hK K
        refine VW.ret ?_
        simp [Post, PostM, Nx, Bk, hb13, hall] <;> try omega

theorem fIsMatrix (p : Int) (m : List (List Int)) (hp : -9223372036854775808 < p) (hp1 : p ≤ 9223372036854775807) (hl : m.length ≤ 1048576) (hr : ∀ r ∈ m, r.length ≤ 1048576) :
    VCall Try.prog 33 [i64 p, dM m] [.sc (.bool (decide (0 < m.length) && isTab p m))] := by
  refine VCall.enter Try.call33 Try.func33 rfl 13 Try.ntmps33 (by simp) [.tmp 4] rfl ?_
  -- region 0
  refine VW.es tau_ok Sound.none [some 4] [0, 1] rfl fun K hK => ?_
  simp
  refine hK _ ?_
  clear hK K
  -- region 1
  refine VW.vs tau_ok (Sound.none.add 11 (isTable p m hp hp1 hl hr) rfl) [some 5, some 6, some 7, some 8, some 9, some 10, some 11, some 12, some 4] [(4, .val (.bool (decide (0 < m.length) && isTab p m)))] [] rfl ?_ ?_
  ·
    by_cases hg0 : 0 < m.length
    rotate_left
    ·
      simp [hg0] <;> try omega
    ·
      simp [hg0] <;> try omega
  refine VW.ret ?_
  simp [Post, PostM, Nx, Bk] <;> try omega
end Go.Vam
