import Derived.Test.YtbhhlikpflpeaaaTryW4
namespace Go.Vam
open Go Go.RowKit Go.Proofs
set_option maxRecDepth 100000
set_option linter.unusedSimpArgs false
set_option linter.unusedVariables false

theorem LawTraceOf (p : Int) (m : List (List Int)) (hl : m.length ≤ 9223372036854775807) (hr : ∀ r ∈ m, r.length ≤ 9223372036854775807) :
    VCall Try.prog 4 [i64 p, dM m] [.sc (.bool true)] := by
  refine VCall.enter Try.call4 Try.func4 rfl 44 Try.ntmps4 (by simp) [.tmp 4] rfl ?_
  -- region 0
  refine VW.es tau_ok Sound.none [some 4] [0, 1] rfl fun K hK => ?_
  simp
  refine hK _ ?_
  clear hK K
  -- region 1
  refine VW.es tau_ok Sound.none [some 5] [0, 1, 5] rfl fun K hK => ?_
  simp
  refine hK _ ?_
  clear hK K
  -- region 2
  refine VW.es tau_ok (Sound.none.add 13 (szM m 1048576 hl hr (by omega) (by omega))) [some 11, some 12, some 13, some 5] [0, 1, 5] rfl fun K hK => ?_
  simp
  refine hK _ ?_
  clear hK K
  have hsz : szv (m.length + rowsum m) 1048576 < 0 ↔ 1048576 < ((m.length + rowsum m : Nat) : Int) := by unfold szv; split <;> omega
  refine VW.sq fun K1 hK1 => ?_
  -- region 3
  refine VW.vs tau_ok Sound.none [some 14, some 15] [(15, .val (.bool (decide (1048576 < ((m.length + rowsum m : Nat) : Int)))))] [0, 1] rfl ?_ ?_
  ·
    simp [hsz] <;> try omega
  refine VW.cond rfl (fun hb15 => ?_) (fun hb15 => ?_)
  ·
    replace hb15 := of_decide_eq_true hb15
    -- region 4
    refine VW.es tau_ok Sound.none [some 4] [4] rfl fun K hK => ?_
    simp [hb15]
    refine hK _ ?_
    clear hK K
    refine VW.ret ?_
    simp [Post, Nx, Bk, hb15] <;> try omega
  ·
    replace hb15 := of_decide_eq_false hb15
    have hl' : m.length ≤ 1048576 := by omega
    have hr' : ∀ r ∈ m, r.length ≤ 1048576 := fun r h => by have := rowsum_mem h; omega
    refine VW.skip ?_
    refine hK1 _ ?_
    -- region 5
    refine VW.es tau_ok ((Sound.none.add 19 (toM m hl' hr')).add 20 (sTraceOf p m hl' hr')) [some 17, some 18, some 19, some 20, some 16, some 21, some 22, some 6, some 7] [0, 1, 6, 7] rfl fun K hK => ?_
    simp
    refine hK _ ?_
    clear hK K
    -- region 6
    refine VW.es tau_ok (Sound.none.add 24 (toM m hl' hr')) [some 23, some 24, some 8] [0, 1, 6, 7, 8] rfl fun K hK => ?_
    simp
    refine hK _ ?_
    clear hK K
    -- region 7
    refine VW.es tau_ok (Sound.none.add 28 (iTraceOf p m hl' hr')) [some 26, some 27, some 28, some 25, some 29, some 30, some 9, some 10] [1, 6, 7, 8, 9, 10] rfl fun K hK => ?_
    simp
    refine hK _ ?_
    clear hK K
    refine VW.sq fun K2 hK2 => ?_
    -- region 8
    refine VW.vs tau_ok Sound.none [some 31, some 32, some 33, some 34, some 35, some 36, some 37, some 38] [(38, .val (.bool (decide (False))))] [1, 8] rfl ?_ ?_
    ·
      simp <;> try omega
    refine VW.cond rfl (fun hb38 => ?_) (fun hb38 => ?_)
    ·
      replace hb38 := of_decide_eq_true hb38
      exact hb38.elim
    ·
      replace hb38 := of_decide_eq_false hb38
      refine VW.skip ?_
      refine hK2 _ ?_
      refine VW.sq fun K3 hK3 => ?_
      -- region 10
      refine VW.vs tau_ok ((Sound.none.add 41 (toM m hl' hr')).add 42 (eqM m m hl hr)) [some 39, some 40, some 41, some 42, some 43] [(43, .val (.bool (decide (False))))] [] rfl ?_ ?_
      ·
        simp <;> try omega
      refine VW.cond rfl (fun hb43 => ?_) (fun hb43 => ?_)
      ·
        replace hb43 := of_decide_eq_true hb43
        exact hb43.elim
      ·
        replace hb43 := of_decide_eq_false hb43
        refine VW.skip ?_
        refine hK3 _ ?_
        -- region 12
        refine VW.es tau_ok Sound.none [some 4] [4] rfl fun K hK => ?_
        simp
        refine hK _ ?_
        clear hK K
        refine VW.ret ?_
        simp [Post, Nx, Bk] <;> try omega
end Go.Vam
