import Derived.Test.YtbhhlikpflpeaaaTryT
import Derived.Test.YtbhhlikpflpeaaaPlD
namespace Go.Vam
open Go Go.RowKit Go.Proofs
set_option maxRecDepth 100000
set_option linter.unusedSimpArgs false
set_option linter.unusedVariables false

theorem l01In (n lo hi : Int) :
    VCall Try.prog 46 [i64 n, i64 lo, i64 hi] [.sc (.bool (inR lo hi n))] := by
  refine VCall.enter Try.call46 Try.func46 rfl 15 Try.ntmps46 (by simp) [.tmp 6] rfl ?_
  -- region 0
  refine VW.es tau_ok Sound.none [some 6] [0, 1, 2] rfl fun K hK => ?_
  simp
  refine hK _ ?_
  clear hK K
  -- region 1
  refine VW.vs tau_ok Sound.none [some 7, some 8, some 9, some 10, some 11, some 12, some 13, some 14, some 6] [(6, .val (.bool (inR lo hi n)))] [] rfl ?_ ?_
  ·
    by_cases hg0 : lo ≤ n
    rotate_left
    ·
      simp [inR, hg0] <;> try omega
    ·
      simp [inR, hg0] <;> try omega
  refine VW.ret ?_
  simp [Post, PostM, Nx, Bk] <;> try omega

theorem inRange (n lo hi : Int) :
    VCall Try.prog 55 [i64 n, i64 lo, i64 hi] [.sc (.bool (inR lo hi n))] := by
  refine VCall.enter Try.call55 Try.func55 rfl 15 Try.ntmps55 (by simp) [.tmp 6] rfl ?_
  -- region 0
  refine VW.es tau_ok Sound.none [some 6] [0, 1, 2] rfl fun K hK => ?_
  simp
  refine hK _ ?_
  clear hK K
  -- region 1
  refine VW.vs tau_ok Sound.none [some 7, some 8, some 9, some 10, some 11, some 12, some 13, some 14, some 6] [(6, .val (.bool (inR lo hi n)))] [] rfl ?_ ?_
  ·
    by_cases hg0 : lo ≤ n
    rotate_left
    ·
      simp [inR, hg0] <;> try omega
    ·
      simp [inR, hg0] <;> try omega
  refine VW.ret ?_
  simp [Post, PostM, Nx, Bk] <;> try omega

theorem l01Prime (p : Int) :
    VCall Try.prog 49 [i64 p] [.sc (.bool (isP p))] := by
  refine VCall.enter Try.call49 Try.func49 rfl 21 Try.ntmps49 (by simp) [.tmp 2] rfl ?_
  -- region 0
  refine VW.es tau_ok Sound.none [some 2] [0] rfl fun K hK => ?_
  simp
  refine hK _ ?_
  clear hK K
  -- region 1
  refine VW.vs tau_ok Sound.none [some 3, some 4, some 5, some 6, some 7, some 8, some 9, some 10, some 11, some 12, some 13, some 14, some 15, some 16, some 17, some 18, some 19, some 20, some 2] [(2, .val (.bool (isP p)))] [] rfl ?_ ?_
  ·
    by_cases hg0 : p = 3
    ·
      simp [isP, hg0] <;> try omega
    ·
      by_cases hg1 : p = 5
      ·
        simp [isP, hg0, hg1] <;> try omega
      ·
        by_cases hg2 : p = 7
        ·
          simp [isP, hg0, hg1, hg2] <;> try omega
        ·
          by_cases hg3 : p = 11
          ·
            simp [isP, hg0, hg1, hg2, hg3] <;> try omega
          ·
            simp [isP, hg0, hg1, hg2, hg3] <;> try omega
  refine VW.ret ?_
  simp [Post, PostM, Nx, Bk] <;> try omega

theorem IsPrime (p : Int) :
    VCall Try.prog 32 [i64 p] [.sc (.bool (isP p))] := by
  refine VCall.enter Try.call32 Try.func32 rfl 10 Try.ntmps32 (by simp) [.tmp 2] rfl ?_
  -- region 0
  refine VW.es tau_ok Sound.none [some 2] [0] rfl fun K hK => ?_
  simp
  refine hK _ ?_
  clear hK K
  refine VW.sq fun K1 hK1 => ?_
  -- region 1
  refine VW.es tau_ok Sound.none [some 3] [3] rfl fun K hK => ?_
  simp
  refine hK _ ?_
  clear hK K
  refine VW.block ?_
  refine VW.sq fun K2 hK2 => ?_
  -- region 2
  refine VW.vs tau_ok Sound.none [some 5, some 4] [(4, .val (.bool (decide (p = 3))))] [3] rfl ?_ ?_
  ·
    simp <;> try omega
  refine VW.cond rfl (fun hb4 => ?_) (fun hb4 => ?_)
  ·
    replace hb4 := of_decide_eq_true hb4
    refine VW.skip ?_
    refine hK2 _ ?_
    refine VW.cond rfl (fun hb4 => ?_) (fun hb4 => ?_)
    ·
      replace hb4 := of_decide_eq_true hb4
      -- region 7
      refine VW.es tau_ok Sound.none [some 2] [2] rfl fun K hK => ?_
      simp [hb4, hb4]
      refine hK _ ?_
      clear hK K
      refine VW.ret ?_
      simp [Post, PostM, Nx, Bk, isP, hb4, hb4] <;> try omega
    ·
      replace hb4 := of_decide_eq_false hb4
      refine VW.skip ?_
      refine hK1 _ ?_
      -- region 8
      refine VW.es tau_ok Sound.none [some 2] [2] rfl fun K hK => ?_
      simp [hb4, hb4]
      refine hK _ ?_
      clear hK K
      refine VW.ret ?_
      simp [Post, PostM, Nx, Bk, isP, hb4, hb4] <;> try omega
  ·
    replace hb4 := of_decide_eq_false hb4
    -- region 3
    refine VW.vs tau_ok Sound.none [some 6, some 4] [(4, .val (.bool (decide (p = 5))))] [3] rfl ?_ ?_
    ·
      simp [hb4] <;> try omega
    refine VW.cond rfl (fun hb4 => ?_) (fun hb4 => ?_)
    ·
      replace hb4 := of_decide_eq_true hb4
      refine VW.skip ?_
      refine hK2 _ ?_
      refine VW.cond rfl (fun hb4 => ?_) (fun hb4 => ?_)
      ·
        replace hb4 := of_decide_eq_true hb4
        -- region 7
        refine VW.es tau_ok Sound.none [some 2] [2] rfl fun K hK => ?_
        simp [hb4, hb4, hb4]
        refine hK _ ?_
        clear hK K
        refine VW.ret ?_
        simp [Post, PostM, Nx, Bk, isP, hb4, hb4, hb4] <;> try omega
      ·
        replace hb4 := of_decide_eq_false hb4
        refine VW.skip ?_
        refine hK1 _ ?_
        -- region 8
        refine VW.es tau_ok Sound.none [some 2] [2] rfl fun K hK => ?_
        simp [hb4, hb4, hb4]
        refine hK _ ?_
        clear hK K
        refine VW.ret ?_
        simp [Post, PostM, Nx, Bk, isP, hb4, hb4, hb4] <;> try omega
    ·
      replace hb4 := of_decide_eq_false hb4
      -- region 4
      refine VW.vs tau_ok Sound.none [some 7, some 4] [(4, .val (.bool (decide (p = 7))))] [3] rfl ?_ ?_
      ·
        simp [hb4, hb4] <;> try omega
      refine VW.cond rfl (fun hb4 => ?_) (fun hb4 => ?_)
      ·
        replace hb4 := of_decide_eq_true hb4
        refine VW.skip ?_
        refine hK2 _ ?_
        refine VW.cond rfl (fun hb4 => ?_) (fun hb4 => ?_)
        ·
          replace hb4 := of_decide_eq_true hb4
          -- region 7
          refine VW.es tau_ok Sound.none [some 2] [2] rfl fun K hK => ?_
          simp [hb4, hb4, hb4, hb4]
          refine hK _ ?_
          clear hK K
          refine VW.ret ?_
          simp [Post, PostM, Nx, Bk, isP, hb4, hb4, hb4, hb4] <;> try omega
        ·
          replace hb4 := of_decide_eq_false hb4
          refine VW.skip ?_
          refine hK1 _ ?_
          -- region 8
          refine VW.es tau_ok Sound.none [some 2] [2] rfl fun K hK => ?_
          simp [hb4, hb4, hb4, hb4]
          refine hK _ ?_
          clear hK K
          refine VW.ret ?_
          simp [Post, PostM, Nx, Bk, isP, hb4, hb4, hb4, hb4] <;> try omega
      ·
        replace hb4 := of_decide_eq_false hb4
        -- region 5
        refine VW.vs tau_ok Sound.none [some 8, some 4] [(4, .val (.bool (decide (p = 11))))] [3] rfl ?_ ?_
        ·
          simp [hb4, hb4, hb4] <;> try omega
        refine VW.cond rfl (fun hb4 => ?_) (fun hb4 => ?_)
        ·
          replace hb4 := of_decide_eq_true hb4
          refine VW.skip ?_
          refine hK2 _ ?_
          refine VW.cond rfl (fun hb4 => ?_) (fun hb4 => ?_)
          ·
            replace hb4 := of_decide_eq_true hb4
            -- region 7
            refine VW.es tau_ok Sound.none [some 2] [2] rfl fun K hK => ?_
            simp [hb4, hb4, hb4, hb4, hb4]
            refine hK _ ?_
            clear hK K
            refine VW.ret ?_
            simp [Post, PostM, Nx, Bk, isP, hb4, hb4, hb4, hb4, hb4] <;> try omega
          ·
            replace hb4 := of_decide_eq_false hb4
            refine VW.skip ?_
            refine hK1 _ ?_
            -- region 8
            refine VW.es tau_ok Sound.none [some 2] [2] rfl fun K hK => ?_
            simp [hb4, hb4, hb4, hb4, hb4]
            refine hK _ ?_
            clear hK K
            refine VW.ret ?_
            simp [Post, PostM, Nx, Bk, isP, hb4, hb4, hb4, hb4, hb4] <;> try omega
        ·
          replace hb4 := of_decide_eq_false hb4
          -- region 6
          refine VW.vr tau_ok Sound.none [some 9, some 4] [(4, .val (.bool (decide (p = 13))))] [] rfl ?_ ?_
          ·
            simp [hb4, hb4, hb4, hb4] <;> try omega
          refine hK2 _ ?_
          refine VW.cond rfl (fun hb4 => ?_) (fun hb4 => ?_)
          ·
            replace hb4 := of_decide_eq_true hb4
            -- region 7
            refine VW.es tau_ok Sound.none [some 2] [2] rfl fun K hK => ?_
            simp [hb4, hb4, hb4, hb4, hb4]
            refine hK _ ?_
            clear hK K
            refine VW.ret ?_
            simp [Post, PostM, Nx, Bk, isP, hb4, hb4, hb4, hb4, hb4] <;> try omega
          ·
            replace hb4 := of_decide_eq_false hb4
            refine VW.skip ?_
            refine hK1 _ ?_
            -- region 8
            refine VW.es tau_ok Sound.none [some 2] [2] rfl fun K hK => ?_
            simp [hb4, hb4, hb4, hb4, hb4]
            refine hK _ ?_
            clear hK K
            refine VW.ret ?_
            simp [Post, PostM, Nx, Bk, isP, hb4, hb4, hb4, hb4, hb4] <;> try omega

theorem l01Numbers (p : Int) (xs : List Int) (hp : -9223372036854775808 < p) (hp1 : p ≤ 9223372036854775807) (hl : xs.length ≤ 1048576) :
    VCall Try.prog 40 [i64 p, dI xs] [.sc (.bool (nums p xs))] := by
  refine VCall.enter Try.call40 Try.func40 rfl 20 Try.ntmps40 (by simp) [.tmp 4] rfl ?_
  -- region 0
  refine VW.es tau_ok Sound.none [some 4] [0, 1] rfl fun K hK => ?_
  simp
  refine hK _ ?_
  clear hK K
  refine VW.sq fun K1 hK1 => ?_
  -- region 1
  refine VW.es tau_ok Sound.none [some 5] [0, 1, 5] rfl fun K hK => ?_
  simp
  refine hK _ ?_
  clear hK K
  refine VW.block ?_
  refine VW.frL [5, 0, 1] fun K hK => ?_
  simp
  refine hK _ ?_
  clear hK K
  refine VW.loopN (xs.length) (fun k => [(5, .val (i64 k))]) (fun k => (xs.take k).all (inR 0 (p - 1)) = true) rfl ?_ ?_
  ·
    simp
  ·
    intro k hk hF0
    refine VW.sq fun K2 hK2 => ?_
    -- region 2
    refine VW.vs tau_ok Sound.none [some 6, some 7, some 8, some 9] [(9, .val (.bool (decide (k < xs.length))))] [0, 1, 5] rfl ?_ ?_
    ·
      simp <;> try omega
    refine VW.cond rfl (fun hb9 => ?_) (fun hb9 => ?_)
    ·
      replace hb9 := of_decide_eq_true hb9
      obtain ⟨x, hx, ex⟩ := at_ hb9
      refine VW.skip ?_
      refine hK2 _ ?_
      refine VW.sq fun K3 hK3 => ?_
      refine VW.block ?_
      -- region 4
      refine VW.vs tau_ok (Sound.none.add 18 (l01In x 0 (p - 1)) rfl) [some 12, some 13, some 14, some 15, some 16, some 17, some 18, some 19] [(19, .val (.bool (decide (inR 0 (p - 1) x = false))))] [0, 1, 5] rfl ?_ ?_
      ·
        simp [wrap_in (x := p - 1) (by omega) (by omega), hb9, hx, ex, wrap_in (x := (k : Int) + 1) (by omega) (by omega)] <;> try omega
      refine VW.cond rfl (fun hb19 => ?_) (fun hb19 => ?_)
      ·
        replace hb19 := of_decide_eq_true hb19
        have hall : nums p xs = false := all_false_at hx hb19
        -- region 5
        refine VW.es tau_ok Sound.none [some 4] [4] rfl fun K hK => ?_
        simp [hb9, hx, ex, wrap_in (x := (k : Int) + 1) (by omega) (by omega), hb19, hall]
        refine hK _ ?_
        clear hK K
        refine VW.ret ?_
        simp [Post, PostM, Nx, Bk, hb9, hx, ex, wrap_in (x := (k : Int) + 1) (by omega) (by omega), hb19, hall] <;> try omega
      ·
        replace hb19 := of_decide_eq_false hb19
        simp only [Bool.not_eq_false] at hb19
        refine VW.skip ?_
        refine hK3 _ ?_
        -- region 3
        refine VW.er tau_ok Sound.none [some 10, some 11, some 5] [5, 0, 1] rfl fun K hK => ?_
        simp [hb9, hx, ex, wrap_in (x := (k : Int) + 1) (by omega) (by omega), hb19]
        refine hK _ ?_
        clear hK K
        refine and3 ?_ ?_ ?_
        ·
          omega
        ·
          exact all_take hx hF0 hb19
        ·
          simp [hb9, hx, ex, wrap_in (x := (k : Int) + 1) (by omega) (by omega), hb19] <;> try omega
    ·
      replace hb9 := of_decide_eq_false hb9
      have hall : nums p xs = true := all_full (by omega) hF0
      refine VW.exit ?_
      refine hK1 _ ?_
      -- region 6
      refine VW.es tau_ok Sound.none [some 4] [4] rfl fun K hK => ?_
      simp [hb9, hall]
      refine hK _ ?_
      clear hK K
      refine VW.ret ?_
      simp [Post, PostM, Nx, Bk, hb9, hall] <;> try omega

theorem fis (p : Int) (xs : List Int) (hp : -9223372036854775808 < p) (hp1 : p ≤ 9223372036854775807) (hl : xs.length ≤ 1048576) :
    VCall Try.prog 42 [i64 p, dI xs] [.sc (.bool (nums p xs))] := by
  refine VCall.enter Try.call42 Try.func42 rfl 19 Try.ntmps42 (by simp) [.tmp 4] rfl ?_
  -- region 0
  refine VW.es tau_ok Sound.none [some 4] [0, 1] rfl fun K hK => ?_
  simp
  refine hK _ ?_
  clear hK K
  refine VW.sq fun K1 hK1 => ?_
  -- region 1
  refine VW.es tau_ok Sound.none [some 7, some 8, some 9] [0, 7, 8, 9] rfl fun K hK => ?_
  simp
  refine hK _ ?_
  clear hK K
  refine VW.block ?_
  refine VW.frL [9, 0, 7, 8] fun K hK => ?_
  simp
  refine hK _ ?_
  clear hK K
  refine VW.loopN (xs.length) (fun k => [(9, .val (i64 k))]) (fun k => (xs.take k).all (inR 0 (p - 1)) = true) rfl ?_ ?_
  ·
    simp
  ·
    intro k hk hF0
    -- region 2
    refine VW.vs tau_ok Sound.none [some 10] [(10, .val (.bool (decide (k < xs.length))))] [0, 7, 8, 9] rfl ?_ ?_
    ·
      simp <;> try omega
    refine VW.sq fun K2 hK2 => ?_
    refine VW.cond rfl (fun hb10 => ?_) (fun hb10 => ?_)
    ·
      replace hb10 := of_decide_eq_true hb10
      obtain ⟨x, hx, ex⟩ := at_ hb10
      refine VW.skip ?_
      refine hK2 _ ?_
      refine VW.sq fun K3 hK3 => ?_
      refine VW.block ?_
      -- region 3
      refine VW.es tau_ok Sound.none [some 11, some 12, some 6] [0, 6, 7, 8, 9] rfl fun K hK => ?_
      simp [hb10, hx, ex, wrap_in (x := (k : Int) + 1) (by omega) (by omega)]
      refine hK _ ?_
      clear hK K
      -- region 4
      refine VW.vs tau_ok (Sound.none.add 16 (inRange x 0 (p - 1)) rfl) [some 13, some 14, some 15, some 16, some 17] [(17, .val (.bool (decide (inR 0 (p - 1) x = false))))] [0, 7, 8, 9] rfl ?_ ?_
      ·
        simp [wrap_in (x := p - 1) (by omega) (by omega), hb10, hx, ex, wrap_in (x := (k : Int) + 1) (by omega) (by omega)] <;> try omega
      refine VW.cond rfl (fun hb17 => ?_) (fun hb17 => ?_)
      ·
        replace hb17 := of_decide_eq_true hb17
        have hall : nums p xs = false := all_false_at hx hb17
        -- region 5
        refine VW.es tau_ok Sound.none [some 4] [4] rfl fun K hK => ?_
        simp [hb10, hx, ex, wrap_in (x := (k : Int) + 1) (by omega) (by omega), hb17, hall]
        refine hK _ ?_
        clear hK K
        refine VW.ret ?_
        simp [Post, PostM, Nx, Bk, hb10, hx, ex, wrap_in (x := (k : Int) + 1) (by omega) (by omega), hb17, hall] <;> try omega
      ·
        replace hb17 := of_decide_eq_false hb17
        simp only [Bool.not_eq_false] at hb17
        refine VW.skip ?_
        refine hK3 _ ?_
        -- region 6
        refine VW.er tau_ok Sound.none [some 18, some 9] [9, 0, 7, 8] rfl fun K hK => ?_
        simp [hb10, hx, ex, wrap_in (x := (k : Int) + 1) (by omega) (by omega), hb17]
        refine hK _ ?_
        clear hK K
        refine and3 ?_ ?_ ?_
        ·
          omega
        ·
          exact all_take hx hF0 hb17
        ·
          simp [hb10, hx, ex, wrap_in (x := (k : Int) + 1) (by omega) (by omega), hb17] <;> try omega
    ·
      replace hb10 := of_decide_eq_false hb10
      have hall : nums p xs = true := all_full (by omega) hF0
      refine VW.exit ?_
      refine hK1 _ ?_
      -- region 7
      refine VW.es tau_ok Sound.none [some 4] [4] rfl fun K hK => ?_
      simp [hb10, hall]
      refine hK _ ?_
      clear hK K
      refine VW.ret ?_
      simp [Post, PostM, Nx, Bk, hb10, hall] <;> try omega

theorem szI (xs : List Int) (left : Int) (hl : xs.length ≤ 9223372036854775807) (h0 : 0 ≤ left) (h1 : left ≤ 1048576) :
    VCall Try.prog 30 [dI xs, i64 left] [.sc (.int .i64 (szv xs.length left))] := by
  refine VCall.enter Try.call30 Try.func30 rfl 12 Try.ntmps30 (by simp) [.tmp 4] rfl ?_
  -- region 0
  refine VW.es tau_ok Sound.none [some 4] [0, 1] rfl fun K hK => ?_
  simp
  refine hK _ ?_
  clear hK K
  -- region 1
  refine VW.es tau_ok Sound.none [some 5, some 6, some 7, some 8, some 1] [1] rfl fun K hK => ?_
  simp [wrap_in (x := left - xs.length) (by omega) (by omega)]
  refine hK _ ?_
  clear hK K
  refine VW.sq fun K1 hK1 => ?_
  -- region 2
  refine VW.vs tau_ok Sound.none [some 9, some 10] [(10, .val (.bool (decide (left - xs.length < 0))))] [1] rfl ?_ ?_
  ·
    simp <;> try omega
  refine VW.cond rfl (fun hb10 => ?_) (fun hb10 => ?_)
  ·
    replace hb10 := of_decide_eq_true hb10
    have hs : szv xs.length left = -1 := by unfold szv; rw [if_neg (by omega)]
    -- region 3
    refine VW.es tau_ok Sound.none [some 4] [4] rfl fun K hK => ?_
    simp [hb10, hs]
    refine hK _ ?_
    clear hK K
    refine VW.ret ?_
    simp [Post, PostM, Nx, Bk, hb10, hs] <;> try omega
  ·
    replace hb10 := of_decide_eq_false hb10
    have hs : szv xs.length left = left - xs.length := by unfold szv; rw [if_pos (by omega)]
    refine VW.skip ?_
    refine hK1 _ ?_
    -- region 4
    refine VW.es tau_ok Sound.none [some 11, some 4] [4] rfl fun K hK => ?_
    simp [hb10, hs]
    refine hK _ ?_
    clear hK K
    refine VW.ret ?_
    simp [Post, PostM, Nx, Bk, hb10, hs] <;> try omega

theorem toI (xs : List Int) (hl : xs.length ≤ 1048576) :
    VCall Try.prog 21 [dI xs] [.own true (dI xs)] := by
  refine VCall.enter Try.call21 Try.func21 rfl 22 Try.ntmps21 (by simp) [.tmp 2] rfl ?_
  -- region 0
  refine VW.es tau_ok Sound.none [some 2] [0] rfl fun K hK => ?_
  simp
  refine hK _ ?_
  clear hK K
  -- region 1
  refine VW.es tau_ok Sound.none [some 5, some 6, some 7, some 3] [0, 3] rfl fun K hK => ?_
  simp [show ((xs.length : Int) ≤ 1099511627776) by omega]
  refine hK _ ?_
  clear hK K
  refine VW.sq fun K1 hK1 => ?_
  -- region 2
  refine VW.es tau_ok Sound.none [some 4] [0, 3, 4] rfl fun K hK => ?_
  simp
  refine hK _ ?_
  clear hK K
  refine VW.block ?_
  refine VW.frL [3, 4, 0] fun K hK => ?_
  simp
  refine hK _ ?_
  clear hK K
  rw [fill_zero (D.int .i64) (.int .i64 0) xs]
  refine VW.loopN (xs.length) (fun k => [(3, .ref 3 [] true (.list (fillL (D.int .i64) (.int .i64 0) xs k))), (4, .val (i64 k))]) (fun k => True) rfl ?_ ?_
  ·
    trivial
  ·
    intro k hk hF0
    refine VW.sq fun K2 hK2 => ?_
    -- region 3
    refine VW.vs tau_ok Sound.none [some 8, some 9, some 10, some 11] [(11, .val (.bool (decide (k < xs.length))))] [0, 3, 4] rfl ?_ ?_
    ·
      simp <;> try omega
    refine VW.cond rfl (fun hb11 => ?_) (fun hb11 => ?_)
    ·
      replace hb11 := of_decide_eq_true hb11
      obtain ⟨x, hx, ex⟩ := at_ hb11
      have hfl := fill_len (D.int .i64) (.int .i64 0) xs k hk
      have hfs := fill_set (D.int .i64) (.int .i64 0) xs k x hx
      refine VW.skip ?_
      refine hK2 _ ?_
      refine VW.sq fun K3 hK3 => ?_
      refine VW.block ?_
      -- region 5
      refine VW.er tau_ok Sound.none [some 14, some 15, some 16, some 17, some 18, some 19, some 20, none] [3, 4, 0] rfl fun K hK => ?_
      simp [hb11, hx, ex, hfl, hfs, wrap_in (x := (k : Int) + 1) (by omega) (by omega)]
      refine hK _ ?_
      clear hK K
      refine hK3 _ ?_
      -- region 4
      refine VW.er tau_ok Sound.none [some 12, some 13, some 4] [3, 4, 0] rfl fun K hK => ?_
      simp [hb11, hx, ex, hfl, hfs, wrap_in (x := (k : Int) + 1) (by omega) (by omega)]
      refine hK _ ?_
      clear hK K
      refine and3 ?_ ?_ ?_
      ·
        omega
      ·
        trivial
      ·
        simp [hb11, hx, ex, hfl, hfs, wrap_in (x := (k : Int) + 1) (by omega) (by omega)] <;> try omega
    ·
      replace hb11 := of_decide_eq_false hb11
      have hff := fill_full (D.int .i64) (.int .i64 0) xs k (by omega)
      refine VW.exit ?_
      refine hK1 _ ?_
      -- region 6
      refine VW.es tau_ok Sound.none [some 21, some 2] [2] rfl fun K hK => ?_
      simp [hb11, hff]
      refine hK _ ?_
      clear hK K
      refine VW.ret ?_
      simp [Post, PostM, Nx, Bk, hb11, hff] <;> try omega
end Go.Vam
