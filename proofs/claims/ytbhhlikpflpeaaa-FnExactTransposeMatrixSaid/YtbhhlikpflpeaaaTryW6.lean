import Derived.Test.YtbhhlikpflpeaaaTryW5
namespace Go.Vam
open Go Go.RowKit Go.Proofs
set_option maxRecDepth 100000
set_option linter.unusedSimpArgs false
set_option linter.unusedVariables false

theorem iTranspose (p : Int) (m : List (List Int)) (hl : m.length ≤ 1048576) (hr : ∀ r ∈ m, r.length ≤ 1048576) :
    VCall Try.prog 17 [i64 p, dM m] [.own true (dM (ttv p m)), .sc (.int .i64 (ttc p m))] := by
  refine VCall.enter Try.call17 Try.func17 rfl 16 Try.ntmps17 (by simp) [.tmp 4, .tmp 5] rfl ?_
  -- region 0
  refine VW.es tau_ok Sound.none [some 4, some 5] [0, 1] rfl fun K hK => ?_
  simp
  refine hK _ ?_
  clear hK K
  refine VW.sq fun K1 hK1 => ?_
  -- region 1
  refine VW.vs tau_ok (Sound.none.add 10 (checkMatrices p [m] ⟨by simp, by simp; exact ⟨hl, hr⟩⟩) rfl) [some 7, some 8, some 9, some 10, some 6] [(6, .val (i64 (ckM p [m])))] [1] rfl ?_ ?_
  ·
    simp <;> try omega
  rw [ckM_one]
  -- region 2
  refine VW.vs tau_ok Sound.none [some 11, some 12] [(12, .val (.bool (decide (¬ isMat p m = true))))] [1, 6] rfl ?_ ?_
  ·
    by_cases hg0 : isMat p m = true
    ·
      simp [hg0] <;> try omega
    ·
      simp [hg0] <;> try omega
  refine VW.cond rfl (fun hb12 => ?_) (fun hb12 => ?_)
  ·
    replace hb12 := of_decide_eq_true hb12
    have hv : ttv p m = [] := by unfold ttv; rw [if_neg hb12]
    have hc : ttc p m = 1 := by unfold ttc; rw [if_neg hb12]
    -- region 3
    refine VW.es tau_ok Sound.none [some 13, some 4, some 5] [4, 5] rfl fun K hK => ?_
    simp [hb12, hv, hc]
    refine hK _ ?_
    clear hK K
    refine VW.ret ?_
    simp [Post, PostM, Nx, Bk, hb12, hv, hc] <;> try omega
  ·
    replace hb12 := of_decide_eq_false hb12
    simp only [Decidable.not_not] at hb12
    have hv : ttv p m = trn m := by unfold ttv; rw [if_pos hb12]
    have hc : ttc p m = 0 := by unfold ttc; rw [if_pos hb12]
    refine VW.skip ?_
    refine hK1 _ ?_
    -- region 4
    refine VW.es tau_ok (Sound.none.add 15 (iTurn p m hb12) rfl) [some 14, some 15, some 4, some 5] [4, 5] rfl fun K hK => ?_
    simp [hv, hc, hb12]
    refine hK _ ?_
    clear hK K
    refine VW.ret ?_
    simp [Post, PostM, Nx, Bk, hv, hc, hb12] <;> try omega

theorem LawTranspose (p : Int) (m : List (List Int)) (hl : m.length ≤ 9223372036854775807) (hr : ∀ r ∈ m, r.length ≤ 9223372036854775807) :
    VCall Try.prog 5 [i64 p, dM m] [.sc (.bool true)] := by
  refine VCall.enter Try.call5 Try.func5 rfl 101 Try.ntmps5 (by simp) [.tmp 4] rfl ?_
  -- region 0
  refine VW.es tau_ok Sound.none [some 4] [0, 1] rfl fun K hK => ?_
  simp
  refine hK _ ?_
  clear hK K
  -- region 1
  refine VW.es tau_ok Sound.none [some 5] [0, 1, 5] rfl fun K hK => ?_
  simp
  refine hK _ ?_
  clear hK K
  -- region 2
  refine VW.es tau_ok (Sound.none.add 18 (szM m 1048576 hl hr (by omega) (by omega)) rfl) [some 16, some 17, some 18, some 5] [0, 1, 5] rfl fun K hK => ?_
  simp
  refine hK _ ?_
  clear hK K
  have hsz : szv (m.length + rowsum m) 1048576 < 0 ↔ 1048576 < ((m.length + rowsum m : Nat) : Int) := by unfold szv; split <;> omega
  refine VW.sq fun K1 hK1 => ?_
  -- region 3
  refine VW.vs tau_ok Sound.none [some 19, some 20] [(20, .val (.bool (decide (1048576 < ((m.length + rowsum m : Nat) : Int)))))] [0, 1] rfl ?_ ?_
  ·
    simp [hsz] <;> try omega
  refine VW.cond rfl (fun hb20 => ?_) (fun hb20 => ?_)
  ·
    replace hb20 := of_decide_eq_true hb20
    -- region 4
    refine VW.es tau_ok Sound.none [some 4] [4] rfl fun K hK => ?_
    simp [hb20]
    refine hK _ ?_
    clear hK K
    refine VW.ret ?_
    simp [Post, PostM, Nx, Bk, hb20] <;> try omega
  ·
    replace hb20 := of_decide_eq_false hb20
    have hl' : m.length ≤ 1048576 := by omega
    have hr' : ∀ r ∈ m, r.length ≤ 1048576 := fun r h => by have := rowsum_mem h; omega
    have hrs : rowsum m ≤ 1048576 := by omega
    obtain ⟨ht1, ht2, ht3⟩ := ttv_size p m
    have ht2' := small_rows ht2 (by omega)
    refine VW.skip ?_
    refine hK1 _ ?_
    -- region 5
    refine VW.es tau_ok ((Sound.none.add 24 (toM m hl' hr') rfl).add 25 (sTranspose p m hl' hr') rfl) [some 22, some 23, some 24, some 25, some 21, some 26, some 27, some 6, some 7] [0, 1, 6, 7] rfl fun K hK => ?_
    simp
    refine hK _ ?_
    clear hK K
    -- region 6
    refine VW.es tau_ok (Sound.none.add 29 (toM m hl' hr') rfl) [some 28, some 29, some 8] [0, 1, 6, 7, 8] rfl fun K hK => ?_
    simp
    refine hK _ ?_
    clear hK K
    -- region 7
    refine VW.es tau_ok (Sound.none.add 33 (iTranspose p m hl' hr') rfl) [some 31, some 32, some 33, some 30, some 34, some 35, some 9, some 10] [0, 1, 6, 7, 8, 9, 10] rfl fun K hK => ?_
    simp
    refine hK _ ?_
    clear hK K
    refine VW.sq fun K2 hK2 => ?_
    -- region 8
    refine VW.vs tau_ok (Sound.none.add 38 (eqM (ttv p m) (ttv p m) (by omega) ht2') rfl) [some 36, some 37, some 38, some 39, some 40, some 41, some 42, some 43, some 44] [(44, .val (.bool (decide (False))))] [0, 1, 6, 7, 8, 9, 10] rfl ?_ ?_
    ·
      simp <;> try omega
    refine VW.cond rfl (fun hb44 => ?_) (fun hb44 => ?_)
    ·
      replace hb44 := of_decide_eq_true hb44
      exact hb44.elim
    ·
      replace hb44 := of_decide_eq_false hb44
      refine VW.skip ?_
      refine hK2 _ ?_
      refine VW.sq fun K3 hK3 => ?_
      -- region 10
      refine VW.vs tau_ok ((Sound.none.add 47 (toM m hl' hr') rfl).add 48 (eqM m m hl hr) rfl) [some 45, some 46, some 47, some 48, some 49] [(49, .val (.bool (decide (False))))] [0, 1, 6, 7, 8, 9, 10] rfl ?_ ?_
      ·
        simp <;> try omega
      refine VW.cond rfl (fun hb49 => ?_) (fun hb49 => ?_)
      ·
        replace hb49 := of_decide_eq_true hb49
        exact hb49.elim
      ·
        replace hb49 := of_decide_eq_false hb49
        refine VW.skip ?_
        refine hK3 _ ?_
        -- region 12
        refine VW.es tau_ok Sound.none [some 11] [0, 1, 6, 7, 8, 9, 10, 11] rfl fun K hK => ?_
        simp
        refine hK _ ?_
        clear hK K
        -- region 13
        refine VW.es tau_ok (Sound.none.mutc 52 (markM m 1 (by omega) (by omega) (by omega))) [some 50, some 51, some 52, some 11] [0, 1, 6, 7, 9, 10, 11] rfl fun K hK => ?_
        simp
        refine hK _ ?_
        clear hK K
        refine VW.sq fun K4 hK4 => ?_
        -- region 14
        refine VW.vs tau_ok (Sound.none.add 58 (eqM (ttv p m) (ttv p m) (by omega) ht2') rfl) [some 53, some 54, some 55, some 56, some 57, some 58, some 59, some 60, some 61, some 62, some 63, some 64, some 65] [(65, .val (.bool (decide (False))))] [0, 1, 6, 7, 9] rfl ?_ ?_
        ·
          simp [show ¬ ((1 : Int) + rowsum m < 0) by omega] <;> try omega
        refine VW.cond rfl (fun hb65 => ?_) (fun hb65 => ?_)
        ·
          replace hb65 := of_decide_eq_true hb65
          exact hb65.elim
        ·
          replace hb65 := of_decide_eq_false hb65
          refine VW.skip ?_
          refine hK4 _ ?_
          -- region 16
          refine VW.es tau_ok Sound.none [some 12] [0, 1, 6, 7, 9, 12] rfl fun K hK => ?_
          simp
          refine hK _ ?_
          clear hK K
          -- region 17
          refine VW.es tau_ok (Sound.none.mutc 68 (markM (ttv p m) 1 (by omega) (by omega) (by omega))) [some 66, some 67, some 68, some 12] [0, 1, 6, 7, 9, 12] rfl fun K hK => ?_
          simp
          refine hK _ ?_
          clear hK K
          -- region 18
          refine VW.es tau_ok Sound.none [some 13] [0, 1, 6, 7, 9, 12, 13] rfl fun K hK => ?_
          simp
          refine hK _ ?_
          clear hK K
          -- region 19
          refine VW.es tau_ok (Sound.none.add 71 (heldM (ttv p m) (mrkM 1 (ttv p m)) 1 (by omega) (by omega) (by omega) rfl) rfl) [some 69, some 70, some 71, some 13] [0, 1, 6, 7, 9, 12, 13] rfl fun K hK => ?_
          simp
          refine hK _ ?_
          clear hK K
          refine VW.sq fun K5 hK5 => ?_
          -- region 20
          refine VW.vs tau_ok Sound.none [some 72, some 73] [(73, .val (.bool (decide (False))))] [0, 1, 6, 7, 9, 12, 13] rfl ?_ ?_
          ·
            simp <;> try omega
          refine VW.cond rfl (fun hb73 => ?_) (fun hb73 => ?_)
          ·
            replace hb73 := of_decide_eq_true hb73
            exact hb73.elim
          ·
            replace hb73 := of_decide_eq_false hb73
            refine VW.skip ?_
            refine hK5 _ ?_
            refine VW.sq fun K6 hK6 => ?_
            -- region 22
            refine VW.vs tau_ok Sound.none [some 74, some 75, some 76] [(76, .val (.bool (decide (False))))] [0, 1, 6, 7, 9, 12] rfl ?_ ?_
            ·
              simp <;> try omega
            refine VW.cond rfl (fun hb76 => ?_) (fun hb76 => ?_)
            ·
              replace hb76 := of_decide_eq_true hb76
              exact hb76.elim
            ·
              replace hb76 := of_decide_eq_false hb76
              refine VW.skip ?_
              refine hK6 _ ?_
              -- region 24
              refine VW.es tau_ok ((Sound.none.add 80 (toM m hl' hr') rfl).add 81 (iTranspose p m hl' hr') rfl) [some 78, some 79, some 80, some 81, some 77, some 82, some 83, some 14, some 15] [6, 7, 9, 12, 14, 15] rfl fun K hK => ?_
              simp
              refine hK _ ?_
              clear hK K
              refine VW.sq fun K7 hK7 => ?_
              -- region 25
              refine VW.vs tau_ok (Sound.none.add 86 (eqM (ttv p m) (ttv p m) (by omega) ht2') rfl) [some 84, some 85, some 86, some 87, some 88, some 89, some 90, some 91, some 92] [(92, .val (.bool (decide (False))))] [9, 12] rfl ?_ ?_
              ·
                simp <;> try omega
              refine VW.cond rfl (fun hb92 => ?_) (fun hb92 => ?_)
              ·
                replace hb92 := of_decide_eq_true hb92
                exact hb92.elim
              ·
                replace hb92 := of_decide_eq_false hb92
                refine VW.skip ?_
                refine hK7 _ ?_
                -- region 27
                refine VW.es tau_ok Sound.none [some 13] [9, 12, 13] rfl fun K hK => ?_
                simp
                refine hK _ ?_
                clear hK K
                -- region 28
                refine VW.es tau_ok (Sound.none.add 95 (heldM (ttv p m) (mrkM 1 (ttv p m)) 1 (by omega) (by omega) (by omega) rfl) rfl) [some 93, some 94, some 95, some 13] [12, 13] rfl fun K hK => ?_
                simp
                refine hK _ ?_
                clear hK K
                refine VW.sq fun K8 hK8 => ?_
                -- region 29
                refine VW.vs tau_ok Sound.none [some 96, some 97] [(97, .val (.bool (decide (False))))] [12, 13] rfl ?_ ?_
                ·
                  simp <;> try omega
                refine VW.cond rfl (fun hb97 => ?_) (fun hb97 => ?_)
                ·
                  replace hb97 := of_decide_eq_true hb97
                  exact hb97.elim
                ·
                  replace hb97 := of_decide_eq_false hb97
                  refine VW.skip ?_
                  refine hK8 _ ?_
                  refine VW.sq fun K9 hK9 => ?_
                  -- region 31
                  refine VW.vs tau_ok Sound.none [some 98, some 99, some 100] [(100, .val (.bool (decide (False))))] [] rfl ?_ ?_
                  ·
                    simp <;> try omega
                  refine VW.cond rfl (fun hb100 => ?_) (fun hb100 => ?_)
                  ·
                    replace hb100 := of_decide_eq_true hb100
                    exact hb100.elim
                  ·
                    replace hb100 := of_decide_eq_false hb100
                    refine VW.skip ?_
                    refine hK9 _ ?_
                    -- region 33
                    refine VW.es tau_ok Sound.none [some 4] [4] rfl fun K hK => ?_
                    simp
                    refine hK _ ?_
                    clear hK K
                    refine VW.ret ?_
                    simp [Post, PostM, Nx, Bk] <;> try omega
end Go.Vam
