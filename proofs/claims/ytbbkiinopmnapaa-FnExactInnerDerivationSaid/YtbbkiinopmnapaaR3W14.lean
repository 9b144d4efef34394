import Derived.Test.YtbbkiinopmnapaaR3T
import Derived.Test.YtbbkiinopmnapaaFnD
import Derived.Test.YtbbkiinopmnapaaR3W1
import Derived.Test.YtbbkiinopmnapaaR3W6
import Derived.Test.YtbbkiinopmnapaaR3W9
import Derived.Test.YtbbkiinopmnapaaR3W10
import Derived.Test.YtbbkiinopmnapaaR3W11
import Derived.Test.YtbbkiinopmnapaaR3W12
import Derived.Test.YtbbkiinopmnapaaR3W13
namespace Go.Vam
open Go Go.RowKit Go.Proofs
set_option maxRecDepth 100000
set_option linter.unusedSimpArgs false
set_option linter.unusedVariables false

theorem l_FnExactInnerDerivation_ok {a0_0 : Int} {a0_1 : List Int} {a1 : List Int} {a2 : List Int} {r : Bool} (h : l_FnExactInnerDerivation a0_0 a0_1 a1 a2 = some r) :
    VCall Try.prog 13 [.agg [i64 a0_0, dI a0_1], dI a1, dI a2] [.sc (.bool r)] := by
  unfold l_FnExactInnerDerivation at h
  refine VCall.enter Try.call13 Try.func13 rfl 138 Try.ntmps13 (by simp) [.tmp 6] rfl ?_
  show VW _ _ _ (mk [(0, .val (.agg [i64 a0_0, dI a0_1])), (1, .val (dI a1)), (2, .val (dI a2))]) _
  -- region 0
  refine VW.ws tau_ok Sound.none [some 3, some 6] [(1, .val (dI a1)), (2, .val (dI a2)), (3, .val (.ptr [i64 a0_0, dI a0_1]))] rfl ?_ ?_
  · simp <;> simp [ieq, ilt, ile]
  refine VW.sqc fun K1 hK1 hCK1 => ?_
  -- region 1
  refine VW.ws tau_ok Sound.none [some 20, some 21, some 22] [(1, .val (dI a1)), (2, .val (dI a2)), (3, .val (.ptr [i64 a0_0, dI a0_1])), (22, .val (.bool (ilt 1048576 (a1.length : Int))))] rfl ?_ ?_
  · simp <;> simp [ieq, ilt, ile]
  refine VW.cond rfl (fun hb2 => ?_) (fun hb2 => ?_)
  ·
    replace hb2 : 1048576 < (a1.length : Int) := by simpa [ieq, ilt, ile] using hb2
    rw [if_pos hb2] at h
    -- region 2
    refine VW.ws tau_ok Sound.none [some 6] [(6, .val (.bool true))] rfl ?_ ?_
    · simp <;> simp [ieq, ilt, ile]
    cases h
    refine VW.ret ?_
    simp [Post, PostM, PostC, PostC2, Nx, Bk]
  replace hb2 : ¬ (1048576 < (a1.length : Int)) := by simpa [ieq, ilt, ile] using hb2
  rw [if_neg hb2] at h
  refine VW.skip ?_
  refine hK1 _ ?_
  refine VW.sqc fun K3 hK3 hCK3 => ?_
  -- region 3
  refine VW.ws tau_ok Sound.none [some 23, some 24, some 25] [(1, .val (dI a1)), (2, .val (dI a2)), (3, .val (.ptr [i64 a0_0, dI a0_1])), (25, .val (.bool (ilt 1048576 (a2.length : Int))))] rfl ?_ ?_
  · simp <;> simp [ieq, ilt, ile]
  refine VW.cond rfl (fun hb4 => ?_) (fun hb4 => ?_)
  ·
    replace hb4 : 1048576 < (a2.length : Int) := by simpa [ieq, ilt, ile] using hb4
    rw [if_pos hb4] at h
    -- region 4
    refine VW.ws tau_ok Sound.none [some 6] [(6, .val (.bool true))] rfl ?_ ?_
    · simp <;> simp [ieq, ilt, ile]
    cases h
    refine VW.ret ?_
    simp [Post, PostM, PostC, PostC2, Nx, Bk]
  replace hb4 : ¬ (1048576 < (a2.length : Int)) := by simpa [ieq, ilt, ile] using hb4
  rw [if_neg hb4] at h
  refine VW.skip ?_
  refine hK3 _ ?_
  -- region 5
  refine VW.ws tau_ok Sound.none [some 7] [(1, .val (dI a1)), (2, .val (dI a2)), (3, .val (.ptr [i64 a0_0, dI a0_1])), (7, .val (i64 1048576))] rfl ?_ ?_
  · simp <;> simp [ieq, ilt, ile]
  -- region 6
  obtain ⟨v5, hv5, h⟩ := bind_some h
  refine VW.ws tau_ok (Sound.none.add 28 (l_szDoubling_ok hv5) rfl) [some 26, some 27, some 28, some 7] [(1, .val (dI a1)), (2, .val (dI a2)), (3, .val (.ptr [i64 a0_0, dI a0_1])), (7, .val (i64 v5))] rfl ?_ ?_
  · simp <;> simp [ieq, ilt, ile]
  refine VW.sqc fun K6 hK6 hCK6 => ?_
  -- region 7
  refine VW.ws tau_ok Sound.none [some 29, some 30] [(1, .val (dI a1)), (2, .val (dI a2)), (3, .val (.ptr [i64 a0_0, dI a0_1])), (30, .val (.bool (ilt v5 0)))] rfl ?_ ?_
  · simp <;> simp [ieq, ilt, ile]
  refine VW.cond rfl (fun hb7 => ?_) (fun hb7 => ?_)
  ·
    replace hb7 : v5 < 0 := by simpa [ieq, ilt, ile] using hb7
    rw [if_pos hb7] at h
    -- region 8
    refine VW.ws tau_ok Sound.none [some 6] [(6, .val (.bool true))] rfl ?_ ?_
    · simp <;> simp [ieq, ilt, ile]
    cases h
    refine VW.ret ?_
    simp [Post, PostM, PostC, PostC2, Nx, Bk]
  replace hb7 : ¬ (v5 < 0) := by simpa [ieq, ilt, ile] using hb7
  rw [if_neg hb7] at h
  refine VW.skip ?_
  refine hK6 _ ?_
  -- region 9
  obtain ⟨v8, hv8, h⟩ := bind_some h
  obtain ⟨v9, hv9, h⟩ := bind_some h
  obtain ⟨v10, hv10, h⟩ := bind_some h
  obtain ⟨v11, hv11, h⟩ := bind_some h
  refine VW.ws tau_ok ((((Sound.none.add 33 (l_toDoubling_ok hv8) rfl).add 35 (l_toInt64S_ok hv9) rfl).add 37 (l_toInt64S_ok hv10) rfl).add 38 (s_InnerDerivation_ok hv11) rfl) [some 32, some 33, some 34, some 35, some 36, some 37, some 38, some 31, some 39, some 40, some 8, some 9] [(1, .val (dI a1)), (2, .val (dI a2)), (3, .val (.ptr [i64 a0_0, dI a0_1])), (8, .ref 8 [] true (dM v11.1)), (9, .val (i64 v11.2))] rfl ?_ ?_
  · simp <;> simp [ieq, ilt, ile]
  -- region 10
  obtain ⟨v12, hv12, h⟩ := bind_some h
  refine VW.ws tau_ok (Sound.none.add 42 (l_toDoubling_ok hv12) rfl) [some 41, some 42, some 10, none] [(1, .val (dI a1)), (2, .val (dI a2)), (3, .val (.ptr [i64 a0_0, dI a0_1])), (8, .ref 8 [] true (dM v11.1)), (9, .val (i64 v11.2)), (10, .ref 10 [] true (.ptr [i64 v12.1, dI v12.2]))] rfl ?_ ?_
  · simp <;> simp [ieq, ilt, ile]
  -- region 11
  obtain ⟨v13, hv13, h⟩ := bind_some h
  refine VW.ws tau_ok (Sound.none.add 44 (l_toInt64S_ok hv13) rfl) [some 43, some 44, some 11] [(1, .val (dI a1)), (2, .val (dI a2)), (3, .val (.ptr [i64 a0_0, dI a0_1])), (8, .ref 8 [] true (dM v11.1)), (9, .val (i64 v11.2)), (10, .ref 10 [] true (.ptr [i64 v12.1, dI v12.2])), (11, .ref 11 [] true (dI v13))] rfl ?_ ?_
  · simp <;> simp [ieq, ilt, ile]
  -- region 12
  obtain ⟨v14, hv14, h⟩ := bind_some h
  refine VW.ws tau_ok (Sound.none.add 46 (l_toInt64S_ok hv14) rfl) [some 45, some 46, some 12] [(1, .val (dI a1)), (2, .val (dI a2)), (3, .val (.ptr [i64 a0_0, dI a0_1])), (8, .ref 8 [] true (dM v11.1)), (9, .val (i64 v11.2)), (10, .ref 10 [] true (.ptr [i64 v12.1, dI v12.2])), (11, .ref 11 [] true (dI v13)), (12, .ref 12 [] true (dI v14))] rfl ?_ ?_
  · simp <;> simp [ieq, ilt, ile]
  -- region 13
  obtain ⟨v15, hv15, h⟩ := bind_some h
  refine VW.ws tau_ok (Sound.none.add 51 (i_InnerDerivation_ok hv15) rfl) [some 48, some 49, some 50, some 51, some 47, some 52, some 53, some 13, some 14] [(1, .val (dI a1)), (2, .val (dI a2)), (3, .val (.ptr [i64 a0_0, dI a0_1])), (8, .ref 8 [] true (dM v11.1)), (9, .val (i64 v11.2)), (10, .ref 10 [] true (.ptr [i64 v12.1, dI v12.2])), (11, .ref 11 [] true (dI v13)), (12, .ref 12 [] true (dI v14)), (13, .ref 13 [] true (dM v15.1)), (14, .val (i64 v15.2))] rfl ?_ ?_
  · simp <;> simp [ieq, ilt, ile]
  refine VW.sqc fun K16 hK16 hCK16 => ?_
  -- region 14
  obtain ⟨x19, hx19, h⟩ := bind_some h
  refine VW.cut [(1, .val (dI a1)), (2, .val (dI a2)), (3, .val (.ptr [i64 a0_0, dI a0_1])), (8, .ref 8 [] true (dM v11.1)), (9, .val (i64 v11.2)), (10, .ref 10 [] true (.ptr [i64 v12.1, dI v12.2])), (11, .ref 11 [] true (dI v13)), (12, .ref 12 [] true (dI v14)), (13, .ref 13 [] true (dM v15.1)), (14, .val (i64 v15.2)), (62, .val (.bool x19))] ?_ fun hy => ?_
  rotate_left
  · clear h
    obtain ⟨v17, hv17, hx19⟩ := bind_some hx19
    by_cases hp18 : v17 = false
    · rw [if_pos hp18] at hx19
      have hp18b : v17 = false := by simpa [ieq, ilt, ile] using hp18
      have hp18s := hp18b
      try simp at hp18s
      cases hx19
      refine VW.ws tau_ok (Sound.none.add 56 (l_eqInt64SS_ok hv17) rfl) [some 54, some 55, some 56, some 57, some 58, some 59, some 60, some 61, some 62] _ rfl ?_ hy
      simp [hp18b, hp18s] <;> simp [ieq, ilt, ile]
    · rw [if_neg hp18] at hx19
      have hp18b : v17 = true := by simpa [ieq, ilt, ile] using hp18
      have hp18s := hp18b
      try simp at hp18s
      cases hx19
      refine VW.ws tau_ok (Sound.none.add 56 (l_eqInt64SS_ok hv17) rfl) [some 54, some 55, some 56, some 57, some 58, some 59, some 60, some 61, some 62] _ rfl ?_ hy
      simp [hp18b, hp18s] <;> simp [ieq, ilt, ile]
  refine VW.cond rfl (fun hb20 => ?_) (fun hb20 => ?_)
  ·
    replace hb20 : x19 = true := by simpa [ieq, ilt, ile] using hb20
    rw [if_pos hb20] at h
    -- region 15
    refine VW.ws tau_ok Sound.none [some 6] [(6, .val (.bool false))] rfl ?_ ?_
    · simp <;> simp [ieq, ilt, ile]
    cases h
    refine VW.ret ?_
    simp [Post, PostM, PostC, PostC2, Nx, Bk]
  replace hb20 : ¬ (x19 = true) := by simpa [ieq, ilt, ile] using hb20
  rw [if_neg hb20] at h
  refine VW.skip ?_
  refine hK16 _ ?_
  refine VW.sqc fun K21 hK21 hCK21 => ?_
  -- region 16
  obtain ⟨v22, hv22, h⟩ := bind_some h
  obtain ⟨v23, hv23, h⟩ := bind_some h
  refine VW.wds tau_ok ((Sound.none.add 65 (l_toDoubling_ok hv22) rfl).add 66 (l_eqDoubling_ok hv23) rfl) try_mixed [some 63, some 64, some 65, some 66, some 67] [(1, .val (dI a1)), (2, .val (dI a2)), (3, .val (.ptr [i64 a0_0, dI a0_1])), (8, .ref 8 [] true (dM v11.1)), (9, .val (i64 v11.2)), (10, .ref 10 [] true (.ptr [i64 v12.1, dI v12.2])), (11, .ref 11 [] true (dI v13)), (12, .ref 12 [] true (dI v14)), (13, .ref 13 [] true (dM v15.1)), (14, .val (i64 v15.2)), (67, .val (.bool (!v23)))] 5 rfl (by kernel_rfl) (by rfl) ?_ ?_
  · simp <;> simp [ieq, ilt, ile]
  refine VW.cond rfl (fun hb24 => ?_) (fun hb24 => ?_)
  ·
    replace hb24 : v23 = false := by simpa [ieq, ilt, ile] using hb24
    rw [if_pos hb24] at h
    -- region 17
    refine VW.ws tau_ok Sound.none [some 6] [(6, .val (.bool false))] rfl ?_ ?_
    · simp <;> simp [ieq, ilt, ile]
    cases h
    refine VW.ret ?_
    simp [Post, PostM, PostC, PostC2, Nx, Bk]
  replace hb24 : ¬ (v23 = false) := by simpa [ieq, ilt, ile] using hb24
  rw [if_neg hb24] at h
  refine VW.skip ?_
  refine hK21 _ ?_
  refine VW.sqc fun K25 hK25 hCK25 => ?_
  -- region 18
  obtain ⟨v26, hv26, h⟩ := bind_some h
  obtain ⟨v27, hv27, h⟩ := bind_some h
  refine VW.ws tau_ok ((Sound.none.add 70 (l_toInt64S_ok hv26) rfl).add 71 (l_eqInt64S_ok hv27) rfl) [some 68, some 69, some 70, some 71, some 72] [(1, .val (dI a1)), (2, .val (dI a2)), (3, .val (.ptr [i64 a0_0, dI a0_1])), (8, .ref 8 [] true (dM v11.1)), (9, .val (i64 v11.2)), (10, .ref 10 [] true (.ptr [i64 v12.1, dI v12.2])), (11, .ref 11 [] true (dI v13)), (12, .ref 12 [] true (dI v14)), (13, .ref 13 [] true (dM v15.1)), (14, .val (i64 v15.2)), (72, .val (.bool (!v27)))] rfl ?_ ?_
  · simp <;> simp [ieq, ilt, ile]
  refine VW.cond rfl (fun hb28 => ?_) (fun hb28 => ?_)
  ·
    replace hb28 : v27 = false := by simpa [ieq, ilt, ile] using hb28
    rw [if_pos hb28] at h
    -- region 19
    refine VW.ws tau_ok Sound.none [some 6] [(6, .val (.bool false))] rfl ?_ ?_
    · simp <;> simp [ieq, ilt, ile]
    cases h
    refine VW.ret ?_
    simp [Post, PostM, PostC, PostC2, Nx, Bk]
  replace hb28 : ¬ (v27 = false) := by simpa [ieq, ilt, ile] using hb28
  rw [if_neg hb28] at h
  refine VW.skip ?_
  refine hK25 _ ?_
  refine VW.sqc fun K29 hK29 hCK29 => ?_
  -- region 20
  obtain ⟨v30, hv30, h⟩ := bind_some h
  obtain ⟨v31, hv31, h⟩ := bind_some h
  refine VW.ws tau_ok ((Sound.none.add 75 (l_toInt64S_ok hv30) rfl).add 76 (l_eqInt64S_ok hv31) rfl) [some 73, some 74, some 75, some 76, some 77] [(1, .val (dI a1)), (2, .val (dI a2)), (3, .val (.ptr [i64 a0_0, dI a0_1])), (8, .ref 8 [] true (dM v11.1)), (9, .val (i64 v11.2)), (10, .ref 10 [] true (.ptr [i64 v12.1, dI v12.2])), (11, .ref 11 [] true (dI v13)), (12, .ref 12 [] true (dI v14)), (13, .ref 13 [] true (dM v15.1)), (14, .val (i64 v15.2)), (77, .val (.bool (!v31)))] rfl ?_ ?_
  · simp <;> simp [ieq, ilt, ile]
  refine VW.cond rfl (fun hb32 => ?_) (fun hb32 => ?_)
  ·
    replace hb32 : v31 = false := by simpa [ieq, ilt, ile] using hb32
    rw [if_pos hb32] at h
    -- region 21
    refine VW.ws tau_ok Sound.none [some 6] [(6, .val (.bool false))] rfl ?_ ?_
    · simp <;> simp [ieq, ilt, ile]
    cases h
    refine VW.ret ?_
    simp [Post, PostM, PostC, PostC2, Nx, Bk]
  replace hb32 : ¬ (v31 = false) := by simpa [ieq, ilt, ile] using hb32
  rw [if_neg hb32] at h
  refine VW.skip ?_
  refine hK29 _ ?_
  -- region 22
  refine VW.ws tau_ok Sound.none [some 15] [(1, .val (dI a1)), (2, .val (dI a2)), (3, .val (.ptr [i64 a0_0, dI a0_1])), (8, .ref 8 [] true (dM v11.1)), (9, .val (i64 v11.2)), (10, .ref 10 [] true (.ptr [i64 v12.1, dI v12.2])), (11, .ref 11 [] true (dI v13)), (12, .ref 12 [] true (dI v14)), (13, .ref 13 [] true (dM v15.1)), (14, .val (i64 v15.2)), (15, .val (i64 1))] rfl ?_ ?_
  · simp <;> simp [ieq, ilt, ile]
  -- region 23
  obtain ⟨v33, hv33, h⟩ := bind_some h
  refine VW.ws tau_ok (Sound.none.spoilc 80 (l_markDoubling_ok hv33)) [some 78, some 79, some 80, some 15] [(1, .val (dI a1)), (2, .val (dI a2)), (3, .val (.ptr [i64 a0_0, dI a0_1])), (8, .ref 8 [] true (dM v11.1)), (9, .val (i64 v11.2)), (11, .ref 11 [] true (dI v13)), (12, .ref 12 [] true (dI v14)), (13, .ref 13 [] true (dM v15.1)), (14, .val (i64 v15.2)), (15, .val (i64 v33))] rfl ?_ ?_
  · simp <;> simp [ieq, ilt, ile]
  -- region 24
  obtain ⟨v34, hv34, h⟩ := bind_some h
  refine VW.ws tau_ok (Sound.none.mutc 83 (l_markInt64S_ok hv34)) [some 81, some 82, some 83, some 15] [(1, .val (dI a1)), (2, .val (dI a2)), (3, .val (.ptr [i64 a0_0, dI a0_1])), (8, .ref 8 [] true (dM v11.1)), (9, .val (i64 v11.2)), (12, .ref 12 [] true (dI v14)), (13, .ref 13 [] true (dM v15.1)), (14, .val (i64 v15.2)), (15, .val (i64 v34.1))] rfl ?_ ?_
  · simp <;> simp [ieq, ilt, ile]
  -- region 25
  obtain ⟨v35, hv35, h⟩ := bind_some h
  refine VW.ws tau_ok (Sound.none.mutc 86 (l_markInt64S_ok hv35)) [some 84, some 85, some 86, some 15] [(1, .val (dI a1)), (2, .val (dI a2)), (3, .val (.ptr [i64 a0_0, dI a0_1])), (8, .ref 8 [] true (dM v11.1)), (9, .val (i64 v11.2)), (13, .ref 13 [] true (dM v15.1)), (14, .val (i64 v15.2)), (15, .val (i64 v35.1))] rfl ?_ ?_
  · simp <;> simp [ieq, ilt, ile]
  refine VW.sqc fun K36 hK36 hCK36 => ?_
  -- region 26
  obtain ⟨x40, hx40, h⟩ := bind_some h
  refine VW.cut [(1, .val (dI a1)), (2, .val (dI a2)), (3, .val (.ptr [i64 a0_0, dI a0_1])), (8, .ref 8 [] true (dM v11.1)), (9, .val (i64 v11.2)), (13, .ref 13 [] true (dM v15.1)), (99, .val (.bool x40))] ?_ fun hy => ?_
  rotate_left
  · clear h
    by_cases hp37 : v35.1 < 0
    · rw [if_pos hp37] at hx40
      have hp37b : ilt v35.1 0 = true := by simpa [ieq, ilt, ile] using hp37
      have hp37s := hp37b
      try simp at hp37s
      cases hx40
      refine VW.ws tau_ok Sound.none [some 87, some 88, some 89, some 90, some 91, some 92, some 93, some 94, some 95, some 96, some 97, some 98, some 99] _ rfl ?_ hy
      simp [hp37b, hp37s] <;> simp [ieq, ilt, ile]
    · rw [if_neg hp37] at hx40
      have hp37b : ilt v35.1 0 = false := by simpa [ieq, ilt, ile] using hp37
      have hp37s := hp37b
      try simp at hp37s
      obtain ⟨v38, hv38, hx40⟩ := bind_some hx40
      by_cases hp39 : v38 = false
      · rw [if_pos hp39] at hx40
        have hp39b : v38 = false := by simpa [ieq, ilt, ile] using hp39
        have hp39s := hp39b
        try simp at hp39s
        cases hx40
        refine VW.ws tau_ok (Sound.none.add 92 (l_eqInt64SS_ok hv38) rfl) [some 87, some 88, some 89, some 90, some 91, some 92, some 93, some 94, some 95, some 96, some 97, some 98, some 99] _ rfl ?_ hy
        simp [hp37b, hp37s, hp39b, hp39s] <;> simp [ieq, ilt, ile]
      · rw [if_neg hp39] at hx40
        have hp39b : v38 = true := by simpa [ieq, ilt, ile] using hp39
        have hp39s := hp39b
        try simp at hp39s
        cases hx40
        refine VW.ws tau_ok (Sound.none.add 92 (l_eqInt64SS_ok hv38) rfl) [some 87, some 88, some 89, some 90, some 91, some 92, some 93, some 94, some 95, some 96, some 97, some 98, some 99] _ rfl ?_ hy
        simp [hp37b, hp37s, hp39b, hp39s] <;> simp [ieq, ilt, ile]
  refine VW.cond rfl (fun hb41 => ?_) (fun hb41 => ?_)
  ·
    replace hb41 : x40 = true := by simpa [ieq, ilt, ile] using hb41
    rw [if_pos hb41] at h
    -- region 27
    refine VW.ws tau_ok Sound.none [some 6] [(6, .val (.bool false))] rfl ?_ ?_
    · simp <;> simp [ieq, ilt, ile]
    cases h
    refine VW.ret ?_
    simp [Post, PostM, PostC, PostC2, Nx, Bk]
  replace hb41 : ¬ (x40 = true) := by simpa [ieq, ilt, ile] using hb41
  rw [if_neg hb41] at h
  refine VW.skip ?_
  refine hK36 _ ?_
  -- region 28
  refine VW.ws tau_ok Sound.none [some 16] [(1, .val (dI a1)), (2, .val (dI a2)), (3, .val (.ptr [i64 a0_0, dI a0_1])), (8, .ref 8 [] true (dM v11.1)), (9, .val (i64 v11.2)), (13, .ref 13 [] true (dM v15.1)), (16, .val (i64 1))] rfl ?_ ?_
  · simp <;> simp [ieq, ilt, ile]
  -- region 29
  obtain ⟨v42, hv42, h⟩ := bind_some h
  refine VW.ws tau_ok (Sound.none.mutc 102 (l_markInt64SS_ok hv42)) [some 100, some 101, some 102, some 16] [(1, .val (dI a1)), (2, .val (dI a2)), (3, .val (.ptr [i64 a0_0, dI a0_1])), (8, .ref 8 [] true (dM v11.1)), (9, .val (i64 v11.2)), (13, .ref 13 [] true (dM v42.2)), (16, .val (i64 v42.1))] rfl ?_ ?_
  · simp <;> simp [ieq, ilt, ile]
  -- region 30
  refine VW.ws tau_ok Sound.none [some 17] [(1, .val (dI a1)), (2, .val (dI a2)), (3, .val (.ptr [i64 a0_0, dI a0_1])), (8, .ref 8 [] true (dM v11.1)), (9, .val (i64 v11.2)), (13, .ref 13 [] true (dM v42.2)), (16, .val (i64 v42.1)), (17, .val (i64 1))] rfl ?_ ?_
  · simp <;> simp [ieq, ilt, ile]
  -- region 31
  obtain ⟨v43, hv43, h⟩ := bind_some h
  refine VW.ws tau_ok (Sound.none.add 105 (l_heldInt64SS_ok hv43) rfl) [some 103, some 104, some 105, some 17] [(1, .val (dI a1)), (2, .val (dI a2)), (3, .val (.ptr [i64 a0_0, dI a0_1])), (8, .ref 8 [] true (dM v11.1)), (9, .val (i64 v11.2)), (13, .ref 13 [] true (dM v42.2)), (16, .val (i64 v42.1)), (17, .val (i64 v43))] rfl ?_ ?_
  · simp <;> simp [ieq, ilt, ile]
  refine VW.sqc fun K44 hK44 hCK44 => ?_
  -- region 32
  refine VW.ws tau_ok Sound.none [some 106, some 107] [(1, .val (dI a1)), (2, .val (dI a2)), (3, .val (.ptr [i64 a0_0, dI a0_1])), (8, .ref 8 [] true (dM v11.1)), (9, .val (i64 v11.2)), (13, .ref 13 [] true (dM v42.2)), (16, .val (i64 v42.1)), (17, .val (i64 v43)), (107, .val (.bool (ilt v43 0)))] rfl ?_ ?_
  · simp <;> simp [ieq, ilt, ile]
  refine VW.cond rfl (fun hb45 => ?_) (fun hb45 => ?_)
  ·
    replace hb45 : v43 < 0 := by simpa [ieq, ilt, ile] using hb45
    rw [if_pos hb45] at h
    -- region 33
    refine VW.ws tau_ok Sound.none [some 6] [(6, .val (.bool false))] rfl ?_ ?_
    · simp <;> simp [ieq, ilt, ile]
    cases h
    refine VW.ret ?_
    simp [Post, PostM, PostC, PostC2, Nx, Bk]
  replace hb45 : ¬ (v43 < 0) := by simpa [ieq, ilt, ile] using hb45
  rw [if_neg hb45] at h
  refine VW.skip ?_
  refine hK44 _ ?_
  refine VW.sqc fun K46 hK46 hCK46 => ?_
  -- region 34
  refine VW.ws tau_ok Sound.none [some 108, some 109, some 110] [(1, .val (dI a1)), (2, .val (dI a2)), (3, .val (.ptr [i64 a0_0, dI a0_1])), (8, .ref 8 [] true (dM v11.1)), (9, .val (i64 v11.2)), (13, .ref 13 [] true (dM v42.2)), (16, .val (i64 v42.1)), (110, .val (.bool (!(ieq v43 v42.1))))] rfl ?_ ?_
  · simp <;> simp [ieq, ilt, ile]
  refine VW.cond rfl (fun hb47 => ?_) (fun hb47 => ?_)
  ·
    replace hb47 : ¬ v43 = v42.1 := by simpa [ieq, ilt, ile] using hb47
    rw [if_pos hb47] at h
    -- region 35
    refine VW.ws tau_ok Sound.none [some 6] [(6, .val (.bool false))] rfl ?_ ?_
    · simp <;> simp [ieq, ilt, ile]
    cases h
    refine VW.ret ?_
    simp [Post, PostM, PostC, PostC2, Nx, Bk]
  replace hb47 : ¬ (¬ v43 = v42.1) := by simpa [ieq, ilt, ile] using hb47
  rw [if_neg hb47] at h
  refine VW.skip ?_
  refine hK46 _ ?_
  -- region 36
  obtain ⟨v48, hv48, h⟩ := bind_some h
  obtain ⟨v49, hv49, h⟩ := bind_some h
  obtain ⟨v50, hv50, h⟩ := bind_some h
  obtain ⟨v51, hv51, h⟩ := bind_some h
  refine VW.ws tau_ok ((((Sound.none.add 113 (l_toDoubling_ok hv48) rfl).add 115 (l_toInt64S_ok hv49) rfl).add 117 (l_toInt64S_ok hv50) rfl).add 118 (i_InnerDerivation_ok hv51) rfl) [some 112, some 113, some 114, some 115, some 116, some 117, some 118, some 111, some 119, some 120, some 18, some 19] [(8, .ref 8 [] true (dM v11.1)), (9, .val (i64 v11.2)), (13, .ref 13 [] true (dM v42.2)), (16, .val (i64 v42.1)), (18, .ref 18 [] true (dM v51.1)), (19, .val (i64 v51.2))] rfl ?_ ?_
  · simp <;> simp [ieq, ilt, ile]
  refine VW.sqc fun K52 hK52 hCK52 => ?_
  -- region 37
  obtain ⟨x55, hx55, h⟩ := bind_some h
  refine VW.cut [(13, .ref 13 [] true (dM v42.2)), (16, .val (i64 v42.1)), (129, .val (.bool x55))] ?_ fun hy => ?_
  rotate_left
  · clear h
    obtain ⟨v53, hv53, hx55⟩ := bind_some hx55
    by_cases hp54 : v53 = false
    · rw [if_pos hp54] at hx55
      have hp54b : v53 = false := by simpa [ieq, ilt, ile] using hp54
      have hp54s := hp54b
      try simp at hp54s
      cases hx55
      refine VW.ws tau_ok (Sound.none.add 123 (l_eqInt64SS_ok hv53) rfl) [some 121, some 122, some 123, some 124, some 125, some 126, some 127, some 128, some 129] _ rfl ?_ hy
      simp [hp54b, hp54s] <;> simp [ieq, ilt, ile]
    · rw [if_neg hp54] at hx55
      have hp54b : v53 = true := by simpa [ieq, ilt, ile] using hp54
      have hp54s := hp54b
      try simp at hp54s
      cases hx55
      refine VW.ws tau_ok (Sound.none.add 123 (l_eqInt64SS_ok hv53) rfl) [some 121, some 122, some 123, some 124, some 125, some 126, some 127, some 128, some 129] _ rfl ?_ hy
      simp [hp54b, hp54s] <;> simp [ieq, ilt, ile]
  refine VW.cond rfl (fun hb56 => ?_) (fun hb56 => ?_)
  ·
    replace hb56 : x55 = true := by simpa [ieq, ilt, ile] using hb56
    rw [if_pos hb56] at h
    -- region 38
    refine VW.ws tau_ok Sound.none [some 6] [(6, .val (.bool false))] rfl ?_ ?_
    · simp <;> simp [ieq, ilt, ile]
    cases h
    refine VW.ret ?_
    simp [Post, PostM, PostC, PostC2, Nx, Bk]
  replace hb56 : ¬ (x55 = true) := by simpa [ieq, ilt, ile] using hb56
  rw [if_neg hb56] at h
  refine VW.skip ?_
  refine hK52 _ ?_
  -- region 39
  refine VW.ws tau_ok Sound.none [some 17] [(13, .ref 13 [] true (dM v42.2)), (16, .val (i64 v42.1)), (17, .val (i64 1))] rfl ?_ ?_
  · simp <;> simp [ieq, ilt, ile]
  -- region 40
  obtain ⟨v57, hv57, h⟩ := bind_some h
  refine VW.ws tau_ok (Sound.none.add 132 (l_heldInt64SS_ok hv57) rfl) [some 130, some 131, some 132, some 17] [(16, .val (i64 v42.1)), (17, .val (i64 v57))] rfl ?_ ?_
  · simp <;> simp [ieq, ilt, ile]
  refine VW.sqc fun K58 hK58 hCK58 => ?_
  -- region 41
  refine VW.ws tau_ok Sound.none [some 133, some 134] [(16, .val (i64 v42.1)), (17, .val (i64 v57)), (134, .val (.bool (ilt v57 0)))] rfl ?_ ?_
  · simp <;> simp [ieq, ilt, ile]
  refine VW.cond rfl (fun hb59 => ?_) (fun hb59 => ?_)
  ·
    replace hb59 : v57 < 0 := by simpa [ieq, ilt, ile] using hb59
    rw [if_pos hb59] at h
    -- region 42
    refine VW.ws tau_ok Sound.none [some 6] [(6, .val (.bool false))] rfl ?_ ?_
    · simp <;> simp [ieq, ilt, ile]
    cases h
    refine VW.ret ?_
    simp [Post, PostM, PostC, PostC2, Nx, Bk]
  replace hb59 : ¬ (v57 < 0) := by simpa [ieq, ilt, ile] using hb59
  rw [if_neg hb59] at h
  refine VW.skip ?_
  refine hK58 _ ?_
  refine VW.sqc fun K60 hK60 hCK60 => ?_
  -- region 43
  refine VW.ws tau_ok Sound.none [some 135, some 136, some 137] [(137, .val (.bool (!(ieq v57 v42.1))))] rfl ?_ ?_
  · simp <;> simp [ieq, ilt, ile]
  refine VW.cond rfl (fun hb61 => ?_) (fun hb61 => ?_)
  ·
    replace hb61 : ¬ v57 = v42.1 := by simpa [ieq, ilt, ile] using hb61
    rw [if_pos hb61] at h
    -- region 44
    refine VW.ws tau_ok Sound.none [some 6] [(6, .val (.bool false))] rfl ?_ ?_
    · simp <;> simp [ieq, ilt, ile]
    cases h
    refine VW.ret ?_
    simp [Post, PostM, PostC, PostC2, Nx, Bk]
  replace hb61 : ¬ (¬ v57 = v42.1) := by simpa [ieq, ilt, ile] using hb61
  rw [if_neg hb61] at h
  refine VW.skip ?_
  refine hK60 _ ?_
  -- region 45
  refine VW.ws tau_ok Sound.none [some 6] [(6, .val (.bool true))] rfl ?_ ?_
  · simp <;> simp [ieq, ilt, ile]
  cases h
  refine VW.ret ?_
  simp [Post, PostM, PostC, PostC2, Nx, Bk]

theorem s_l08Code_ok {a0_0 : Int} {a0_1 : List Int} {a1 : List (List Int)} {r : Int} (h : s_l08Code a0_0 a0_1 a1 = some r) :
    VCall Try.prog 141 [.agg [i64 a0_0, dI a0_1], dM a1] [.sc (i64 r)] := by
  unfold s_l08Code at h
  refine VCall.enter Try.call141 Try.func141 rfl 20 Try.ntmps141 (by simp) [.tmp 4] rfl ?_
  show VW _ _ _ (mk [(0, .val (.agg [i64 a0_0, dI a0_1])), (1, .val (dM a1))]) _
  -- region 0
  refine VW.ws tau_ok Sound.none [some 2, some 4] [(1, .val (dM a1)), (2, .val (.ptr [i64 a0_0, dI a0_1]))] rfl ?_ ?_
  · simp <;> simp [ieq, ilt, ile]
  -- region 1
  obtain ⟨v1, hv1, h⟩ := bind_some h
  refine VW.ws tau_ok (Sound.none.add 10 (s_IsOrthogonal_ok hv1) rfl) [some 8, some 9, some 10, some 7, some 11, some 12, some 5, some 6] [(5, .val (.bool v1.1)), (6, .val (i64 v1.2))] rfl ?_ ?_
  · simp <;> simp [ieq, ilt, ile]
  refine VW.sqc fun K2 hK2 hCK2 => ?_
  -- region 2
  obtain ⟨x4, hx4, h⟩ := bind_some h
  refine VW.cut [(6, .val (i64 v1.2)), (18, .val (.bool x4))] ?_ fun hy => ?_
  rotate_left
  · clear h
    by_cases hp3 : v1.2 = 0
    · rw [if_pos hp3] at hx4
      have hp3b : ieq v1.2 0 = true := by simpa [ieq, ilt, ile] using hp3
      have hp3s := hp3b
      try simp at hp3s
      cases hx4
      refine VW.ws tau_ok Sound.none [some 13, some 14, some 15, some 16, some 17, some 18] _ rfl ?_ hy
      simp [hp3b, hp3s] <;> simp [ieq, ilt, ile]
    · rw [if_neg hp3] at hx4
      have hp3b : ieq v1.2 0 = false := by simpa [ieq, ilt, ile] using hp3
      have hp3s := hp3b
      try simp at hp3s
      cases hx4
      refine VW.ws tau_ok Sound.none [some 13, some 14, some 15, some 16, some 17, some 18] _ rfl ?_ hy
      simp [hp3b, hp3s] <;> simp [ieq, ilt, ile]
  obtain ⟨x5, hx5, h⟩ := bind_some h
  refine VW.tlE [(6, .val (i64 x5))] (hCK2) ?_ ?_
  · clear hx5
    refine hK2 _ ?_
    -- region 4
    refine VW.ws tau_ok Sound.none [some 19, some 4] [(4, .val (i64 x5))] rfl ?_ ?_
    · simp <;> simp [ieq, ilt, ile]
    cases h
    refine VW.ret ?_
    simp [Post, PostM, PostC, PostC2, Nx, Bk]
  refine VW.cond rfl (fun hb7 => ?_) (fun hb7 => ?_)
  rotate_left
  ·
    replace hb7 : ¬ (x4 = true) := by simpa [ieq, ilt, ile] using hb7
    rw [if_neg hb7] at hx5
    refine VW.skip ?_
    cases hx5
    exact Fits.of rfl
  replace hb7 : x4 = true := by simpa [ieq, ilt, ile] using hb7
  rw [if_pos hb7] at hx5
  -- region 3
  refine VW.wr tau_ok Sound.none [some 6] [(6, .val (i64 2))] rfl ?_ ?_
  · simp <;> simp [ieq, ilt, ile]
  cases hx5
  exact Fits.of rfl

theorem s_IsProper_ok {a0_0 : Int} {a0_1 : List Int} {a1 : List (List Int)} {r : Bool × Int} (h : s_IsProper a0_0 a0_1 a1 = some r) :
    VCall Try.prog 76 [.agg [i64 a0_0, dI a0_1], dM a1] [.sc (.bool r.1), .sc (i64 r.2)] := by
  unfold s_IsProper at h
  refine VCall.enter Try.call76 Try.func76 rfl 18 Try.ntmps76 (by simp) [.tmp 4, .tmp 5] rfl ?_
  show VW _ _ _ (mk [(0, .val (.agg [i64 a0_0, dI a0_1])), (1, .val (dM a1))]) _
  -- region 0
  refine VW.ws tau_ok Sound.none [some 2, some 4, some 5] [(1, .val (dM a1)), (2, .val (.ptr [i64 a0_0, dI a0_1]))] rfl ?_ ?_
  · simp <;> simp [ieq, ilt, ile]
  -- region 1
  obtain ⟨v1, hv1, h⟩ := bind_some h
  refine VW.ws tau_ok (Sound.none.add 9 (s_l08Code_ok hv1) rfl) [some 7, some 8, some 9, some 6] [(1, .val (dM a1)), (2, .val (.ptr [i64 a0_0, dI a0_1])), (6, .val (i64 v1))] rfl ?_ ?_
  · simp <;> simp [ieq, ilt, ile]
  refine VW.sqc fun K2 hK2 hCK2 => ?_
  -- region 2
  refine VW.ws tau_ok Sound.none [some 10, some 11] [(1, .val (dM a1)), (2, .val (.ptr [i64 a0_0, dI a0_1])), (6, .val (i64 v1)), (11, .val (.bool (!(ieq v1 0))))] rfl ?_ ?_
  · simp <;> simp [ieq, ilt, ile]
  refine VW.cond rfl (fun hb3 => ?_) (fun hb3 => ?_)
  ·
    replace hb3 : ¬ v1 = 0 := by simpa [ieq, ilt, ile] using hb3
    rw [if_pos hb3] at h
    -- region 3
    refine VW.ws tau_ok Sound.none [some 12, some 4, some 5] [(4, .val (.bool false)), (5, .val (i64 v1))] rfl ?_ ?_
    · simp <;> simp [ieq, ilt, ile]
    cases h
    refine VW.ret ?_
    simp [Post, PostM, PostC, PostC2, Nx, Bk]
  replace hb3 : ¬ (¬ v1 = 0) := by simpa [ieq, ilt, ile] using hb3
  rw [if_neg hb3] at h
  refine VW.skip ?_
  refine hK2 _ ?_
  -- region 4
  obtain ⟨v4, hv4, h⟩ := bind_some h
  refine VW.ws tau_ok (Sound.none.add 16 (s_l02Det_ok hv4) rfl) [some 13, some 14, some 15, some 16, some 17, some 4, some 5] [(4, .val (.bool (ieq v4 1))), (5, .val (i64 0))] rfl ?_ ?_
  · simp <;> simp [ieq, ilt, ile]
  cases h
  refine VW.ret ?_
  simp [Post, PostM, PostC, PostC2, Nx, Bk]

theorem i_checkOrthogonal_ok {a0_0 : Int} {a0_1 : List Int} {a1 : List (List Int)} {r : Int} (h : i_checkOrthogonal a0_0 a0_1 a1 = some r) :
    VCall Try.prog 143 [.agg [i64 a0_0, dI a0_1], dM a1] [.sc (i64 r)] := by
  unfold i_checkOrthogonal at h
  refine VCall.enter Try.call143 Try.func143 rfl 19 Try.ntmps143 (by simp) [.tmp 4] rfl ?_
  show VW _ _ _ (mk [(0, .val (.agg [i64 a0_0, dI a0_1])), (1, .val (dM a1))]) _
  -- region 0
  refine VW.ws tau_ok Sound.none [some 2, some 4] [(1, .val (dM a1)), (2, .val (.ptr [i64 a0_0, dI a0_1]))] rfl ?_ ?_
  · simp <;> simp [ieq, ilt, ile]
  refine VW.sqc fun K1 hK1 hCK1 => ?_
  refine VW.block ?_
  -- region 1
  obtain ⟨v2, hv2, h⟩ := bind_some h
  refine VW.ws tau_ok (Sound.none.add 7 (i_IsSpace_ok hv2) rfl) [some 6, some 7, some 8, some 5] [(1, .val (dM a1)), (2, .val (.ptr [i64 a0_0, dI a0_1])), (5, .val (.bool (!v2)))] rfl ?_ ?_
  · simp <;> simp [ieq, ilt, ile]
  refine VW.cond rfl (fun hb3 => ?_) (fun hb3 => ?_)
  ·
    replace hb3 : v2 = false := by simpa [ieq, ilt, ile] using hb3
    rw [if_pos hb3] at h
    -- region 2
    refine VW.ws tau_ok Sound.none [some 4] [(4, .val (i64 1))] rfl ?_ ?_
    · simp <;> simp [ieq, ilt, ile]
    cases h
    refine VW.ret ?_
    simp [Post, PostM, PostC, PostC2, Nx, Bk]
  replace hb3 : ¬ (v2 = false) := by simpa [ieq, ilt, ile] using hb3
  rw [if_neg hb3] at h
  -- region 3
  obtain ⟨v4, hv4, h⟩ := bind_some h
  refine VW.ws tau_ok (Sound.none.add 11 (i_Space_regular_ok hv4) rfl) [some 10, some 11, some 12, some 9] [(1, .val (dM a1)), (2, .val (.ptr [i64 a0_0, dI a0_1])), (9, .val (.bool (!v4)))] rfl ?_ ?_
  · simp <;> simp [ieq, ilt, ile]
  refine VW.cond rfl (fun hb5 => ?_) (fun hb5 => ?_)
  ·
    replace hb5 : v4 = false := by simpa [ieq, ilt, ile] using hb5
    rw [if_pos hb5] at h
    -- region 4
    refine VW.ws tau_ok Sound.none [some 4] [(4, .val (i64 5))] rfl ?_ ?_
    · simp <;> simp [ieq, ilt, ile]
    cases h
    refine VW.ret ?_
    simp [Post, PostM, PostC, PostC2, Nx, Bk]
  replace hb5 : ¬ (v4 = false) := by simpa [ieq, ilt, ile] using hb5
  rw [if_neg hb5] at h
  -- region 5
  obtain ⟨v6, hv6, h⟩ := bind_some h
  refine VW.ws tau_ok (Sound.none.add 17 (i_isIsometry_ok hv6) rfl) [some 14, some 15, some 16, some 17, some 18, some 13] [(13, .val (.bool (!v6)))] rfl ?_ ?_
  · simp <;> simp [ieq, ilt, ile]
  refine VW.cond rfl (fun hb7 => ?_) (fun hb7 => ?_)
  ·
    replace hb7 : v6 = false := by simpa [ieq, ilt, ile] using hb7
    rw [if_pos hb7] at h
    -- region 6
    refine VW.ws tau_ok Sound.none [some 4] [(4, .val (i64 2))] rfl ?_ ?_
    · simp <;> simp [ieq, ilt, ile]
    cases h
    refine VW.ret ?_
    simp [Post, PostM, PostC, PostC2, Nx, Bk]
  replace hb7 : ¬ (v6 = false) := by simpa [ieq, ilt, ile] using hb7
  rw [if_neg hb7] at h
  refine VW.skip ?_
  refine hK1 _ ?_
  -- region 7
  refine VW.ws tau_ok Sound.none [some 4] [(4, .val (i64 0))] rfl ?_ ?_
  · simp <;> simp [ieq, ilt, ile]
  cases h
  refine VW.ret ?_
  simp [Post, PostM, PostC, PostC2, Nx, Bk]

theorem i_IsProper_ok {a0_0 : Int} {a0_1 : List Int} {a1 : List (List Int)} {r : Bool × Int} (h : i_IsProper a0_0 a0_1 a1 = some r) :
    VCall Try.prog 77 [.agg [i64 a0_0, dI a0_1], dM a1] [.sc (.bool r.1), .sc (i64 r.2)] := by
  unfold i_IsProper at h
  refine VCall.enter Try.call77 Try.func77 rfl 18 Try.ntmps77 (by simp) [.tmp 4, .tmp 5] rfl ?_
  show VW _ _ _ (mk [(0, .val (.agg [i64 a0_0, dI a0_1])), (1, .val (dM a1))]) _
  -- region 0
  refine VW.ws tau_ok Sound.none [some 2, some 4, some 5] [(1, .val (dM a1)), (2, .val (.ptr [i64 a0_0, dI a0_1]))] rfl ?_ ?_
  · simp <;> simp [ieq, ilt, ile]
  refine VW.sqc fun K1 hK1 hCK1 => ?_
  -- region 1
  obtain ⟨v2, hv2, h⟩ := bind_some h
  refine VW.ws tau_ok (Sound.none.add 9 (i_checkOrthogonal_ok hv2) rfl) [some 7, some 8, some 9, some 6] [(1, .val (dM a1)), (2, .val (.ptr [i64 a0_0, dI a0_1])), (6, .val (i64 v2))] rfl ?_ ?_
  · simp <;> simp [ieq, ilt, ile]
  -- region 2
  refine VW.ws tau_ok Sound.none [some 10, some 11] [(1, .val (dM a1)), (2, .val (.ptr [i64 a0_0, dI a0_1])), (6, .val (i64 v2)), (11, .val (.bool (!(ieq v2 0))))] rfl ?_ ?_
  · simp <;> simp [ieq, ilt, ile]
  refine VW.cond rfl (fun hb3 => ?_) (fun hb3 => ?_)
  ·
    replace hb3 : ¬ v2 = 0 := by simpa [ieq, ilt, ile] using hb3
    rw [if_pos hb3] at h
    -- region 3
    refine VW.ws tau_ok Sound.none [some 12, some 4, some 5] [(4, .val (.bool false)), (5, .val (i64 v2))] rfl ?_ ?_
    · simp <;> simp [ieq, ilt, ile]
    cases h
    refine VW.ret ?_
    simp [Post, PostM, PostC, PostC2, Nx, Bk]
  replace hb3 : ¬ (¬ v2 = 0) := by simpa [ieq, ilt, ile] using hb3
  rw [if_neg hb3] at h
  refine VW.skip ?_
  refine hK1 _ ?_
  -- region 4
  obtain ⟨v4, hv4, h⟩ := bind_some h
  obtain ⟨v5, hv5, h⟩ := bind_some h
  refine VW.ws tau_ok ((Sound.none.add 14 (i_Space_field_ok hv4) rfl).add 16 (i_field_determinant_ok hv5) rfl) [some 13, some 14, some 15, some 16, some 17, some 4, some 5] [(4, .val (.bool (ieq v5 1))), (5, .val (i64 0))] rfl ?_ ?_
  · simp <;> simp [ieq, ilt, ile]
  cases h
  refine VW.ret ?_
  simp [Post, PostM, PostC, PostC2, Nx, Bk]
end Go.Vam
