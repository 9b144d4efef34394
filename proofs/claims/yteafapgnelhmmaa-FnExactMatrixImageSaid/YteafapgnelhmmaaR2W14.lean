import Derived.Test.YteafapgnelhmmaaR2T
import Derived.Test.YteafapgnelhmmaaFnD
import Derived.Test.YteafapgnelhmmaaR2W1
import Derived.Test.YteafapgnelhmmaaR2W6
import Derived.Test.YteafapgnelhmmaaR2W7
import Derived.Test.YteafapgnelhmmaaR2W8
import Derived.Test.YteafapgnelhmmaaR2W10
import Derived.Test.YteafapgnelhmmaaR2W13
namespace Go.Vam
open Go Go.RowKit Go.Proofs
set_option maxRecDepth 100000
set_option linter.unusedSimpArgs false
set_option linter.unusedVariables false

theorem l_eqDoubling_ok {a0_0 : Int} {a0_1 : List Int} {a1_0 : Int} {a1_1 : List Int} {r : Bool} (h : l_eqDoubling a0_0 a0_1 a1_0 a1_1 = some r) :
    VCall Try.prog 22 [.agg [i64 a0_0, dI a0_1], .agg [i64 a1_0, dI a1_1]] [.sc (.bool r)] := by
  unfold l_eqDoubling at h
  refine VCall.enter Try.call22 Try.func22 rfl 16 Try.ntmps22 (by simp) [.tmp 4] rfl ?_
  show VW _ _ _ (mk [(0, .val (.agg [i64 a0_0, dI a0_1])), (1, .val (.agg [i64 a1_0, dI a1_1]))]) _
  -- region 0
  refine VW.ws tau_ok Sound.none [some 2, some 3, some 4] [(2, .val (.ptr [i64 a0_0, dI a0_1])), (3, .val (.ptr [i64 a1_0, dI a1_1]))] rfl ?_ ?_
  · simp <;> simp [ieq, ilt, ile]
  refine VW.sqc fun K1 hK1 hCK1 => ?_
  -- region 1
  refine VW.ws tau_ok Sound.none [some 5, some 6, some 7, some 8, some 9] [(2, .val (.ptr [i64 a0_0, dI a0_1])), (3, .val (.ptr [i64 a1_0, dI a1_1])), (9, .val (.bool (!(ieq a0_0 a1_0))))] rfl ?_ ?_
  · simp <;> simp [ieq, ilt, ile]
  refine VW.cond rfl (fun hb2 => ?_) (fun hb2 => ?_)
  ·
    replace hb2 : ¬ a0_0 = a1_0 := by simpa [ieq, ilt, ile] using hb2
    rw [if_pos hb2] at h
    -- region 2
    refine VW.ws tau_ok Sound.none [some 4] [(4, .val (.bool false))] rfl ?_ ?_
    · simp <;> simp [ieq, ilt, ile]
    cases h
    refine VW.ret ?_
    simp [Post, PostM, PostC, PostC2, Nx, Bk]
  replace hb2 : ¬ (¬ a0_0 = a1_0) := by simpa [ieq, ilt, ile] using hb2
  rw [if_neg hb2] at h
  refine VW.skip ?_
  refine hK1 _ ?_
  refine VW.sqc fun K3 hK3 hCK3 => ?_
  -- region 3
  obtain ⟨v4, hv4, h⟩ := bind_some h
  refine VW.ws tau_ok (Sound.none.add 14 (l_eqInt64S_ok hv4) rfl) [some 10, some 11, some 12, some 13, some 14, some 15] [(15, .val (.bool (!v4)))] rfl ?_ ?_
  · simp <;> simp [ieq, ilt, ile]
  refine VW.cond rfl (fun hb5 => ?_) (fun hb5 => ?_)
  ·
    replace hb5 : v4 = false := by simpa [ieq, ilt, ile] using hb5
    rw [if_pos hb5] at h
    -- region 4
    refine VW.ws tau_ok Sound.none [some 4] [(4, .val (.bool false))] rfl ?_ ?_
    · simp <;> simp [ieq, ilt, ile]
    cases h
    refine VW.ret ?_
    simp [Post, PostM, PostC, PostC2, Nx, Bk]
  replace hb5 : ¬ (v4 = false) := by simpa [ieq, ilt, ile] using hb5
  rw [if_neg hb5] at h
  refine VW.skip ?_
  refine hK3 _ ?_
  -- region 5
  refine VW.ws tau_ok Sound.none [some 4] [(4, .val (.bool true))] rfl ?_ ?_
  · simp <;> simp [ieq, ilt, ile]
  cases h
  refine VW.ret ?_
  simp [Post, PostM, PostC, PostC2, Nx, Bk]

theorem l_markDoubling_ok {a0_0 : Int} {a0_1 : List Int} {a1 : Int} {r : Int} (h : l_markDoubling a0_0 a0_1 a1 = some r) :
    VSpoil Try.prog 23 (.agg [i64 a0_0, dI a0_1]) [i64 a1] (i64 r) := by
  unfold l_markDoubling at h
  refine VSpoil.enter Try.call23 Try.func23 rfl 10 Try.ntmps23 (by simp) 4 rfl ?_
  show VW _ _ _ (mk [(0, .ref 0 [] true (.agg [i64 a0_0, dI a0_1])), (1, .val (i64 a1))]) _
  -- region 0
  refine VW.ws tau_ok Sound.none [some 2, some 4] [(1, .val (i64 a1)), (2, .ref 2 [] true (.ptr [i64 a0_0, dI a0_1]))] rfl ?_ ?_
  · simp <;> simp [ieq, ilt, ile]
  -- region 1
  obtain ⟨v1, hv1, h⟩ := bind_some h
  refine VW.ws tau_ok (Sound.none.mutc 8 (l_markInt64S_ok hv1)) [some 5, some 6, some 7, some 8, some 1] [(1, .val (i64 v1.1))] rfl ?_ ?_
  · simp <;> simp [ieq, ilt, ile]
  -- region 2
  refine VW.ws tau_ok Sound.none [some 9, some 4] [(4, .val (i64 v1.1))] rfl ?_ ?_
  · simp <;> simp [ieq, ilt, ile]
  cases h
  refine VW.ret ?_
  simp [Post, PostM, PostC, PostC2, Nx, Bk]

theorem l_FnExactMatrixImage_ok {a0_0 : Int} {a0_1 : List Int} {a1 : List (List Int)} {a2 : List Int} {r : Bool} (h : l_FnExactMatrixImage a0_0 a0_1 a1 a2 = some r) :
    VCall Try.prog 11 [.agg [i64 a0_0, dI a0_1], dM a1, dI a2] [.sc (.bool r)] := by
  unfold l_FnExactMatrixImage at h
  refine VCall.enter Try.call11 Try.func11 rfl 140 Try.ntmps11 (by simp) [.tmp 6] rfl ?_
  show VW _ _ _ (mk [(0, .val (.agg [i64 a0_0, dI a0_1])), (1, .val (dM a1)), (2, .val (dI a2))]) _
  -- region 0
  refine VW.ws tau_ok Sound.none [some 3, some 6] [(1, .val (dM a1)), (2, .val (dI a2)), (3, .val (.ptr [i64 a0_0, dI a0_1]))] rfl ?_ ?_
  · simp <;> simp [ieq, ilt, ile]
  refine VW.sqc fun K1 hK1 hCK1 => ?_
  -- region 1
  refine VW.ws tau_ok Sound.none [some 20, some 21, some 22] [(1, .val (dM a1)), (2, .val (dI a2)), (3, .val (.ptr [i64 a0_0, dI a0_1])), (22, .val (.bool (ilt 1048576 (a2.length : Int))))] rfl ?_ ?_
  · simp <;> simp [ieq, ilt, ile]
  refine VW.cond rfl (fun hb2 => ?_) (fun hb2 => ?_)
  ·
    replace hb2 : 1048576 < (a2.length : Int) := by simpa [ieq, ilt, ile] using hb2
    rw [if_pos hb2] at h
    -- region 2
    refine VW.ws tau_ok Sound.none [some 6] [(6, .val (.bool true))] rfl ?_ ?_
    · simp <;> simp [ieq, ilt, ile]
    cases h
    refine VW.ret ?_
    simp [Post, PostM, PostC, PostC2, Nx, Bk]
  replace hb2 : ¬ (1048576 < (a2.length : Int)) := by simpa [ieq, ilt, ile] using hb2
  rw [if_neg hb2] at h
  refine VW.skip ?_
  refine hK1 _ ?_
  -- region 3
  refine VW.ws tau_ok Sound.none [some 7] [(1, .val (dM a1)), (2, .val (dI a2)), (3, .val (.ptr [i64 a0_0, dI a0_1])), (7, .val (i64 1048576))] rfl ?_ ?_
  · simp <;> simp [ieq, ilt, ile]
  -- region 4
  obtain ⟨v3, hv3, h⟩ := bind_some h
  refine VW.ws tau_ok (Sound.none.add 25 (l_szDoubling_ok hv3) rfl) [some 23, some 24, some 25, some 7] [(1, .val (dM a1)), (2, .val (dI a2)), (3, .val (.ptr [i64 a0_0, dI a0_1])), (7, .val (i64 v3))] rfl ?_ ?_
  · simp <;> simp [ieq, ilt, ile]
  refine VW.sqc fun K4 hK4 hCK4 => ?_
  -- region 5
  refine VW.ws tau_ok Sound.none [some 26, some 27] [(1, .val (dM a1)), (2, .val (dI a2)), (3, .val (.ptr [i64 a0_0, dI a0_1])), (7, .val (i64 v3)), (27, .val (.bool (ilt v3 0)))] rfl ?_ ?_
  · simp <;> simp [ieq, ilt, ile]
  refine VW.cond rfl (fun hb5 => ?_) (fun hb5 => ?_)
  ·
    replace hb5 : v3 < 0 := by simpa [ieq, ilt, ile] using hb5
    rw [if_pos hb5] at h
    -- region 6
    refine VW.ws tau_ok Sound.none [some 6] [(6, .val (.bool true))] rfl ?_ ?_
    · simp <;> simp [ieq, ilt, ile]
    cases h
    refine VW.ret ?_
    simp [Post, PostM, PostC, PostC2, Nx, Bk]
  replace hb5 : ¬ (v3 < 0) := by simpa [ieq, ilt, ile] using hb5
  rw [if_neg hb5] at h
  refine VW.skip ?_
  refine hK4 _ ?_
  -- region 7
  obtain ⟨v6, hv6, h⟩ := bind_some h
  refine VW.ws tau_ok (Sound.none.add 30 (l_szInt64SS_ok hv6) rfl) [some 28, some 29, some 30, some 7] [(1, .val (dM a1)), (2, .val (dI a2)), (3, .val (.ptr [i64 a0_0, dI a0_1])), (7, .val (i64 v6))] rfl ?_ ?_
  · simp <;> simp [ieq, ilt, ile]
  refine VW.sqc fun K7 hK7 hCK7 => ?_
  -- region 8
  refine VW.ws tau_ok Sound.none [some 31, some 32] [(1, .val (dM a1)), (2, .val (dI a2)), (3, .val (.ptr [i64 a0_0, dI a0_1])), (32, .val (.bool (ilt v6 0)))] rfl ?_ ?_
  · simp <;> simp [ieq, ilt, ile]
  refine VW.cond rfl (fun hb8 => ?_) (fun hb8 => ?_)
  ·
    replace hb8 : v6 < 0 := by simpa [ieq, ilt, ile] using hb8
    rw [if_pos hb8] at h
    -- region 9
    refine VW.ws tau_ok Sound.none [some 6] [(6, .val (.bool true))] rfl ?_ ?_
    · simp <;> simp [ieq, ilt, ile]
    cases h
    refine VW.ret ?_
    simp [Post, PostM, PostC, PostC2, Nx, Bk]
  replace hb8 : ¬ (v6 < 0) := by simpa [ieq, ilt, ile] using hb8
  rw [if_neg hb8] at h
  refine VW.skip ?_
  refine hK7 _ ?_
  -- region 10
  obtain ⟨v9, hv9, h⟩ := bind_some h
  obtain ⟨v10, hv10, h⟩ := bind_some h
  obtain ⟨v11, hv11, h⟩ := bind_some h
  obtain ⟨v12, hv12, h⟩ := bind_some h
  refine VW.ws tau_ok ((((Sound.none.add 35 (l_toDoubling_ok hv9) rfl).add 37 (l_toInt64SS_ok hv10) rfl).add 39 (l_toInt64S_ok hv11) rfl).add 40 (s_MatrixImage_ok hv12) rfl) [some 34, some 35, some 36, some 37, some 38, some 39, some 40, some 33, some 41, some 42, some 8, some 9] [(1, .val (dM a1)), (2, .val (dI a2)), (3, .val (.ptr [i64 a0_0, dI a0_1])), (8, .ref 8 [] true (dI v12.1)), (9, .val (i64 v12.2))] rfl ?_ ?_
  · simp <;> simp [ieq, ilt, ile]
  -- region 11
  obtain ⟨v13, hv13, h⟩ := bind_some h
  refine VW.ws tau_ok (Sound.none.add 44 (l_toDoubling_ok hv13) rfl) [some 43, some 44, some 10, none] [(1, .val (dM a1)), (2, .val (dI a2)), (3, .val (.ptr [i64 a0_0, dI a0_1])), (8, .ref 8 [] true (dI v12.1)), (9, .val (i64 v12.2)), (10, .ref 10 [] true (.ptr [i64 v13.1, dI v13.2]))] rfl ?_ ?_
  · simp <;> simp [ieq, ilt, ile]
  -- region 12
  obtain ⟨v14, hv14, h⟩ := bind_some h
  refine VW.ws tau_ok (Sound.none.add 46 (l_toInt64SS_ok hv14) rfl) [some 45, some 46, some 11] [(1, .val (dM a1)), (2, .val (dI a2)), (3, .val (.ptr [i64 a0_0, dI a0_1])), (8, .ref 8 [] true (dI v12.1)), (9, .val (i64 v12.2)), (10, .ref 10 [] true (.ptr [i64 v13.1, dI v13.2])), (11, .ref 11 [] true (dM v14))] rfl ?_ ?_
  · simp <;> simp [ieq, ilt, ile]
  -- region 13
  obtain ⟨v15, hv15, h⟩ := bind_some h
  refine VW.ws tau_ok (Sound.none.add 48 (l_toInt64S_ok hv15) rfl) [some 47, some 48, some 12] [(1, .val (dM a1)), (2, .val (dI a2)), (3, .val (.ptr [i64 a0_0, dI a0_1])), (8, .ref 8 [] true (dI v12.1)), (9, .val (i64 v12.2)), (10, .ref 10 [] true (.ptr [i64 v13.1, dI v13.2])), (11, .ref 11 [] true (dM v14)), (12, .ref 12 [] true (dI v15))] rfl ?_ ?_
  · simp <;> simp [ieq, ilt, ile]
  -- region 14
  obtain ⟨v16, hv16, h⟩ := bind_some h
  refine VW.ws tau_ok (Sound.none.add 53 (i_MatrixImage_ok hv16) rfl) [some 50, some 51, some 52, some 53, some 49, some 54, some 55, some 13, some 14] [(1, .val (dM a1)), (2, .val (dI a2)), (3, .val (.ptr [i64 a0_0, dI a0_1])), (8, .ref 8 [] true (dI v12.1)), (9, .val (i64 v12.2)), (10, .ref 10 [] true (.ptr [i64 v13.1, dI v13.2])), (11, .ref 11 [] true (dM v14)), (12, .ref 12 [] true (dI v15)), (13, .ref 13 [] true (dI v16.1)), (14, .val (i64 v16.2))] rfl ?_ ?_
  · simp <;> simp [ieq, ilt, ile]
  refine VW.sqc fun K17 hK17 hCK17 => ?_
  -- region 15
  obtain ⟨x20, hx20, h⟩ := bind_some h
  refine VW.cut [(1, .val (dM a1)), (2, .val (dI a2)), (3, .val (.ptr [i64 a0_0, dI a0_1])), (8, .ref 8 [] true (dI v12.1)), (9, .val (i64 v12.2)), (10, .ref 10 [] true (.ptr [i64 v13.1, dI v13.2])), (11, .ref 11 [] true (dM v14)), (12, .ref 12 [] true (dI v15)), (13, .ref 13 [] true (dI v16.1)), (14, .val (i64 v16.2)), (64, .val (.bool x20))] ?_ fun hy => ?_
  rotate_left
  · clear h
    obtain ⟨v18, hv18, hx20⟩ := bind_some hx20
    by_cases hp19 : v18 = false
    · rw [if_pos hp19] at hx20
      have hp19b : v18 = false := by simpa [ieq, ilt, ile] using hp19
      have hp19s := hp19b
      try simp at hp19s
      cases hx20
      refine VW.ws tau_ok (Sound.none.add 58 (l_eqInt64S_ok hv18) rfl) [some 56, some 57, some 58, some 59, some 60, some 61, some 62, some 63, some 64] _ rfl ?_ hy
      simp [hp19b, hp19s] <;> simp [ieq, ilt, ile]
    · rw [if_neg hp19] at hx20
      have hp19b : v18 = true := by simpa [ieq, ilt, ile] using hp19
      have hp19s := hp19b
      try simp at hp19s
      cases hx20
      refine VW.ws tau_ok (Sound.none.add 58 (l_eqInt64S_ok hv18) rfl) [some 56, some 57, some 58, some 59, some 60, some 61, some 62, some 63, some 64] _ rfl ?_ hy
      simp [hp19b, hp19s] <;> simp [ieq, ilt, ile]
  refine VW.cond rfl (fun hb21 => ?_) (fun hb21 => ?_)
  ·
    replace hb21 : x20 = true := by simpa [ieq, ilt, ile] using hb21
    rw [if_pos hb21] at h
    -- region 16
    refine VW.ws tau_ok Sound.none [some 6] [(6, .val (.bool false))] rfl ?_ ?_
    · simp <;> simp [ieq, ilt, ile]
    cases h
    refine VW.ret ?_
    simp [Post, PostM, PostC, PostC2, Nx, Bk]
  replace hb21 : ¬ (x20 = true) := by simpa [ieq, ilt, ile] using hb21
  rw [if_neg hb21] at h
  refine VW.skip ?_
  refine hK17 _ ?_
  refine VW.sqc fun K22 hK22 hCK22 => ?_
  -- region 17
  obtain ⟨v23, hv23, h⟩ := bind_some h
  obtain ⟨v24, hv24, h⟩ := bind_some h
  refine VW.wds tau_ok ((Sound.none.add 67 (l_toDoubling_ok hv23) rfl).add 68 (l_eqDoubling_ok hv24) rfl) try_mixed [some 65, some 66, some 67, some 68, some 69] [(1, .val (dM a1)), (2, .val (dI a2)), (3, .val (.ptr [i64 a0_0, dI a0_1])), (8, .ref 8 [] true (dI v12.1)), (9, .val (i64 v12.2)), (10, .ref 10 [] true (.ptr [i64 v13.1, dI v13.2])), (11, .ref 11 [] true (dM v14)), (12, .ref 12 [] true (dI v15)), (13, .ref 13 [] true (dI v16.1)), (14, .val (i64 v16.2)), (69, .val (.bool (!v24)))] 5 rfl (by kernel_rfl) (by rfl) ?_ ?_
  · simp <;> simp [ieq, ilt, ile]
  refine VW.cond rfl (fun hb25 => ?_) (fun hb25 => ?_)
  ·
    replace hb25 : v24 = false := by simpa [ieq, ilt, ile] using hb25
    rw [if_pos hb25] at h
    -- region 18
    refine VW.ws tau_ok Sound.none [some 6] [(6, .val (.bool false))] rfl ?_ ?_
    · simp <;> simp [ieq, ilt, ile]
    cases h
    refine VW.ret ?_
    simp [Post, PostM, PostC, PostC2, Nx, Bk]
  replace hb25 : ¬ (v24 = false) := by simpa [ieq, ilt, ile] using hb25
  rw [if_neg hb25] at h
  refine VW.skip ?_
  refine hK22 _ ?_
  refine VW.sqc fun K26 hK26 hCK26 => ?_
  -- region 19
  obtain ⟨v27, hv27, h⟩ := bind_some h
  obtain ⟨v28, hv28, h⟩ := bind_some h
  refine VW.ws tau_ok ((Sound.none.add 72 (l_toInt64SS_ok hv27) rfl).add 73 (l_eqInt64SS_ok hv28) rfl) [some 70, some 71, some 72, some 73, some 74] [(1, .val (dM a1)), (2, .val (dI a2)), (3, .val (.ptr [i64 a0_0, dI a0_1])), (8, .ref 8 [] true (dI v12.1)), (9, .val (i64 v12.2)), (10, .ref 10 [] true (.ptr [i64 v13.1, dI v13.2])), (11, .ref 11 [] true (dM v14)), (12, .ref 12 [] true (dI v15)), (13, .ref 13 [] true (dI v16.1)), (14, .val (i64 v16.2)), (74, .val (.bool (!v28)))] rfl ?_ ?_
  · simp <;> simp [ieq, ilt, ile]
  refine VW.cond rfl (fun hb29 => ?_) (fun hb29 => ?_)
  ·
    replace hb29 : v28 = false := by simpa [ieq, ilt, ile] using hb29
    rw [if_pos hb29] at h
    -- region 20
    refine VW.ws tau_ok Sound.none [some 6] [(6, .val (.bool false))] rfl ?_ ?_
    · simp <;> simp [ieq, ilt, ile]
    cases h
    refine VW.ret ?_
    simp [Post, PostM, PostC, PostC2, Nx, Bk]
  replace hb29 : ¬ (v28 = false) := by simpa [ieq, ilt, ile] using hb29
  rw [if_neg hb29] at h
  refine VW.skip ?_
  refine hK26 _ ?_
  refine VW.sqc fun K30 hK30 hCK30 => ?_
  -- region 21
  obtain ⟨v31, hv31, h⟩ := bind_some h
  obtain ⟨v32, hv32, h⟩ := bind_some h
  refine VW.ws tau_ok ((Sound.none.add 77 (l_toInt64S_ok hv31) rfl).add 78 (l_eqInt64S_ok hv32) rfl) [some 75, some 76, some 77, some 78, some 79] [(1, .val (dM a1)), (2, .val (dI a2)), (3, .val (.ptr [i64 a0_0, dI a0_1])), (8, .ref 8 [] true (dI v12.1)), (9, .val (i64 v12.2)), (10, .ref 10 [] true (.ptr [i64 v13.1, dI v13.2])), (11, .ref 11 [] true (dM v14)), (12, .ref 12 [] true (dI v15)), (13, .ref 13 [] true (dI v16.1)), (14, .val (i64 v16.2)), (79, .val (.bool (!v32)))] rfl ?_ ?_
  · simp <;> simp [ieq, ilt, ile]
  refine VW.cond rfl (fun hb33 => ?_) (fun hb33 => ?_)
  ·
    replace hb33 : v32 = false := by simpa [ieq, ilt, ile] using hb33
    rw [if_pos hb33] at h
    -- region 22
    refine VW.ws tau_ok Sound.none [some 6] [(6, .val (.bool false))] rfl ?_ ?_
    · simp <;> simp [ieq, ilt, ile]
    cases h
    refine VW.ret ?_
    simp [Post, PostM, PostC, PostC2, Nx, Bk]
  replace hb33 : ¬ (v32 = false) := by simpa [ieq, ilt, ile] using hb33
  rw [if_neg hb33] at h
  refine VW.skip ?_
  refine hK30 _ ?_
  -- region 23
  refine VW.ws tau_ok Sound.none [some 15] [(1, .val (dM a1)), (2, .val (dI a2)), (3, .val (.ptr [i64 a0_0, dI a0_1])), (8, .ref 8 [] true (dI v12.1)), (9, .val (i64 v12.2)), (10, .ref 10 [] true (.ptr [i64 v13.1, dI v13.2])), (11, .ref 11 [] true (dM v14)), (12, .ref 12 [] true (dI v15)), (13, .ref 13 [] true (dI v16.1)), (14, .val (i64 v16.2)), (15, .val (i64 1))] rfl ?_ ?_
  · simp <;> simp [ieq, ilt, ile]
  -- region 24
  obtain ⟨v34, hv34, h⟩ := bind_some h
  refine VW.ws tau_ok (Sound.none.spoilc 82 (l_markDoubling_ok hv34)) [some 80, some 81, some 82, some 15] [(1, .val (dM a1)), (2, .val (dI a2)), (3, .val (.ptr [i64 a0_0, dI a0_1])), (8, .ref 8 [] true (dI v12.1)), (9, .val (i64 v12.2)), (11, .ref 11 [] true (dM v14)), (12, .ref 12 [] true (dI v15)), (13, .ref 13 [] true (dI v16.1)), (14, .val (i64 v16.2)), (15, .val (i64 v34))] rfl ?_ ?_
  · simp <;> simp [ieq, ilt, ile]
  -- region 25
  obtain ⟨v35, hv35, h⟩ := bind_some h
  refine VW.ws tau_ok (Sound.none.mutc 85 (l_markInt64SS_ok hv35)) [some 83, some 84, some 85, some 15] [(1, .val (dM a1)), (2, .val (dI a2)), (3, .val (.ptr [i64 a0_0, dI a0_1])), (8, .ref 8 [] true (dI v12.1)), (9, .val (i64 v12.2)), (12, .ref 12 [] true (dI v15)), (13, .ref 13 [] true (dI v16.1)), (14, .val (i64 v16.2)), (15, .val (i64 v35.1))] rfl ?_ ?_
  · simp <;> simp [ieq, ilt, ile]
  -- region 26
  obtain ⟨v36, hv36, h⟩ := bind_some h
  refine VW.ws tau_ok (Sound.none.mutc 88 (l_markInt64S_ok hv36)) [some 86, some 87, some 88, some 15] [(1, .val (dM a1)), (2, .val (dI a2)), (3, .val (.ptr [i64 a0_0, dI a0_1])), (8, .ref 8 [] true (dI v12.1)), (9, .val (i64 v12.2)), (13, .ref 13 [] true (dI v16.1)), (14, .val (i64 v16.2)), (15, .val (i64 v36.1))] rfl ?_ ?_
  · simp <;> simp [ieq, ilt, ile]
  refine VW.sqc fun K37 hK37 hCK37 => ?_
  -- region 27
  obtain ⟨x41, hx41, h⟩ := bind_some h
  refine VW.cut [(1, .val (dM a1)), (2, .val (dI a2)), (3, .val (.ptr [i64 a0_0, dI a0_1])), (8, .ref 8 [] true (dI v12.1)), (9, .val (i64 v12.2)), (13, .ref 13 [] true (dI v16.1)), (101, .val (.bool x41))] ?_ fun hy => ?_
  rotate_left
  · clear h
    by_cases hp38 : v36.1 < 0
    · rw [if_pos hp38] at hx41
      have hp38b : ilt v36.1 0 = true := by simpa [ieq, ilt, ile] using hp38
      have hp38s := hp38b
      try simp at hp38s
      cases hx41
      refine VW.ws tau_ok Sound.none [some 89, some 90, some 91, some 92, some 93, some 94, some 95, some 96, some 97, some 98, some 99, some 100, some 101] _ rfl ?_ hy
      simp [hp38b, hp38s] <;> simp [ieq, ilt, ile]
    · rw [if_neg hp38] at hx41
      have hp38b : ilt v36.1 0 = false := by simpa [ieq, ilt, ile] using hp38
      have hp38s := hp38b
      try simp at hp38s
      obtain ⟨v39, hv39, hx41⟩ := bind_some hx41
      by_cases hp40 : v39 = false
      · rw [if_pos hp40] at hx41
        have hp40b : v39 = false := by simpa [ieq, ilt, ile] using hp40
        have hp40s := hp40b
        try simp at hp40s
        cases hx41
        refine VW.ws tau_ok (Sound.none.add 94 (l_eqInt64S_ok hv39) rfl) [some 89, some 90, some 91, some 92, some 93, some 94, some 95, some 96, some 97, some 98, some 99, some 100, some 101] _ rfl ?_ hy
        simp [hp38b, hp38s, hp40b, hp40s] <;> simp [ieq, ilt, ile]
      · rw [if_neg hp40] at hx41
        have hp40b : v39 = true := by simpa [ieq, ilt, ile] using hp40
        have hp40s := hp40b
        try simp at hp40s
        cases hx41
        refine VW.ws tau_ok (Sound.none.add 94 (l_eqInt64S_ok hv39) rfl) [some 89, some 90, some 91, some 92, some 93, some 94, some 95, some 96, some 97, some 98, some 99, some 100, some 101] _ rfl ?_ hy
        simp [hp38b, hp38s, hp40b, hp40s] <;> simp [ieq, ilt, ile]
  refine VW.cond rfl (fun hb42 => ?_) (fun hb42 => ?_)
  ·
    replace hb42 : x41 = true := by simpa [ieq, ilt, ile] using hb42
    rw [if_pos hb42] at h
    -- region 28
    refine VW.ws tau_ok Sound.none [some 6] [(6, .val (.bool false))] rfl ?_ ?_
    · simp <;> simp [ieq, ilt, ile]
    cases h
    refine VW.ret ?_
    simp [Post, PostM, PostC, PostC2, Nx, Bk]
  replace hb42 : ¬ (x41 = true) := by simpa [ieq, ilt, ile] using hb42
  rw [if_neg hb42] at h
  refine VW.skip ?_
  refine hK37 _ ?_
  -- region 29
  refine VW.ws tau_ok Sound.none [some 16] [(1, .val (dM a1)), (2, .val (dI a2)), (3, .val (.ptr [i64 a0_0, dI a0_1])), (8, .ref 8 [] true (dI v12.1)), (9, .val (i64 v12.2)), (13, .ref 13 [] true (dI v16.1)), (16, .val (i64 1))] rfl ?_ ?_
  · simp <;> simp [ieq, ilt, ile]
  -- region 30
  obtain ⟨v43, hv43, h⟩ := bind_some h
  refine VW.ws tau_ok (Sound.none.mutc 104 (l_markInt64S_ok hv43)) [some 102, some 103, some 104, some 16] [(1, .val (dM a1)), (2, .val (dI a2)), (3, .val (.ptr [i64 a0_0, dI a0_1])), (8, .ref 8 [] true (dI v12.1)), (9, .val (i64 v12.2)), (13, .ref 13 [] true (dI v43.2)), (16, .val (i64 v43.1))] rfl ?_ ?_
  · simp <;> simp [ieq, ilt, ile]
  -- region 31
  refine VW.ws tau_ok Sound.none [some 17] [(1, .val (dM a1)), (2, .val (dI a2)), (3, .val (.ptr [i64 a0_0, dI a0_1])), (8, .ref 8 [] true (dI v12.1)), (9, .val (i64 v12.2)), (13, .ref 13 [] true (dI v43.2)), (16, .val (i64 v43.1)), (17, .val (i64 1))] rfl ?_ ?_
  · simp <;> simp [ieq, ilt, ile]
  -- region 32
  obtain ⟨v44, hv44, h⟩ := bind_some h
  refine VW.ws tau_ok (Sound.none.add 107 (l_heldInt64S_ok hv44) rfl) [some 105, some 106, some 107, some 17] [(1, .val (dM a1)), (2, .val (dI a2)), (3, .val (.ptr [i64 a0_0, dI a0_1])), (8, .ref 8 [] true (dI v12.1)), (9, .val (i64 v12.2)), (13, .ref 13 [] true (dI v43.2)), (16, .val (i64 v43.1)), (17, .val (i64 v44))] rfl ?_ ?_
  · simp <;> simp [ieq, ilt, ile]
  refine VW.sqc fun K45 hK45 hCK45 => ?_
  -- region 33
  refine VW.ws tau_ok Sound.none [some 108, some 109] [(1, .val (dM a1)), (2, .val (dI a2)), (3, .val (.ptr [i64 a0_0, dI a0_1])), (8, .ref 8 [] true (dI v12.1)), (9, .val (i64 v12.2)), (13, .ref 13 [] true (dI v43.2)), (16, .val (i64 v43.1)), (17, .val (i64 v44)), (109, .val (.bool (ilt v44 0)))] rfl ?_ ?_
  · simp <;> simp [ieq, ilt, ile]
  refine VW.cond rfl (fun hb46 => ?_) (fun hb46 => ?_)
  ·
    replace hb46 : v44 < 0 := by simpa [ieq, ilt, ile] using hb46
    rw [if_pos hb46] at h
    -- region 34
    refine VW.ws tau_ok Sound.none [some 6] [(6, .val (.bool false))] rfl ?_ ?_
    · simp <;> simp [ieq, ilt, ile]
    cases h
    refine VW.ret ?_
    simp [Post, PostM, PostC, PostC2, Nx, Bk]
  replace hb46 : ¬ (v44 < 0) := by simpa [ieq, ilt, ile] using hb46
  rw [if_neg hb46] at h
  refine VW.skip ?_
  refine hK45 _ ?_
  refine VW.sqc fun K47 hK47 hCK47 => ?_
  -- region 35
  refine VW.ws tau_ok Sound.none [some 110, some 111, some 112] [(1, .val (dM a1)), (2, .val (dI a2)), (3, .val (.ptr [i64 a0_0, dI a0_1])), (8, .ref 8 [] true (dI v12.1)), (9, .val (i64 v12.2)), (13, .ref 13 [] true (dI v43.2)), (16, .val (i64 v43.1)), (112, .val (.bool (!(ieq v44 v43.1))))] rfl ?_ ?_
  · simp <;> simp [ieq, ilt, ile]
  refine VW.cond rfl (fun hb48 => ?_) (fun hb48 => ?_)
  ·
    replace hb48 : ¬ v44 = v43.1 := by simpa [ieq, ilt, ile] using hb48
    rw [if_pos hb48] at h
    -- region 36
    refine VW.ws tau_ok Sound.none [some 6] [(6, .val (.bool false))] rfl ?_ ?_
    · simp <;> simp [ieq, ilt, ile]
    cases h
    refine VW.ret ?_
    simp [Post, PostM, PostC, PostC2, Nx, Bk]
  replace hb48 : ¬ (¬ v44 = v43.1) := by simpa [ieq, ilt, ile] using hb48
  rw [if_neg hb48] at h
  refine VW.skip ?_
  refine hK47 _ ?_
  -- region 37
  obtain ⟨v49, hv49, h⟩ := bind_some h
  obtain ⟨v50, hv50, h⟩ := bind_some h
  obtain ⟨v51, hv51, h⟩ := bind_some h
  obtain ⟨v52, hv52, h⟩ := bind_some h
  refine VW.ws tau_ok ((((Sound.none.add 115 (l_toDoubling_ok hv49) rfl).add 117 (l_toInt64SS_ok hv50) rfl).add 119 (l_toInt64S_ok hv51) rfl).add 120 (i_MatrixImage_ok hv52) rfl) [some 114, some 115, some 116, some 117, some 118, some 119, some 120, some 113, some 121, some 122, some 18, some 19] [(8, .ref 8 [] true (dI v12.1)), (9, .val (i64 v12.2)), (13, .ref 13 [] true (dI v43.2)), (16, .val (i64 v43.1)), (18, .ref 18 [] true (dI v52.1)), (19, .val (i64 v52.2))] rfl ?_ ?_
  · simp <;> simp [ieq, ilt, ile]
  refine VW.sqc fun K53 hK53 hCK53 => ?_
  -- region 38
  obtain ⟨x56, hx56, h⟩ := bind_some h
  refine VW.cut [(13, .ref 13 [] true (dI v43.2)), (16, .val (i64 v43.1)), (131, .val (.bool x56))] ?_ fun hy => ?_
  rotate_left
  · clear h
    obtain ⟨v54, hv54, hx56⟩ := bind_some hx56
    by_cases hp55 : v54 = false
    · rw [if_pos hp55] at hx56
      have hp55b : v54 = false := by simpa [ieq, ilt, ile] using hp55
      have hp55s := hp55b
      try simp at hp55s
      cases hx56
      refine VW.ws tau_ok (Sound.none.add 125 (l_eqInt64S_ok hv54) rfl) [some 123, some 124, some 125, some 126, some 127, some 128, some 129, some 130, some 131] _ rfl ?_ hy
      simp [hp55b, hp55s] <;> simp [ieq, ilt, ile]
    · rw [if_neg hp55] at hx56
      have hp55b : v54 = true := by simpa [ieq, ilt, ile] using hp55
      have hp55s := hp55b
      try simp at hp55s
      cases hx56
      refine VW.ws tau_ok (Sound.none.add 125 (l_eqInt64S_ok hv54) rfl) [some 123, some 124, some 125, some 126, some 127, some 128, some 129, some 130, some 131] _ rfl ?_ hy
      simp [hp55b, hp55s] <;> simp [ieq, ilt, ile]
  refine VW.cond rfl (fun hb57 => ?_) (fun hb57 => ?_)
  ·
    replace hb57 : x56 = true := by simpa [ieq, ilt, ile] using hb57
    rw [if_pos hb57] at h
    -- region 39
    refine VW.ws tau_ok Sound.none [some 6] [(6, .val (.bool false))] rfl ?_ ?_
    · simp <;> simp [ieq, ilt, ile]
    cases h
    refine VW.ret ?_
    simp [Post, PostM, PostC, PostC2, Nx, Bk]
  replace hb57 : ¬ (x56 = true) := by simpa [ieq, ilt, ile] using hb57
  rw [if_neg hb57] at h
  refine VW.skip ?_
  refine hK53 _ ?_
  -- region 40
  refine VW.ws tau_ok Sound.none [some 17] [(13, .ref 13 [] true (dI v43.2)), (16, .val (i64 v43.1)), (17, .val (i64 1))] rfl ?_ ?_
  · simp <;> simp [ieq, ilt, ile]
  -- region 41
  obtain ⟨v58, hv58, h⟩ := bind_some h
  refine VW.ws tau_ok (Sound.none.add 134 (l_heldInt64S_ok hv58) rfl) [some 132, some 133, some 134, some 17] [(16, .val (i64 v43.1)), (17, .val (i64 v58))] rfl ?_ ?_
  · simp <;> simp [ieq, ilt, ile]
  refine VW.sqc fun K59 hK59 hCK59 => ?_
  -- region 42
  refine VW.ws tau_ok Sound.none [some 135, some 136] [(16, .val (i64 v43.1)), (17, .val (i64 v58)), (136, .val (.bool (ilt v58 0)))] rfl ?_ ?_
  · simp <;> simp [ieq, ilt, ile]
  refine VW.cond rfl (fun hb60 => ?_) (fun hb60 => ?_)
  ·
    replace hb60 : v58 < 0 := by simpa [ieq, ilt, ile] using hb60
    rw [if_pos hb60] at h
    -- region 43
    refine VW.ws tau_ok Sound.none [some 6] [(6, .val (.bool false))] rfl ?_ ?_
    · simp <;> simp [ieq, ilt, ile]
    cases h
    refine VW.ret ?_
    simp [Post, PostM, PostC, PostC2, Nx, Bk]
  replace hb60 : ¬ (v58 < 0) := by simpa [ieq, ilt, ile] using hb60
  rw [if_neg hb60] at h
  refine VW.skip ?_
  refine hK59 _ ?_
  refine VW.sqc fun K61 hK61 hCK61 => ?_
  -- region 44
  refine VW.ws tau_ok Sound.none [some 137, some 138, some 139] [(139, .val (.bool (!(ieq v58 v43.1))))] rfl ?_ ?_
  · simp <;> simp [ieq, ilt, ile]
  refine VW.cond rfl (fun hb62 => ?_) (fun hb62 => ?_)
  ·
    replace hb62 : ¬ v58 = v43.1 := by simpa [ieq, ilt, ile] using hb62
    rw [if_pos hb62] at h
    -- region 45
    refine VW.ws tau_ok Sound.none [some 6] [(6, .val (.bool false))] rfl ?_ ?_
    · simp <;> simp [ieq, ilt, ile]
    cases h
    refine VW.ret ?_
    simp [Post, PostM, PostC, PostC2, Nx, Bk]
  replace hb62 : ¬ (¬ v58 = v43.1) := by simpa [ieq, ilt, ile] using hb62
  rw [if_neg hb62] at h
  refine VW.skip ?_
  refine hK61 _ ?_
  -- region 46
  refine VW.ws tau_ok Sound.none [some 6] [(6, .val (.bool true))] rfl ?_ ?_
  · simp <;> simp [ieq, ilt, ile]
  cases h
  refine VW.ret ?_
  simp [Post, PostM, PostC, PostC2, Nx, Bk]

theorem s_l02Unit_ok {a0 : Int} {r : List (List Int)} (h : s_l02Unit a0 = some r) :
    VCall Try.prog 132 [i64 a0] [.own true (dM r)] := by
  unfold s_l02Unit at h
  refine VCall.enter Try.call132 Try.func132 rfl 22 Try.ntmps132 (by simp) [.tmp 2] rfl ?_
  show VW _ _ _ (mk [(0, .val (i64 a0))]) _
  -- region 0
  refine VW.ws tau_ok Sound.none [some 2] [(0, .val (i64 a0))] rfl ?_ ?_
  · simp <;> simp [ieq, ilt, ile]
  -- region 1
  refine VW.ws tau_ok Sound.none [some 6, some 3] [(0, .val (i64 a0)), (3, .ref 3 [] true (dM []))] rfl ?_ ?_
  · simp <;> simp [ieq, ilt, ile]
  refine VW.sqc fun K1 hK1 hCK1 => ?_
  -- region 2
  refine VW.ws tau_ok Sound.none [some 4] [(0, .val (i64 a0)), (3, .ref 3 [] true (dM [])), (4, .val (i64 0))] rfl ?_ ?_
  · simp <;> simp [ieq, ilt, ile]
  obtain ⟨x2, hx2, h⟩ := bind_some h
  refine VW.tlE [(3, .ref 3 [] true (dM x2))] (hCK1) ?_ ?_
  · clear hx2
    refine hK1 _ ?_
    -- region 8
    refine VW.ws tau_ok Sound.none [some 21, some 2] [(2, .ref 2 [] true (dM x2))] rfl ?_ ?_
    · simp <;> simp [ieq, ilt, ile]
    cases h
    refine VW.ret ?_
    simp [Post, PostM, PostC, PostC2, Nx, Bk]
  refine VW.block ?_
  refine VW.loopF (s_l02Unit_L0 a0) (fun s2 => [(0, .val (i64 a0)), (3, .ref 3 [] true (dM s2.1)), (4, .val (i64 s2.2))]) hx2 (Fits.of rfl) ?_
  clear hx2
  intro s2 ox2 hx2o hx2b
  unfold s_l02Unit_L0 at hx2o
  refine VW.sqc fun K4 hK4 hCK4 => ?_
  -- region 3
  refine VW.ws tau_ok Sound.none [some 7, some 8, some 9] [(0, .val (i64 a0)), (3, .ref 3 [] true (dM s2.1)), (4, .val (i64 s2.2)), (9, .val (.bool (ilt s2.2 a0)))] rfl ?_ ?_
  · simp <;> simp [ieq, ilt, ile]
  refine VW.cond rfl (fun hb5 => ?_) (fun hb5 => ?_)
  rotate_left
  ·
    replace hb5 : ¬ (s2.2 < a0) := by simpa [ieq, ilt, ile] using hb5
    rw [if_neg hb5] at hx2o
    refine VW.exit ?_
    cases hx2o
    have hq := hx2b _ rfl
    subst hq
    exact Fits.of rfl
  replace hb5 : s2.2 < a0 := by simpa [ieq, ilt, ile] using hb5
  rw [if_pos hb5] at hx2o
  refine VW.skip ?_
  refine hK4 _ ?_
  refine VW.sqc fun K6 hK6 hCK6 => ?_
  refine VW.block ?_
  -- region 5
  obtain ⟨hc7, hx2o⟩ := chk_some hx2o
  have hc7s := hc7
  try simp at hc7s
  refine VW.ws tau_ok Sound.none [some 12, some 13, some 5] [(0, .val (i64 a0)), (3, .ref 3 [] true (dM s2.1)), (4, .val (i64 s2.2)), (5, .ref 5 [] true (dI (List.replicate a0.toNat 0)))] rfl ?_ ?_
  · simp [hc7, hc7s] <;> simp [ieq, ilt, ile]
  obtain ⟨l8, hl8, hx2o⟩ := bind_some hx2o
  rw [Option.some.inj hl8]
  -- region 6
  obtain ⟨v9, hv9, hx2o⟩ := bind_some hx2o
  obtain ⟨hv9a, hv9b, hv9c, hv9d⟩ := idx_some hv9
  refine VW.ws tau_ok Sound.none [some 14, some 15, some 16, none] [(0, .val (i64 a0)), (3, .ref 3 [] true (dM s2.1)), (4, .val (i64 s2.2)), (5, .ref 5 [] true (dI (l8.set s2.2.toNat 1)))] rfl ?_ ?_
  · simp [hv9a, hv9b, hv9c, hv9d] <;> simp [ieq, ilt, ile]
  -- region 7
  obtain ⟨hc10, hx2o⟩ := chk_some hx2o
  have hc10s := hc10
  try simp at hc10s
  refine VW.wr tau_ok Sound.none [some 17, some 18, some 19, some 20, some 3] [(0, .val (i64 a0)), (3, .ref 3 [] true (dM (s2.1 ++ [l8.set s2.2.toNat 1]))), (4, .val (i64 s2.2))] rfl ?_ ?_
  · simp [hc10, hc10s] <;> simp [ieq, ilt, ile]
  refine hK6 _ ?_
  -- region 4
  refine VW.wr tau_ok Sound.none [some 10, some 11, some 4] [(0, .val (i64 a0)), (3, .ref 3 [] true (dM (s2.1 ++ [l8.set s2.2.toNat 1]))), (4, .val (i64 (w64 (s2.2 + 1))))] rfl ?_ ?_
  · simp <;> simp [ieq, ilt, ile]
  cases hx2o
  exact ⟨_, rfl, Fits.of rfl⟩

theorem s_PowerMatrix_ok {a0 : Int} {a1 : List (List Int)} {a2 : Int} {r : (List (List Int)) × Int} (h : s_PowerMatrix a0 a1 a2 = some r) :
    VCall Try.prog 58 [i64 a0, dM a1, i64 a2] [.own true (dM r.1), .sc (i64 r.2)] := by
  unfold s_PowerMatrix at h
  refine VCall.enter Try.call58 Try.func58 rfl 45 Try.ntmps58 (by simp) [.tmp 6, .tmp 7] rfl ?_
  show VW _ _ _ (mk [(0, .val (i64 a0)), (1, .val (dM a1)), (2, .val (i64 a2))]) _
  -- region 0
  refine VW.ws tau_ok Sound.none [some 6, some 7] [(0, .val (i64 a0)), (1, .val (dM a1)), (2, .val (i64 a2))] rfl ?_ ?_
  · simp <;> simp [ieq, ilt, ile]
  -- region 1
  obtain ⟨v1, hv1, h⟩ := bind_some h
  refine VW.ws tau_ok (Sound.none.add 13 (s_l02Square_ok hv1) rfl) [some 11, some 12, some 13, some 8] [(0, .val (i64 a0)), (1, .val (dM a1)), (2, .val (i64 a2)), (8, .val (i64 v1))] rfl ?_ ?_
  · simp <;> simp [ieq, ilt, ile]
  refine VW.sqc fun K2 hK2 hCK2 => ?_
  -- region 2
  obtain ⟨x5, hx5, h⟩ := bind_some h
  refine VW.cut [(0, .val (i64 a0)), (1, .val (dM a1)), (2, .val (i64 a2)), (8, .val (i64 v1)), (20, .val (.bool x5))] ?_ fun hy => ?_
  rotate_left
  · clear h
    by_cases hp3 : v1 = 0
    · rw [if_pos hp3] at hx5
      have hp3b : ieq v1 0 = true := by simpa [ieq, ilt, ile] using hp3
      have hp3s := hp3b
      try simp at hp3s
      obtain ⟨v4, hv4, hx5⟩ := bind_some hx5
      cases hx5
      refine VW.ws tau_ok (Sound.none.add 18 (s_l01In_ok hv4) rfl) [some 14, some 15, some 16, some 17, some 18, some 19, some 20] _ rfl ?_ hy
      simp [hp3b, hp3s] <;> simp [ieq, ilt, ile]
    · rw [if_neg hp3] at hx5
      have hp3b : ieq v1 0 = false := by simpa [ieq, ilt, ile] using hp3
      have hp3s := hp3b
      try simp at hp3s
      cases hx5
      refine VW.ws tau_ok Sound.none [some 14, some 15, some 16, some 17, some 18, some 19, some 20] _ rfl ?_ hy
      simp [hp3b, hp3s] <;> simp [ieq, ilt, ile]
  obtain ⟨x6, hx6, h⟩ := bind_some h
  refine VW.tlE [(0, .val (i64 a0)), (1, .val (dM a1)), (2, .val (i64 a2)), (8, .val (i64 x6))] (hCK2) ?_ ?_
  · clear hx6
    refine hK2 _ ?_
    refine VW.sqc fun K9 hK9 hCK9 => ?_
    -- region 4
    refine VW.ws tau_ok Sound.none [some 21, some 22] [(0, .val (i64 a0)), (1, .val (dM a1)), (2, .val (i64 a2)), (8, .val (i64 x6)), (22, .val (.bool (!(ieq x6 0))))] rfl ?_ ?_
    · simp <;> simp [ieq, ilt, ile]
    refine VW.cond rfl (fun hb10 => ?_) (fun hb10 => ?_)
    ·
      replace hb10 : ¬ x6 = 0 := by simpa [ieq, ilt, ile] using hb10
      rw [if_pos hb10] at h
      -- region 5
      refine VW.ws tau_ok Sound.none [some 23, some 6, some 7] [(6, .ref 6 [] true (.list [])), (7, .val (i64 x6))] rfl ?_ ?_
      · simp <;> simp [ieq, ilt, ile]
      cases h
      refine VW.ret ?_
      simp [Post, PostM, PostC, PostC2, Nx, Bk]
    replace hb10 : ¬ (¬ x6 = 0) := by simpa [ieq, ilt, ile] using hb10
    rw [if_neg hb10] at h
    refine VW.skip ?_
    refine hK9 _ ?_
    -- region 6
    obtain ⟨v11, hv11, h⟩ := bind_some h
    obtain ⟨v12, hv12, h⟩ := bind_some h
    refine VW.ws tau_ok ((Sound.none.add 26 (s_l02Unit_ok hv11) rfl).add 28 (s_l01Own2_ok hv12) rfl) [some 24, some 25, some 26, some 27, some 28, some 9, some 10] [(0, .val (i64 a0)), (2, .val (i64 a2)), (9, .ref 9 [] true (dM v11)), (10, .ref 10 [] true (dM v12))] rfl ?_ ?_
    · simp <;> simp [ieq, ilt, ile]
    refine VW.sqc fun K13 hK13 hCK13 => ?_
    obtain ⟨x14, hx14, h⟩ := bind_some h
    refine VW.tlE [(9, .ref 9 [] true (dM x14))] (hCK13) ?_ ?_
    · clear hx14
      refine hK13 _ ?_
      -- region 12
      refine VW.ws tau_ok Sound.none [some 44, some 6, some 7] [(6, .ref 6 [] true (dM x14)), (7, .val (i64 0))] rfl ?_ ?_
      · simp <;> simp [ieq, ilt, ile]
      cases h
      refine VW.ret ?_
      simp [Post, PostM, PostC, PostC2, Nx, Bk]
    refine VW.block ?_
    refine VW.loopF (s_PowerMatrix_L0 a0) (fun s14 => [(0, .val (i64 a0)), (2, .val (i64 s14.1)), (9, .ref 9 [] true (dM s14.2.1)), (10, .ref 10 [] true (dM s14.2.2))]) hx14 (Fits.of rfl) ?_
    clear hx14
    intro s14 ox14 hx14o hx14b
    unfold s_PowerMatrix_L0 at hx14o
    refine VW.sqc fun K16 hK16 hCK16 => ?_
    -- region 7
    refine VW.ws tau_ok Sound.none [some 29, some 30] [(0, .val (i64 a0)), (2, .val (i64 s14.1)), (9, .ref 9 [] true (dM s14.2.1)), (10, .ref 10 [] true (dM s14.2.2)), (30, .val (.bool (ilt 0 s14.1)))] rfl ?_ ?_
    · simp <;> simp [ieq, ilt, ile]
    refine VW.cond rfl (fun hb17 => ?_) (fun hb17 => ?_)
    rotate_left
    ·
      replace hb17 : ¬ (0 < s14.1) := by simpa [ieq, ilt, ile] using hb17
      rw [if_neg hb17] at hx14o
      refine VW.exit ?_
      cases hx14o
      have hq := hx14b _ rfl
      subst hq
      exact Fits.of rfl
    replace hb17 : 0 < s14.1 := by simpa [ieq, ilt, ile] using hb17
    rw [if_pos hb17] at hx14o
    refine VW.skip ?_
    refine hK16 _ ?_
    refine VW.sqc fun K18 hK18 hCK18 => ?_
    refine VW.block ?_
    refine VW.sqc fun K19 hK19 hCK19 => ?_
    -- region 9
    refine VW.ws tau_ok Sound.none [some 33, some 34, some 35] [(0, .val (i64 a0)), (2, .val (i64 s14.1)), (9, .ref 9 [] true (dM s14.2.1)), (10, .ref 10 [] true (dM s14.2.2)), (35, .val (.bool (ieq (s14.1.tmod 2) 1)))] rfl ?_ ?_
    · simp <;> simp [ieq, ilt, ile]
    obtain ⟨x20, hx20, hx14o⟩ := bind_some hx14o
    refine VW.tlE [(0, .val (i64 a0)), (2, .val (i64 s14.1)), (9, .ref 9 [] true (dM x20)), (10, .ref 10 [] true (dM s14.2.2))] (hCK19) ?_ ?_
    · clear hx20
      refine hK19 _ ?_
      -- region 11
      obtain ⟨v24, hv24, hx14o⟩ := bind_some hx14o
      refine VW.wr tau_ok (Sound.none.add 43 (s_l02Times_ok hv24) rfl) [some 40, some 41, some 42, some 43, some 10] [(0, .val (i64 a0)), (2, .val (i64 s14.1)), (9, .ref 9 [] true (dM x20)), (10, .ref 10 [] true (dM v24))] rfl ?_ ?_
      · simp <;> simp [ieq, ilt, ile]
      refine hK18 _ ?_
      -- region 8
      refine VW.wr tau_ok Sound.none [some 31, some 32, some 2] [(0, .val (i64 a0)), (2, .val (i64 (w64 (s14.1.tdiv 2)))), (9, .ref 9 [] true (dM x20)), (10, .ref 10 [] true (dM v24))] rfl ?_ ?_
      · simp <;> simp [ieq, ilt, ile]
      cases hx14o
      exact ⟨_, rfl, Fits.of rfl⟩
    refine VW.cond rfl (fun hb22 => ?_) (fun hb22 => ?_)
    rotate_left
    ·
      replace hb22 : ¬ ((s14.1.tmod 2) = 1) := by simpa [ieq, ilt, ile] using hb22
      rw [if_neg hb22] at hx20
      refine VW.skip ?_
      cases hx20
      exact Fits.of rfl
    replace hb22 : (s14.1.tmod 2) = 1 := by simpa [ieq, ilt, ile] using hb22
    rw [if_pos hb22] at hx20
    -- region 10
    obtain ⟨v23, hv23, hx20⟩ := bind_some hx20
    refine VW.wr tau_ok (Sound.none.add 39 (s_l02Times_ok hv23) rfl) [some 36, some 37, some 38, some 39, some 9] [(0, .val (i64 a0)), (2, .val (i64 s14.1)), (9, .ref 9 [] true (dM v23)), (10, .ref 10 [] true (dM s14.2.2))] rfl ?_ ?_
    · simp <;> simp [ieq, ilt, ile]
    cases hx20
    exact Fits.of rfl
  refine VW.cond rfl (fun hb8 => ?_) (fun hb8 => ?_)
  rotate_left
  ·
    replace hb8 : ¬ (x5 = true) := by simpa [ieq, ilt, ile] using hb8
    rw [if_neg hb8] at hx6
    refine VW.skip ?_
    cases hx6
    exact Fits.of rfl
  replace hb8 : x5 = true := by simpa [ieq, ilt, ile] using hb8
  rw [if_pos hb8] at hx6
  -- region 3
  refine VW.wr tau_ok Sound.none [some 8] [(0, .val (i64 a0)), (1, .val (dM a1)), (2, .val (i64 a2)), (8, .val (i64 2))] rfl ?_ ?_
  · simp <;> simp [ieq, ilt, ile]
  cases hx6
  exact Fits.of rfl
end Go.Vam
