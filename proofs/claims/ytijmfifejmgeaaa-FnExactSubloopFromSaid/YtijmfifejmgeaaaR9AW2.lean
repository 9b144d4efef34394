import Derived.Test.YtijmfifejmgeaaaR9T
import Derived.Test.YtijmfifejmgeaaaFmG0
import Derived.Test.YtijmfifejmgeaaaR9AW1
namespace Go.Vam
open Go Go.RowKit Go.Proofs
set_option maxRecDepth 100000
set_option linter.unusedSimpArgs false
set_option linter.unusedVariables false

theorem l_FnExactSubloopFrom_ok {a0 : List (List Int)} {a1 : List Int} {r : Bool} (h : l_FnExactSubloopFrom a0 a1 = some r) :
    VCall Try.prog 3 [dM a0, dI a1] [.sc (.bool r)] := by
  unfold l_FnExactSubloopFrom at h
  refine VCall.enter Try.call3 Try.func3 rfl 117 Try.ntmps3 (by simp) [.tmp 4] rfl ?_
  show VW _ _ _ (mk [(0, .val (dM a0)), (1, .val (dI a1))]) _
  -- region 0
  refine VW.ws tau_ok Sound.none [some 4] [(0, .val (dM a0)), (1, .val (dI a1))] rfl ?_ ?_
  · simp <;> simp [ieq, ilt, ile]
  refine VW.sqc fun K1 hK1 hCK1 => ?_
  -- region 1
  refine VW.ws tau_ok Sound.none [some 17, some 18, some 19] [(0, .val (dM a0)), (1, .val (dI a1)), (19, .val (.bool (ilt 1048576 (a1.length : Int))))] rfl ?_ ?_
  · simp <;> simp [ieq, ilt, ile]
  refine VW.cond rfl (fun hb2 => ?_) (fun hb2 => ?_)
  ·
    replace hb2 : 1048576 < (a1.length : Int) := by simpa [ieq, ilt, ile] using hb2
    rw [if_pos hb2] at h
    -- region 2
    refine VW.ws tau_ok Sound.none [some 4] [(4, .val (.bool true))] rfl ?_ ?_
    · simp <;> simp [ieq, ilt, ile]
    cases h
    refine VW.ret ?_
    simp [Post, PostM, PostC, PostC2, Nx, Bk]
  replace hb2 : ¬ (1048576 < (a1.length : Int)) := by simpa [ieq, ilt, ile] using hb2
  rw [if_neg hb2] at h
  refine VW.skip ?_
  refine hK1 _ ?_
  -- region 3
  refine VW.ws tau_ok Sound.none [some 5] [(0, .val (dM a0)), (1, .val (dI a1)), (5, .val (i64 1048576))] rfl ?_ ?_
  · simp <;> simp [ieq, ilt, ile]
  -- region 4
  obtain ⟨v3, hv3, h⟩ := bind_some h
  refine VW.ws tau_ok (Sound.none.add 22 (l_szInt64SS_ok hv3) rfl) [some 20, some 21, some 22, some 5] [(0, .val (dM a0)), (1, .val (dI a1)), (5, .val (i64 v3))] rfl ?_ ?_
  · simp <;> simp [ieq, ilt, ile]
  refine VW.sqc fun K4 hK4 hCK4 => ?_
  -- region 5
  refine VW.ws tau_ok Sound.none [some 23, some 24] [(0, .val (dM a0)), (1, .val (dI a1)), (24, .val (.bool (ilt v3 0)))] rfl ?_ ?_
  · simp <;> simp [ieq, ilt, ile]
  refine VW.cond rfl (fun hb5 => ?_) (fun hb5 => ?_)
  ·
    replace hb5 : v3 < 0 := by simpa [ieq, ilt, ile] using hb5
    rw [if_pos hb5] at h
    -- region 6
    refine VW.ws tau_ok Sound.none [some 4] [(4, .val (.bool true))] rfl ?_ ?_
    · simp <;> simp [ieq, ilt, ile]
    cases h
    refine VW.ret ?_
    simp [Post, PostM, PostC, PostC2, Nx, Bk]
  replace hb5 : ¬ (v3 < 0) := by simpa [ieq, ilt, ile] using hb5
  rw [if_neg hb5] at h
  refine VW.skip ?_
  refine hK4 _ ?_
  -- region 7
  obtain ⟨v6, hv6, h⟩ := bind_some h
  obtain ⟨v7, hv7, h⟩ := bind_some h
  obtain ⟨v8, hv8, h⟩ := bind_some h
  refine VW.ws tau_ok (((Sound.none.add 27 (l_toInt64SS_ok hv6) rfl).add 29 (l_toInt64S_ok hv7) rfl).add 30 (s_SubloopFrom_ok hv8) rfl) [some 26, some 27, some 28, some 29, some 30, some 25, some 31, some 32, some 6, some 7] [(0, .val (dM a0)), (1, .val (dI a1)), (6, .ref 6 [] true (dI v8.1)), (7, .val (i64 v8.2))] rfl ?_ ?_
  · simp <;> simp [ieq, ilt, ile]
  -- region 8
  obtain ⟨v9, hv9, h⟩ := bind_some h
  refine VW.ws tau_ok (Sound.none.add 34 (l_toInt64SS_ok hv9) rfl) [some 33, some 34, some 8] [(0, .val (dM a0)), (1, .val (dI a1)), (6, .ref 6 [] true (dI v8.1)), (7, .val (i64 v8.2)), (8, .ref 8 [] true (dM v9))] rfl ?_ ?_
  · simp <;> simp [ieq, ilt, ile]
  -- region 9
  obtain ⟨v10, hv10, h⟩ := bind_some h
  refine VW.ws tau_ok (Sound.none.add 36 (l_toInt64S_ok hv10) rfl) [some 35, some 36, some 9] [(0, .val (dM a0)), (1, .val (dI a1)), (6, .ref 6 [] true (dI v8.1)), (7, .val (i64 v8.2)), (8, .ref 8 [] true (dM v9)), (9, .ref 9 [] true (dI v10))] rfl ?_ ?_
  · simp <;> simp [ieq, ilt, ile]
  -- region 10
  obtain ⟨v11, hv11, h⟩ := bind_some h
  refine VW.ws tau_ok (Sound.none.add 40 (i_SubloopFrom_ok hv11) rfl) [some 38, some 39, some 40, some 37, some 41, some 42, some 10, some 11] [(0, .val (dM a0)), (1, .val (dI a1)), (6, .ref 6 [] true (dI v8.1)), (7, .val (i64 v8.2)), (8, .ref 8 [] true (dM v9)), (9, .ref 9 [] true (dI v10)), (10, .ref 10 [] true (dI v11.1)), (11, .val (i64 v11.2))] rfl ?_ ?_
  · simp <;> simp [ieq, ilt, ile]
  refine VW.sqc fun K12 hK12 hCK12 => ?_
  -- region 11
  obtain ⟨x15, hx15, h⟩ := bind_some h
  refine VW.cut [(0, .val (dM a0)), (1, .val (dI a1)), (6, .ref 6 [] true (dI v8.1)), (7, .val (i64 v8.2)), (8, .ref 8 [] true (dM v9)), (9, .ref 9 [] true (dI v10)), (10, .ref 10 [] true (dI v11.1)), (11, .val (i64 v11.2)), (51, .val (.bool x15))] ?_ fun hy => ?_
  rotate_left
  · clear h
    obtain ⟨v13, hv13, hx15⟩ := bind_some hx15
    by_cases hp14 : v13 = false
    · rw [if_pos hp14] at hx15
      have hp14b : v13 = false := by simpa [ieq, ilt, ile] using hp14
      have hp14s := hp14b
      try simp at hp14s
      cases hx15
      refine VW.ws tau_ok (Sound.none.add 45 (l_eqInt64S_ok hv13) rfl) [some 43, some 44, some 45, some 46, some 47, some 48, some 49, some 50, some 51] _ rfl ?_ hy
      simp [hp14b, hp14s] <;> simp [ieq, ilt, ile]
    · rw [if_neg hp14] at hx15
      have hp14b : v13 = true := by simpa [ieq, ilt, ile] using hp14
      have hp14s := hp14b
      try simp at hp14s
      cases hx15
      refine VW.ws tau_ok (Sound.none.add 45 (l_eqInt64S_ok hv13) rfl) [some 43, some 44, some 45, some 46, some 47, some 48, some 49, some 50, some 51] _ rfl ?_ hy
      simp [hp14b, hp14s] <;> simp [ieq, ilt, ile]
  refine VW.cond rfl (fun hb16 => ?_) (fun hb16 => ?_)
  ·
    replace hb16 : x15 = true := by simpa [ieq, ilt, ile] using hb16
    rw [if_pos hb16] at h
    -- region 12
    refine VW.ws tau_ok Sound.none [some 4] [(4, .val (.bool false))] rfl ?_ ?_
    · simp <;> simp [ieq, ilt, ile]
    cases h
    refine VW.ret ?_
    simp [Post, PostM, PostC, PostC2, Nx, Bk]
  replace hb16 : ¬ (x15 = true) := by simpa [ieq, ilt, ile] using hb16
  rw [if_neg hb16] at h
  refine VW.skip ?_
  refine hK12 _ ?_
  refine VW.sqc fun K17 hK17 hCK17 => ?_
  -- region 13
  obtain ⟨v18, hv18, h⟩ := bind_some h
  obtain ⟨v19, hv19, h⟩ := bind_some h
  refine VW.ws tau_ok ((Sound.none.add 54 (l_toInt64SS_ok hv18) rfl).add 55 (l_eqInt64SS_ok hv19) rfl) [some 52, some 53, some 54, some 55, some 56] [(0, .val (dM a0)), (1, .val (dI a1)), (6, .ref 6 [] true (dI v8.1)), (7, .val (i64 v8.2)), (8, .ref 8 [] true (dM v9)), (9, .ref 9 [] true (dI v10)), (10, .ref 10 [] true (dI v11.1)), (11, .val (i64 v11.2)), (56, .val (.bool (!v19)))] rfl ?_ ?_
  · simp <;> simp [ieq, ilt, ile]
  refine VW.cond rfl (fun hb20 => ?_) (fun hb20 => ?_)
  ·
    replace hb20 : v19 = false := by simpa [ieq, ilt, ile] using hb20
    rw [if_pos hb20] at h
    -- region 14
    refine VW.ws tau_ok Sound.none [some 4] [(4, .val (.bool false))] rfl ?_ ?_
    · simp <;> simp [ieq, ilt, ile]
    cases h
    refine VW.ret ?_
    simp [Post, PostM, PostC, PostC2, Nx, Bk]
  replace hb20 : ¬ (v19 = false) := by simpa [ieq, ilt, ile] using hb20
  rw [if_neg hb20] at h
  refine VW.skip ?_
  refine hK17 _ ?_
  refine VW.sqc fun K21 hK21 hCK21 => ?_
  -- region 15
  obtain ⟨v22, hv22, h⟩ := bind_some h
  obtain ⟨v23, hv23, h⟩ := bind_some h
  refine VW.ws tau_ok ((Sound.none.add 59 (l_toInt64S_ok hv22) rfl).add 60 (l_eqInt64S_ok hv23) rfl) [some 57, some 58, some 59, some 60, some 61] [(0, .val (dM a0)), (1, .val (dI a1)), (6, .ref 6 [] true (dI v8.1)), (7, .val (i64 v8.2)), (8, .ref 8 [] true (dM v9)), (9, .ref 9 [] true (dI v10)), (10, .ref 10 [] true (dI v11.1)), (11, .val (i64 v11.2)), (61, .val (.bool (!v23)))] rfl ?_ ?_
  · simp <;> simp [ieq, ilt, ile]
  refine VW.cond rfl (fun hb24 => ?_) (fun hb24 => ?_)
  ·
    replace hb24 : v23 = false := by simpa [ieq, ilt, ile] using hb24
    rw [if_pos hb24] at h
    -- region 16
    refine VW.ws tau_ok Sound.none [some 4] [(4, .val (.bool false))] rfl ?_ ?_
    · simp <;> simp [ieq, ilt, ile]
    cases h
    refine VW.ret ?_
    simp [Post, PostM, PostC, PostC2, Nx, Bk]
  replace hb24 : ¬ (v23 = false) := by simpa [ieq, ilt, ile] using hb24
  rw [if_neg hb24] at h
  refine VW.skip ?_
  refine hK21 _ ?_
  -- region 17
  refine VW.ws tau_ok Sound.none [some 12] [(0, .val (dM a0)), (1, .val (dI a1)), (6, .ref 6 [] true (dI v8.1)), (7, .val (i64 v8.2)), (8, .ref 8 [] true (dM v9)), (9, .ref 9 [] true (dI v10)), (10, .ref 10 [] true (dI v11.1)), (11, .val (i64 v11.2)), (12, .val (i64 1))] rfl ?_ ?_
  · simp <;> simp [ieq, ilt, ile]
  -- region 18
  obtain ⟨v25, hv25, h⟩ := bind_some h
  refine VW.ws tau_ok (Sound.none.mutc 64 (l_markInt64SS_ok hv25)) [some 62, some 63, some 64, some 12] [(0, .val (dM a0)), (1, .val (dI a1)), (6, .ref 6 [] true (dI v8.1)), (7, .val (i64 v8.2)), (9, .ref 9 [] true (dI v10)), (10, .ref 10 [] true (dI v11.1)), (11, .val (i64 v11.2)), (12, .val (i64 v25.1))] rfl ?_ ?_
  · simp <;> simp [ieq, ilt, ile]
  -- region 19
  obtain ⟨v26, hv26, h⟩ := bind_some h
  refine VW.ws tau_ok (Sound.none.mutc 67 (l_markInt64S_ok hv26)) [some 65, some 66, some 67, some 12] [(0, .val (dM a0)), (1, .val (dI a1)), (6, .ref 6 [] true (dI v8.1)), (7, .val (i64 v8.2)), (10, .ref 10 [] true (dI v11.1)), (11, .val (i64 v11.2)), (12, .val (i64 v26.1))] rfl ?_ ?_
  · simp <;> simp [ieq, ilt, ile]
  refine VW.sqc fun K27 hK27 hCK27 => ?_
  -- region 20
  obtain ⟨x31, hx31, h⟩ := bind_some h
  refine VW.cut [(0, .val (dM a0)), (1, .val (dI a1)), (6, .ref 6 [] true (dI v8.1)), (7, .val (i64 v8.2)), (10, .ref 10 [] true (dI v11.1)), (80, .val (.bool x31))] ?_ fun hy => ?_
  rotate_left
  · clear h
    by_cases hp28 : v26.1 < 0
    · rw [if_pos hp28] at hx31
      have hp28b : ilt v26.1 0 = true := by simpa [ieq, ilt, ile] using hp28
      have hp28s := hp28b
      try simp at hp28s
      cases hx31
      refine VW.ws tau_ok Sound.none [some 68, some 69, some 70, some 71, some 72, some 73, some 74, some 75, some 76, some 77, some 78, some 79, some 80] _ rfl ?_ hy
      simp [hp28b, hp28s] <;> simp [ieq, ilt, ile]
    · rw [if_neg hp28] at hx31
      have hp28b : ilt v26.1 0 = false := by simpa [ieq, ilt, ile] using hp28
      have hp28s := hp28b
      try simp at hp28s
      obtain ⟨v29, hv29, hx31⟩ := bind_some hx31
      by_cases hp30 : v29 = false
      · rw [if_pos hp30] at hx31
        have hp30b : v29 = false := by simpa [ieq, ilt, ile] using hp30
        have hp30s := hp30b
        try simp at hp30s
        cases hx31
        refine VW.ws tau_ok (Sound.none.add 73 (l_eqInt64S_ok hv29) rfl) [some 68, some 69, some 70, some 71, some 72, some 73, some 74, some 75, some 76, some 77, some 78, some 79, some 80] _ rfl ?_ hy
        simp [hp28b, hp28s, hp30b, hp30s] <;> simp [ieq, ilt, ile]
      · rw [if_neg hp30] at hx31
        have hp30b : v29 = true := by simpa [ieq, ilt, ile] using hp30
        have hp30s := hp30b
        try simp at hp30s
        cases hx31
        refine VW.ws tau_ok (Sound.none.add 73 (l_eqInt64S_ok hv29) rfl) [some 68, some 69, some 70, some 71, some 72, some 73, some 74, some 75, some 76, some 77, some 78, some 79, some 80] _ rfl ?_ hy
        simp [hp28b, hp28s, hp30b, hp30s] <;> simp [ieq, ilt, ile]
  refine VW.cond rfl (fun hb32 => ?_) (fun hb32 => ?_)
  ·
    replace hb32 : x31 = true := by simpa [ieq, ilt, ile] using hb32
    rw [if_pos hb32] at h
    -- region 21
    refine VW.ws tau_ok Sound.none [some 4] [(4, .val (.bool false))] rfl ?_ ?_
    · simp <;> simp [ieq, ilt, ile]
    cases h
    refine VW.ret ?_
    simp [Post, PostM, PostC, PostC2, Nx, Bk]
  replace hb32 : ¬ (x31 = true) := by simpa [ieq, ilt, ile] using hb32
  rw [if_neg hb32] at h
  refine VW.skip ?_
  refine hK27 _ ?_
  -- region 22
  refine VW.ws tau_ok Sound.none [some 13] [(0, .val (dM a0)), (1, .val (dI a1)), (6, .ref 6 [] true (dI v8.1)), (7, .val (i64 v8.2)), (10, .ref 10 [] true (dI v11.1)), (13, .val (i64 1))] rfl ?_ ?_
  · simp <;> simp [ieq, ilt, ile]
  -- region 23
  obtain ⟨v33, hv33, h⟩ := bind_some h
  refine VW.ws tau_ok (Sound.none.mutc 83 (l_markInt64S_ok hv33)) [some 81, some 82, some 83, some 13] [(0, .val (dM a0)), (1, .val (dI a1)), (6, .ref 6 [] true (dI v8.1)), (7, .val (i64 v8.2)), (10, .ref 10 [] true (dI v33.2)), (13, .val (i64 v33.1))] rfl ?_ ?_
  · simp <;> simp [ieq, ilt, ile]
  -- region 24
  refine VW.ws tau_ok Sound.none [some 14] [(0, .val (dM a0)), (1, .val (dI a1)), (6, .ref 6 [] true (dI v8.1)), (7, .val (i64 v8.2)), (10, .ref 10 [] true (dI v33.2)), (13, .val (i64 v33.1)), (14, .val (i64 1))] rfl ?_ ?_
  · simp <;> simp [ieq, ilt, ile]
  -- region 25
  obtain ⟨v34, hv34, h⟩ := bind_some h
  refine VW.ws tau_ok (Sound.none.add 86 (l_heldInt64S_ok hv34) rfl) [some 84, some 85, some 86, some 14] [(0, .val (dM a0)), (1, .val (dI a1)), (6, .ref 6 [] true (dI v8.1)), (7, .val (i64 v8.2)), (10, .ref 10 [] true (dI v33.2)), (13, .val (i64 v33.1)), (14, .val (i64 v34))] rfl ?_ ?_
  · simp <;> simp [ieq, ilt, ile]
  refine VW.sqc fun K35 hK35 hCK35 => ?_
  -- region 26
  refine VW.ws tau_ok Sound.none [some 87, some 88] [(0, .val (dM a0)), (1, .val (dI a1)), (6, .ref 6 [] true (dI v8.1)), (7, .val (i64 v8.2)), (10, .ref 10 [] true (dI v33.2)), (13, .val (i64 v33.1)), (14, .val (i64 v34)), (88, .val (.bool (ilt v34 0)))] rfl ?_ ?_
  · simp <;> simp [ieq, ilt, ile]
  refine VW.cond rfl (fun hb36 => ?_) (fun hb36 => ?_)
  ·
    replace hb36 : v34 < 0 := by simpa [ieq, ilt, ile] using hb36
    rw [if_pos hb36] at h
    -- region 27
    refine VW.ws tau_ok Sound.none [some 4] [(4, .val (.bool false))] rfl ?_ ?_
    · simp <;> simp [ieq, ilt, ile]
    cases h
    refine VW.ret ?_
    simp [Post, PostM, PostC, PostC2, Nx, Bk]
  replace hb36 : ¬ (v34 < 0) := by simpa [ieq, ilt, ile] using hb36
  rw [if_neg hb36] at h
  refine VW.skip ?_
  refine hK35 _ ?_
  refine VW.sqc fun K37 hK37 hCK37 => ?_
  -- region 28
  refine VW.ws tau_ok Sound.none [some 89, some 90, some 91] [(0, .val (dM a0)), (1, .val (dI a1)), (6, .ref 6 [] true (dI v8.1)), (7, .val (i64 v8.2)), (10, .ref 10 [] true (dI v33.2)), (13, .val (i64 v33.1)), (91, .val (.bool (!(ieq v34 v33.1))))] rfl ?_ ?_
  · simp <;> simp [ieq, ilt, ile]
  refine VW.cond rfl (fun hb38 => ?_) (fun hb38 => ?_)
  ·
    replace hb38 : ¬ v34 = v33.1 := by simpa [ieq, ilt, ile] using hb38
    rw [if_pos hb38] at h
    -- region 29
    refine VW.ws tau_ok Sound.none [some 4] [(4, .val (.bool false))] rfl ?_ ?_
    · simp <;> simp [ieq, ilt, ile]
    cases h
    refine VW.ret ?_
    simp [Post, PostM, PostC, PostC2, Nx, Bk]
  replace hb38 : ¬ (¬ v34 = v33.1) := by simpa [ieq, ilt, ile] using hb38
  rw [if_neg hb38] at h
  refine VW.skip ?_
  refine hK37 _ ?_
  -- region 30
  obtain ⟨v39, hv39, h⟩ := bind_some h
  obtain ⟨v40, hv40, h⟩ := bind_some h
  obtain ⟨v41, hv41, h⟩ := bind_some h
  refine VW.ws tau_ok (((Sound.none.add 94 (l_toInt64SS_ok hv39) rfl).add 96 (l_toInt64S_ok hv40) rfl).add 97 (i_SubloopFrom_ok hv41) rfl) [some 93, some 94, some 95, some 96, some 97, some 92, some 98, some 99, some 15, some 16] [(6, .ref 6 [] true (dI v8.1)), (7, .val (i64 v8.2)), (10, .ref 10 [] true (dI v33.2)), (13, .val (i64 v33.1)), (15, .ref 15 [] true (dI v41.1)), (16, .val (i64 v41.2))] rfl ?_ ?_
  · simp <;> simp [ieq, ilt, ile]
  refine VW.sqc fun K42 hK42 hCK42 => ?_
  -- region 31
  obtain ⟨x45, hx45, h⟩ := bind_some h
  refine VW.cut [(10, .ref 10 [] true (dI v33.2)), (13, .val (i64 v33.1)), (108, .val (.bool x45))] ?_ fun hy => ?_
  rotate_left
  · clear h
    obtain ⟨v43, hv43, hx45⟩ := bind_some hx45
    by_cases hp44 : v43 = false
    · rw [if_pos hp44] at hx45
      have hp44b : v43 = false := by simpa [ieq, ilt, ile] using hp44
      have hp44s := hp44b
      try simp at hp44s
      cases hx45
      refine VW.ws tau_ok (Sound.none.add 102 (l_eqInt64S_ok hv43) rfl) [some 100, some 101, some 102, some 103, some 104, some 105, some 106, some 107, some 108] _ rfl ?_ hy
      simp [hp44b, hp44s] <;> simp [ieq, ilt, ile]
    · rw [if_neg hp44] at hx45
      have hp44b : v43 = true := by simpa [ieq, ilt, ile] using hp44
      have hp44s := hp44b
      try simp at hp44s
      cases hx45
      refine VW.ws tau_ok (Sound.none.add 102 (l_eqInt64S_ok hv43) rfl) [some 100, some 101, some 102, some 103, some 104, some 105, some 106, some 107, some 108] _ rfl ?_ hy
      simp [hp44b, hp44s] <;> simp [ieq, ilt, ile]
  refine VW.cond rfl (fun hb46 => ?_) (fun hb46 => ?_)
  ·
    replace hb46 : x45 = true := by simpa [ieq, ilt, ile] using hb46
    rw [if_pos hb46] at h
    -- region 32
    refine VW.ws tau_ok Sound.none [some 4] [(4, .val (.bool false))] rfl ?_ ?_
    · simp <;> simp [ieq, ilt, ile]
    cases h
    refine VW.ret ?_
    simp [Post, PostM, PostC, PostC2, Nx, Bk]
  replace hb46 : ¬ (x45 = true) := by simpa [ieq, ilt, ile] using hb46
  rw [if_neg hb46] at h
  refine VW.skip ?_
  refine hK42 _ ?_
  -- region 33
  refine VW.ws tau_ok Sound.none [some 14] [(10, .ref 10 [] true (dI v33.2)), (13, .val (i64 v33.1)), (14, .val (i64 1))] rfl ?_ ?_
  · simp <;> simp [ieq, ilt, ile]
  -- region 34
  obtain ⟨v47, hv47, h⟩ := bind_some h
  refine VW.ws tau_ok (Sound.none.add 111 (l_heldInt64S_ok hv47) rfl) [some 109, some 110, some 111, some 14] [(13, .val (i64 v33.1)), (14, .val (i64 v47))] rfl ?_ ?_
  · simp <;> simp [ieq, ilt, ile]
  refine VW.sqc fun K48 hK48 hCK48 => ?_
  -- region 35
  refine VW.ws tau_ok Sound.none [some 112, some 113] [(13, .val (i64 v33.1)), (14, .val (i64 v47)), (113, .val (.bool (ilt v47 0)))] rfl ?_ ?_
  · simp <;> simp [ieq, ilt, ile]
  refine VW.cond rfl (fun hb49 => ?_) (fun hb49 => ?_)
  ·
    replace hb49 : v47 < 0 := by simpa [ieq, ilt, ile] using hb49
    rw [if_pos hb49] at h
    -- region 36
    refine VW.ws tau_ok Sound.none [some 4] [(4, .val (.bool false))] rfl ?_ ?_
    · simp <;> simp [ieq, ilt, ile]
    cases h
    refine VW.ret ?_
    simp [Post, PostM, PostC, PostC2, Nx, Bk]
  replace hb49 : ¬ (v47 < 0) := by simpa [ieq, ilt, ile] using hb49
  rw [if_neg hb49] at h
  refine VW.skip ?_
  refine hK48 _ ?_
  refine VW.sqc fun K50 hK50 hCK50 => ?_
  -- region 37
  refine VW.ws tau_ok Sound.none [some 114, some 115, some 116] [(116, .val (.bool (!(ieq v47 v33.1))))] rfl ?_ ?_
  · simp <;> simp [ieq, ilt, ile]
  refine VW.cond rfl (fun hb51 => ?_) (fun hb51 => ?_)
  ·
    replace hb51 : ¬ v47 = v33.1 := by simpa [ieq, ilt, ile] using hb51
    rw [if_pos hb51] at h
    -- region 38
    refine VW.ws tau_ok Sound.none [some 4] [(4, .val (.bool false))] rfl ?_ ?_
    · simp <;> simp [ieq, ilt, ile]
    cases h
    refine VW.ret ?_
    simp [Post, PostM, PostC, PostC2, Nx, Bk]
  replace hb51 : ¬ (¬ v47 = v33.1) := by simpa [ieq, ilt, ile] using hb51
  rw [if_neg hb51] at h
  refine VW.skip ?_
  refine hK50 _ ?_
  -- region 39
  refine VW.ws tau_ok Sound.none [some 4] [(4, .val (.bool true))] rfl ?_ ?_
  · simp <;> simp [ieq, ilt, ile]
  cases h
  refine VW.ret ?_
  simp [Post, PostM, PostC, PostC2, Nx, Bk]
end Go.Vam
