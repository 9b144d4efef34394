import Derived.Test.YteafapgnelhmmaaR2T
import Derived.Test.YteafapgnelhmmaaFnD
import Derived.Test.YteafapgnelhmmaaR2W1
import Derived.Test.YteafapgnelhmmaaR2W2
import Derived.Test.YteafapgnelhmmaaR2W4
import Derived.Test.YteafapgnelhmmaaR2W6
import Derived.Test.YteafapgnelhmmaaR2W7
import Derived.Test.YteafapgnelhmmaaR2W8
import Derived.Test.YteafapgnelhmmaaR2W9
import Derived.Test.YteafapgnelhmmaaR2W11
import Derived.Test.YteafapgnelhmmaaR2W14
namespace Go.Vam
open Go Go.RowKit Go.Proofs
set_option maxRecDepth 100000
set_option linter.unusedSimpArgs false
set_option linter.unusedVariables false

theorem i_PowerMatrix_ok {a0 : Int} {a1 : List (List Int)} {a2 : Int} {r : (List (List Int)) × Int} (h : i_PowerMatrix a0 a1 a2 = some r) :
    VCall Try.prog 59 [i64 a0, dM a1, i64 a2] [.own true (dM r.1), .sc (i64 r.2)] := by
  unfold i_PowerMatrix at h
  refine VCall.enter Try.call59 Try.func59 rfl 41 Try.ntmps59 (by simp) [.tmp 6, .tmp 7] rfl ?_
  show VW _ _ _ (mk [(0, .val (i64 a0)), (1, .val (dM a1)), (2, .val (i64 a2))]) _
  -- region 0
  refine VW.ws tau_ok Sound.none [some 6, some 7] [(0, .val (i64 a0)), (1, .val (dM a1)), (2, .val (i64 a2))] rfl ?_ ?_
  · simp <;> simp [ieq, ilt, ile]
  refine VW.sqc fun K1 hK1 hCK1 => ?_
  -- region 1
  obtain ⟨v2, hv2, h⟩ := bind_some h
  refine VW.ws tau_ok (Sound.none.add 13 (i_checkSquare_ok hv2) rfl) [some 11, some 12, some 13, some 8] [(0, .val (i64 a0)), (1, .val (dM a1)), (2, .val (i64 a2)), (8, .val (i64 v2))] rfl ?_ ?_
  · simp <;> simp [ieq, ilt, ile]
  -- region 2
  refine VW.ws tau_ok Sound.none [some 14, some 15] [(0, .val (i64 a0)), (1, .val (dM a1)), (2, .val (i64 a2)), (8, .val (i64 v2)), (15, .val (.bool (!(ieq v2 0))))] rfl ?_ ?_
  · simp <;> simp [ieq, ilt, ile]
  refine VW.cond rfl (fun hb3 => ?_) (fun hb3 => ?_)
  ·
    replace hb3 : ¬ v2 = 0 := by simpa [ieq, ilt, ile] using hb3
    rw [if_pos hb3] at h
    -- region 3
    refine VW.ws tau_ok Sound.none [some 16, some 6, some 7] [(6, .ref 6 [] true (.list [])), (7, .val (i64 v2))] rfl ?_ ?_
    · simp <;> simp [ieq, ilt, ile]
    cases h
    refine VW.ret ?_
    simp [Post, PostM, PostC, PostC2, Nx, Bk]
  replace hb3 : ¬ (¬ v2 = 0) := by simpa [ieq, ilt, ile] using hb3
  rw [if_neg hb3] at h
  refine VW.skip ?_
  refine hK1 _ ?_
  refine VW.sqc fun K4 hK4 hCK4 => ?_
  -- region 4
  obtain ⟨v5, hv5, h⟩ := bind_some h
  refine VW.ws tau_ok (Sound.none.add 18 (i_inRange_ok hv5) rfl) [some 17, some 18, some 19] [(0, .val (i64 a0)), (1, .val (dM a1)), (2, .val (i64 a2)), (19, .val (.bool (!v5)))] rfl ?_ ?_
  · simp <;> simp [ieq, ilt, ile]
  refine VW.cond rfl (fun hb6 => ?_) (fun hb6 => ?_)
  ·
    replace hb6 : v5 = false := by simpa [ieq, ilt, ile] using hb6
    rw [if_pos hb6] at h
    -- region 5
    refine VW.ws tau_ok Sound.none [some 6, some 7] [(6, .ref 6 [] true (.list [])), (7, .val (i64 2))] rfl ?_ ?_
    · simp <;> simp [ieq, ilt, ile]
    cases h
    refine VW.ret ?_
    simp [Post, PostM, PostC, PostC2, Nx, Bk]
  replace hb6 : ¬ (v5 = false) := by simpa [ieq, ilt, ile] using hb6
  rw [if_neg hb6] at h
  refine VW.skip ?_
  refine hK4 _ ?_
  -- region 6
  obtain ⟨v7, hv7, h⟩ := bind_some h
  obtain ⟨v8, hv8, h⟩ := bind_some h
  refine VW.ws tau_ok ((Sound.none.add 22 (i_unit_ok hv7) rfl).add 24 (i_cloneRows_ok hv8) rfl) [some 20, some 21, some 22, some 23, some 24, some 9, some 10] [(0, .val (i64 a0)), (2, .val (i64 a2)), (9, .ref 9 [] true (dM v7)), (10, .ref 10 [] true (dM v8))] rfl ?_ ?_
  · simp <;> simp [ieq, ilt, ile]
  refine VW.sqc fun K9 hK9 hCK9 => ?_
  obtain ⟨x10, hx10, h⟩ := bind_some h
  refine VW.tlE [(9, .ref 9 [] true (dM x10))] (hCK9) ?_ ?_
  · clear hx10
    refine hK9 _ ?_
    -- region 12
    refine VW.ws tau_ok Sound.none [some 40, some 6, some 7] [(6, .ref 6 [] true (dM x10)), (7, .val (i64 0))] rfl ?_ ?_
    · simp <;> simp [ieq, ilt, ile]
    cases h
    refine VW.ret ?_
    simp [Post, PostM, PostC, PostC2, Nx, Bk]
  refine VW.block ?_
  refine VW.loopF (i_PowerMatrix_L0 a0) (fun s10 => [(0, .val (i64 a0)), (2, .val (i64 s10.1)), (9, .ref 9 [] true (dM s10.2.1)), (10, .ref 10 [] true (dM s10.2.2))]) hx10 (Fits.of rfl) ?_
  clear hx10
  intro s10 ox10 hx10o hx10b
  unfold i_PowerMatrix_L0 at hx10o
  refine VW.sqc fun K12 hK12 hCK12 => ?_
  -- region 7
  refine VW.ws tau_ok Sound.none [some 25, some 26] [(0, .val (i64 a0)), (2, .val (i64 s10.1)), (9, .ref 9 [] true (dM s10.2.1)), (10, .ref 10 [] true (dM s10.2.2)), (26, .val (.bool (ilt 0 s10.1)))] rfl ?_ ?_
  · simp <;> simp [ieq, ilt, ile]
  refine VW.cond rfl (fun hb13 => ?_) (fun hb13 => ?_)
  rotate_left
  ·
    replace hb13 : ¬ (0 < s10.1) := by simpa [ieq, ilt, ile] using hb13
    rw [if_neg hb13] at hx10o
    refine VW.exit ?_
    cases hx10o
    have hq := hx10b _ rfl
    subst hq
    exact Fits.of rfl
  replace hb13 : 0 < s10.1 := by simpa [ieq, ilt, ile] using hb13
  rw [if_pos hb13] at hx10o
  refine VW.skip ?_
  refine hK12 _ ?_
  refine VW.sqc fun K14 hK14 hCK14 => ?_
  refine VW.block ?_
  refine VW.sqc fun K15 hK15 hCK15 => ?_
  -- region 9
  refine VW.ws tau_ok Sound.none [some 29, some 30, some 31] [(0, .val (i64 a0)), (2, .val (i64 s10.1)), (9, .ref 9 [] true (dM s10.2.1)), (10, .ref 10 [] true (dM s10.2.2)), (31, .val (.bool (ieq (s10.1.tmod 2) 1)))] rfl ?_ ?_
  · simp <;> simp [ieq, ilt, ile]
  obtain ⟨x16, hx16, hx10o⟩ := bind_some hx10o
  refine VW.tlE [(0, .val (i64 a0)), (2, .val (i64 s10.1)), (9, .ref 9 [] true (dM x16)), (10, .ref 10 [] true (dM s10.2.2))] (hCK15) ?_ ?_
  · clear hx16
    refine hK15 _ ?_
    -- region 11
    obtain ⟨v20, hv20, hx10o⟩ := bind_some hx10o
    refine VW.wr tau_ok (Sound.none.add 39 (i_field_times_ok hv20) rfl) [some 36, some 37, some 38, some 39, some 10] [(0, .val (i64 a0)), (2, .val (i64 s10.1)), (9, .ref 9 [] true (dM x16)), (10, .ref 10 [] true (dM v20))] rfl ?_ ?_
    · simp <;> simp [ieq, ilt, ile]
    refine hK14 _ ?_
    -- region 8
    refine VW.wr tau_ok Sound.none [some 27, some 28, some 2] [(0, .val (i64 a0)), (2, .val (i64 (w64 (s10.1.tdiv 2)))), (9, .ref 9 [] true (dM x16)), (10, .ref 10 [] true (dM v20))] rfl ?_ ?_
    · simp <;> simp [ieq, ilt, ile]
    cases hx10o
    exact ⟨_, rfl, Fits.of rfl⟩
  refine VW.cond rfl (fun hb18 => ?_) (fun hb18 => ?_)
  rotate_left
  ·
    replace hb18 : ¬ ((s10.1.tmod 2) = 1) := by simpa [ieq, ilt, ile] using hb18
    rw [if_neg hb18] at hx16
    refine VW.skip ?_
    cases hx16
    exact Fits.of rfl
  replace hb18 : (s10.1.tmod 2) = 1 := by simpa [ieq, ilt, ile] using hb18
  rw [if_pos hb18] at hx16
  -- region 10
  obtain ⟨v19, hv19, hx16⟩ := bind_some hx16
  refine VW.wr tau_ok (Sound.none.add 35 (i_field_times_ok hv19) rfl) [some 32, some 33, some 34, some 35, some 9] [(0, .val (i64 a0)), (2, .val (i64 s10.1)), (9, .ref 9 [] true (dM v19)), (10, .ref 10 [] true (dM s10.2.2))] rfl ?_ ?_
  · simp <;> simp [ieq, ilt, ile]
  cases hx16
  exact Fits.of rfl

theorem l_FnExactPowerMatrix_ok {a0 : Int} {a1 : List (List Int)} {a2 : Int} {r : Bool} (h : l_FnExactPowerMatrix a0 a1 a2 = some r) :
    VCall Try.prog 12 [i64 a0, dM a1, i64 a2] [.sc (.bool r)] := by
  unfold l_FnExactPowerMatrix at h
  refine VCall.enter Try.call12 Try.func12 rfl 106 Try.ntmps12 (by simp) [.tmp 6] rfl ?_
  show VW _ _ _ (mk [(0, .val (i64 a0)), (1, .val (dM a1)), (2, .val (i64 a2))]) _
  -- region 0
  refine VW.ws tau_ok Sound.none [some 6] [(0, .val (i64 a0)), (1, .val (dM a1)), (2, .val (i64 a2))] rfl ?_ ?_
  · simp <;> simp [ieq, ilt, ile]
  -- region 1
  refine VW.ws tau_ok Sound.none [some 7] [(0, .val (i64 a0)), (1, .val (dM a1)), (2, .val (i64 a2)), (7, .val (i64 1048576))] rfl ?_ ?_
  · simp <;> simp [ieq, ilt, ile]
  -- region 2
  obtain ⟨v1, hv1, h⟩ := bind_some h
  refine VW.ws tau_ok (Sound.none.add 20 (l_szInt64SS_ok hv1) rfl) [some 18, some 19, some 20, some 7] [(0, .val (i64 a0)), (1, .val (dM a1)), (2, .val (i64 a2)), (7, .val (i64 v1))] rfl ?_ ?_
  · simp <;> simp [ieq, ilt, ile]
  refine VW.sqc fun K2 hK2 hCK2 => ?_
  -- region 3
  refine VW.ws tau_ok Sound.none [some 21, some 22] [(0, .val (i64 a0)), (1, .val (dM a1)), (2, .val (i64 a2)), (22, .val (.bool (ilt v1 0)))] rfl ?_ ?_
  · simp <;> simp [ieq, ilt, ile]
  refine VW.cond rfl (fun hb3 => ?_) (fun hb3 => ?_)
  ·
    replace hb3 : v1 < 0 := by simpa [ieq, ilt, ile] using hb3
    rw [if_pos hb3] at h
    -- region 4
    refine VW.ws tau_ok Sound.none [some 6] [(6, .val (.bool true))] rfl ?_ ?_
    · simp <;> simp [ieq, ilt, ile]
    cases h
    refine VW.ret ?_
    simp [Post, PostM, PostC, PostC2, Nx, Bk]
  replace hb3 : ¬ (v1 < 0) := by simpa [ieq, ilt, ile] using hb3
  rw [if_neg hb3] at h
  refine VW.skip ?_
  refine hK2 _ ?_
  -- region 5
  obtain ⟨v4, hv4, h⟩ := bind_some h
  obtain ⟨v5, hv5, h⟩ := bind_some h
  refine VW.ws tau_ok ((Sound.none.add 26 (l_toInt64SS_ok hv4) rfl).add 28 (s_PowerMatrix_ok hv5) rfl) [some 24, some 25, some 26, some 27, some 28, some 23, some 29, some 30, some 8, some 9] [(0, .val (i64 a0)), (1, .val (dM a1)), (2, .val (i64 a2)), (8, .ref 8 [] true (dM v5.1)), (9, .val (i64 v5.2))] rfl ?_ ?_
  · simp <;> simp [ieq, ilt, ile]
  -- region 6
  obtain ⟨v6, hv6, h⟩ := bind_some h
  refine VW.ws tau_ok (Sound.none.add 32 (l_toInt64SS_ok hv6) rfl) [some 31, some 32, some 10] [(0, .val (i64 a0)), (1, .val (dM a1)), (2, .val (i64 a2)), (8, .ref 8 [] true (dM v5.1)), (9, .val (i64 v5.2)), (10, .ref 10 [] true (dM v6))] rfl ?_ ?_
  · simp <;> simp [ieq, ilt, ile]
  -- region 7
  obtain ⟨v7, hv7, h⟩ := bind_some h
  refine VW.ws tau_ok (Sound.none.add 37 (i_PowerMatrix_ok hv7) rfl) [some 34, some 35, some 36, some 37, some 33, some 38, some 39, some 11, some 12] [(0, .val (i64 a0)), (1, .val (dM a1)), (2, .val (i64 a2)), (8, .ref 8 [] true (dM v5.1)), (9, .val (i64 v5.2)), (10, .ref 10 [] true (dM v6)), (11, .ref 11 [] true (dM v7.1)), (12, .val (i64 v7.2))] rfl ?_ ?_
  · simp <;> simp [ieq, ilt, ile]
  refine VW.sqc fun K8 hK8 hCK8 => ?_
  -- region 8
  obtain ⟨x11, hx11, h⟩ := bind_some h
  refine VW.cut [(0, .val (i64 a0)), (1, .val (dM a1)), (2, .val (i64 a2)), (8, .ref 8 [] true (dM v5.1)), (9, .val (i64 v5.2)), (10, .ref 10 [] true (dM v6)), (11, .ref 11 [] true (dM v7.1)), (12, .val (i64 v7.2)), (48, .val (.bool x11))] ?_ fun hy => ?_
  rotate_left
  · clear h
    obtain ⟨v9, hv9, hx11⟩ := bind_some hx11
    by_cases hp10 : v9 = false
    · rw [if_pos hp10] at hx11
      have hp10b : v9 = false := by simpa [ieq, ilt, ile] using hp10
      have hp10s := hp10b
      try simp at hp10s
      cases hx11
      refine VW.ws tau_ok (Sound.none.add 42 (l_eqInt64SS_ok hv9) rfl) [some 40, some 41, some 42, some 43, some 44, some 45, some 46, some 47, some 48] _ rfl ?_ hy
      simp [hp10b, hp10s] <;> simp [ieq, ilt, ile]
    · rw [if_neg hp10] at hx11
      have hp10b : v9 = true := by simpa [ieq, ilt, ile] using hp10
      have hp10s := hp10b
      try simp at hp10s
      cases hx11
      refine VW.ws tau_ok (Sound.none.add 42 (l_eqInt64SS_ok hv9) rfl) [some 40, some 41, some 42, some 43, some 44, some 45, some 46, some 47, some 48] _ rfl ?_ hy
      simp [hp10b, hp10s] <;> simp [ieq, ilt, ile]
  refine VW.cond rfl (fun hb12 => ?_) (fun hb12 => ?_)
  ·
    replace hb12 : x11 = true := by simpa [ieq, ilt, ile] using hb12
    rw [if_pos hb12] at h
    -- region 9
    refine VW.ws tau_ok Sound.none [some 6] [(6, .val (.bool false))] rfl ?_ ?_
    · simp <;> simp [ieq, ilt, ile]
    cases h
    refine VW.ret ?_
    simp [Post, PostM, PostC, PostC2, Nx, Bk]
  replace hb12 : ¬ (x11 = true) := by simpa [ieq, ilt, ile] using hb12
  rw [if_neg hb12] at h
  refine VW.skip ?_
  refine hK8 _ ?_
  refine VW.sqc fun K13 hK13 hCK13 => ?_
  -- region 10
  obtain ⟨v14, hv14, h⟩ := bind_some h
  obtain ⟨v15, hv15, h⟩ := bind_some h
  refine VW.ws tau_ok ((Sound.none.add 51 (l_toInt64SS_ok hv14) rfl).add 52 (l_eqInt64SS_ok hv15) rfl) [some 49, some 50, some 51, some 52, some 53] [(0, .val (i64 a0)), (1, .val (dM a1)), (2, .val (i64 a2)), (8, .ref 8 [] true (dM v5.1)), (9, .val (i64 v5.2)), (10, .ref 10 [] true (dM v6)), (11, .ref 11 [] true (dM v7.1)), (12, .val (i64 v7.2)), (53, .val (.bool (!v15)))] rfl ?_ ?_
  · simp <;> simp [ieq, ilt, ile]
  refine VW.cond rfl (fun hb16 => ?_) (fun hb16 => ?_)
  ·
    replace hb16 : v15 = false := by simpa [ieq, ilt, ile] using hb16
    rw [if_pos hb16] at h
    -- region 11
    refine VW.ws tau_ok Sound.none [some 6] [(6, .val (.bool false))] rfl ?_ ?_
    · simp <;> simp [ieq, ilt, ile]
    cases h
    refine VW.ret ?_
    simp [Post, PostM, PostC, PostC2, Nx, Bk]
  replace hb16 : ¬ (v15 = false) := by simpa [ieq, ilt, ile] using hb16
  rw [if_neg hb16] at h
  refine VW.skip ?_
  refine hK13 _ ?_
  -- region 12
  refine VW.ws tau_ok Sound.none [some 13] [(0, .val (i64 a0)), (1, .val (dM a1)), (2, .val (i64 a2)), (8, .ref 8 [] true (dM v5.1)), (9, .val (i64 v5.2)), (10, .ref 10 [] true (dM v6)), (11, .ref 11 [] true (dM v7.1)), (12, .val (i64 v7.2)), (13, .val (i64 1))] rfl ?_ ?_
  · simp <;> simp [ieq, ilt, ile]
  -- region 13
  obtain ⟨v17, hv17, h⟩ := bind_some h
  refine VW.ws tau_ok (Sound.none.mutc 56 (l_markInt64SS_ok hv17)) [some 54, some 55, some 56, some 13] [(0, .val (i64 a0)), (1, .val (dM a1)), (2, .val (i64 a2)), (8, .ref 8 [] true (dM v5.1)), (9, .val (i64 v5.2)), (11, .ref 11 [] true (dM v7.1)), (12, .val (i64 v7.2)), (13, .val (i64 v17.1))] rfl ?_ ?_
  · simp <;> simp [ieq, ilt, ile]
  refine VW.sqc fun K18 hK18 hCK18 => ?_
  -- region 14
  obtain ⟨x22, hx22, h⟩ := bind_some h
  refine VW.cut [(0, .val (i64 a0)), (1, .val (dM a1)), (2, .val (i64 a2)), (8, .ref 8 [] true (dM v5.1)), (9, .val (i64 v5.2)), (11, .ref 11 [] true (dM v7.1)), (69, .val (.bool x22))] ?_ fun hy => ?_
  rotate_left
  · clear h
    by_cases hp19 : v17.1 < 0
    · rw [if_pos hp19] at hx22
      have hp19b : ilt v17.1 0 = true := by simpa [ieq, ilt, ile] using hp19
      have hp19s := hp19b
      try simp at hp19s
      cases hx22
      refine VW.ws tau_ok Sound.none [some 57, some 58, some 59, some 60, some 61, some 62, some 63, some 64, some 65, some 66, some 67, some 68, some 69] _ rfl ?_ hy
      simp [hp19b, hp19s] <;> simp [ieq, ilt, ile]
    · rw [if_neg hp19] at hx22
      have hp19b : ilt v17.1 0 = false := by simpa [ieq, ilt, ile] using hp19
      have hp19s := hp19b
      try simp at hp19s
      obtain ⟨v20, hv20, hx22⟩ := bind_some hx22
      by_cases hp21 : v20 = false
      · rw [if_pos hp21] at hx22
        have hp21b : v20 = false := by simpa [ieq, ilt, ile] using hp21
        have hp21s := hp21b
        try simp at hp21s
        cases hx22
        refine VW.ws tau_ok (Sound.none.add 62 (l_eqInt64SS_ok hv20) rfl) [some 57, some 58, some 59, some 60, some 61, some 62, some 63, some 64, some 65, some 66, some 67, some 68, some 69] _ rfl ?_ hy
        simp [hp19b, hp19s, hp21b, hp21s] <;> simp [ieq, ilt, ile]
      · rw [if_neg hp21] at hx22
        have hp21b : v20 = true := by simpa [ieq, ilt, ile] using hp21
        have hp21s := hp21b
        try simp at hp21s
        cases hx22
        refine VW.ws tau_ok (Sound.none.add 62 (l_eqInt64SS_ok hv20) rfl) [some 57, some 58, some 59, some 60, some 61, some 62, some 63, some 64, some 65, some 66, some 67, some 68, some 69] _ rfl ?_ hy
        simp [hp19b, hp19s, hp21b, hp21s] <;> simp [ieq, ilt, ile]
  refine VW.cond rfl (fun hb23 => ?_) (fun hb23 => ?_)
  ·
    replace hb23 : x22 = true := by simpa [ieq, ilt, ile] using hb23
    rw [if_pos hb23] at h
    -- region 15
    refine VW.ws tau_ok Sound.none [some 6] [(6, .val (.bool false))] rfl ?_ ?_
    · simp <;> simp [ieq, ilt, ile]
    cases h
    refine VW.ret ?_
    simp [Post, PostM, PostC, PostC2, Nx, Bk]
  replace hb23 : ¬ (x22 = true) := by simpa [ieq, ilt, ile] using hb23
  rw [if_neg hb23] at h
  refine VW.skip ?_
  refine hK18 _ ?_
  -- region 16
  refine VW.ws tau_ok Sound.none [some 14] [(0, .val (i64 a0)), (1, .val (dM a1)), (2, .val (i64 a2)), (8, .ref 8 [] true (dM v5.1)), (9, .val (i64 v5.2)), (11, .ref 11 [] true (dM v7.1)), (14, .val (i64 1))] rfl ?_ ?_
  · simp <;> simp [ieq, ilt, ile]
  -- region 17
  obtain ⟨v24, hv24, h⟩ := bind_some h
  refine VW.ws tau_ok (Sound.none.mutc 72 (l_markInt64SS_ok hv24)) [some 70, some 71, some 72, some 14] [(0, .val (i64 a0)), (1, .val (dM a1)), (2, .val (i64 a2)), (8, .ref 8 [] true (dM v5.1)), (9, .val (i64 v5.2)), (11, .ref 11 [] true (dM v24.2)), (14, .val (i64 v24.1))] rfl ?_ ?_
  · simp <;> simp [ieq, ilt, ile]
  -- region 18
  refine VW.ws tau_ok Sound.none [some 15] [(0, .val (i64 a0)), (1, .val (dM a1)), (2, .val (i64 a2)), (8, .ref 8 [] true (dM v5.1)), (9, .val (i64 v5.2)), (11, .ref 11 [] true (dM v24.2)), (14, .val (i64 v24.1)), (15, .val (i64 1))] rfl ?_ ?_
  · simp <;> simp [ieq, ilt, ile]
  -- region 19
  obtain ⟨v25, hv25, h⟩ := bind_some h
  refine VW.ws tau_ok (Sound.none.add 75 (l_heldInt64SS_ok hv25) rfl) [some 73, some 74, some 75, some 15] [(0, .val (i64 a0)), (1, .val (dM a1)), (2, .val (i64 a2)), (8, .ref 8 [] true (dM v5.1)), (9, .val (i64 v5.2)), (11, .ref 11 [] true (dM v24.2)), (14, .val (i64 v24.1)), (15, .val (i64 v25))] rfl ?_ ?_
  · simp <;> simp [ieq, ilt, ile]
  refine VW.sqc fun K26 hK26 hCK26 => ?_
  -- region 20
  refine VW.ws tau_ok Sound.none [some 76, some 77] [(0, .val (i64 a0)), (1, .val (dM a1)), (2, .val (i64 a2)), (8, .ref 8 [] true (dM v5.1)), (9, .val (i64 v5.2)), (11, .ref 11 [] true (dM v24.2)), (14, .val (i64 v24.1)), (15, .val (i64 v25)), (77, .val (.bool (ilt v25 0)))] rfl ?_ ?_
  · simp <;> simp [ieq, ilt, ile]
  refine VW.cond rfl (fun hb27 => ?_) (fun hb27 => ?_)
  ·
    replace hb27 : v25 < 0 := by simpa [ieq, ilt, ile] using hb27
    rw [if_pos hb27] at h
    -- region 21
    refine VW.ws tau_ok Sound.none [some 6] [(6, .val (.bool false))] rfl ?_ ?_
    · simp <;> simp [ieq, ilt, ile]
    cases h
    refine VW.ret ?_
    simp [Post, PostM, PostC, PostC2, Nx, Bk]
  replace hb27 : ¬ (v25 < 0) := by simpa [ieq, ilt, ile] using hb27
  rw [if_neg hb27] at h
  refine VW.skip ?_
  refine hK26 _ ?_
  refine VW.sqc fun K28 hK28 hCK28 => ?_
  -- region 22
  refine VW.ws tau_ok Sound.none [some 78, some 79, some 80] [(0, .val (i64 a0)), (1, .val (dM a1)), (2, .val (i64 a2)), (8, .ref 8 [] true (dM v5.1)), (9, .val (i64 v5.2)), (11, .ref 11 [] true (dM v24.2)), (14, .val (i64 v24.1)), (80, .val (.bool (!(ieq v25 v24.1))))] rfl ?_ ?_
  · simp <;> simp [ieq, ilt, ile]
  refine VW.cond rfl (fun hb29 => ?_) (fun hb29 => ?_)
  ·
    replace hb29 : ¬ v25 = v24.1 := by simpa [ieq, ilt, ile] using hb29
    rw [if_pos hb29] at h
    -- region 23
    refine VW.ws tau_ok Sound.none [some 6] [(6, .val (.bool false))] rfl ?_ ?_
    · simp <;> simp [ieq, ilt, ile]
    cases h
    refine VW.ret ?_
    simp [Post, PostM, PostC, PostC2, Nx, Bk]
  replace hb29 : ¬ (¬ v25 = v24.1) := by simpa [ieq, ilt, ile] using hb29
  rw [if_neg hb29] at h
  refine VW.skip ?_
  refine hK28 _ ?_
  -- region 24
  obtain ⟨v30, hv30, h⟩ := bind_some h
  obtain ⟨v31, hv31, h⟩ := bind_some h
  refine VW.ws tau_ok ((Sound.none.add 84 (l_toInt64SS_ok hv30) rfl).add 86 (i_PowerMatrix_ok hv31) rfl) [some 82, some 83, some 84, some 85, some 86, some 81, some 87, some 88, some 16, some 17] [(8, .ref 8 [] true (dM v5.1)), (9, .val (i64 v5.2)), (11, .ref 11 [] true (dM v24.2)), (14, .val (i64 v24.1)), (16, .ref 16 [] true (dM v31.1)), (17, .val (i64 v31.2))] rfl ?_ ?_
  · simp <;> simp [ieq, ilt, ile]
  refine VW.sqc fun K32 hK32 hCK32 => ?_
  -- region 25
  obtain ⟨x35, hx35, h⟩ := bind_some h
  refine VW.cut [(11, .ref 11 [] true (dM v24.2)), (14, .val (i64 v24.1)), (97, .val (.bool x35))] ?_ fun hy => ?_
  rotate_left
  · clear h
    obtain ⟨v33, hv33, hx35⟩ := bind_some hx35
    by_cases hp34 : v33 = false
    · rw [if_pos hp34] at hx35
      have hp34b : v33 = false := by simpa [ieq, ilt, ile] using hp34
      have hp34s := hp34b
      try simp at hp34s
      cases hx35
      refine VW.ws tau_ok (Sound.none.add 91 (l_eqInt64SS_ok hv33) rfl) [some 89, some 90, some 91, some 92, some 93, some 94, some 95, some 96, some 97] _ rfl ?_ hy
      simp [hp34b, hp34s] <;> simp [ieq, ilt, ile]
    · rw [if_neg hp34] at hx35
      have hp34b : v33 = true := by simpa [ieq, ilt, ile] using hp34
      have hp34s := hp34b
      try simp at hp34s
      cases hx35
      refine VW.ws tau_ok (Sound.none.add 91 (l_eqInt64SS_ok hv33) rfl) [some 89, some 90, some 91, some 92, some 93, some 94, some 95, some 96, some 97] _ rfl ?_ hy
      simp [hp34b, hp34s] <;> simp [ieq, ilt, ile]
  refine VW.cond rfl (fun hb36 => ?_) (fun hb36 => ?_)
  ·
    replace hb36 : x35 = true := by simpa [ieq, ilt, ile] using hb36
    rw [if_pos hb36] at h
    -- region 26
    refine VW.ws tau_ok Sound.none [some 6] [(6, .val (.bool false))] rfl ?_ ?_
    · simp <;> simp [ieq, ilt, ile]
    cases h
    refine VW.ret ?_
    simp [Post, PostM, PostC, PostC2, Nx, Bk]
  replace hb36 : ¬ (x35 = true) := by simpa [ieq, ilt, ile] using hb36
  rw [if_neg hb36] at h
  refine VW.skip ?_
  refine hK32 _ ?_
  -- region 27
  refine VW.ws tau_ok Sound.none [some 15] [(11, .ref 11 [] true (dM v24.2)), (14, .val (i64 v24.1)), (15, .val (i64 1))] rfl ?_ ?_
  · simp <;> simp [ieq, ilt, ile]
  -- region 28
  obtain ⟨v37, hv37, h⟩ := bind_some h
  refine VW.ws tau_ok (Sound.none.add 100 (l_heldInt64SS_ok hv37) rfl) [some 98, some 99, some 100, some 15] [(14, .val (i64 v24.1)), (15, .val (i64 v37))] rfl ?_ ?_
  · simp <;> simp [ieq, ilt, ile]
  refine VW.sqc fun K38 hK38 hCK38 => ?_
  -- region 29
  refine VW.ws tau_ok Sound.none [some 101, some 102] [(14, .val (i64 v24.1)), (15, .val (i64 v37)), (102, .val (.bool (ilt v37 0)))] rfl ?_ ?_
  · simp <;> simp [ieq, ilt, ile]
  refine VW.cond rfl (fun hb39 => ?_) (fun hb39 => ?_)
  ·
    replace hb39 : v37 < 0 := by simpa [ieq, ilt, ile] using hb39
    rw [if_pos hb39] at h
    -- region 30
    refine VW.ws tau_ok Sound.none [some 6] [(6, .val (.bool false))] rfl ?_ ?_
    · simp <;> simp [ieq, ilt, ile]
    cases h
    refine VW.ret ?_
    simp [Post, PostM, PostC, PostC2, Nx, Bk]
  replace hb39 : ¬ (v37 < 0) := by simpa [ieq, ilt, ile] using hb39
  rw [if_neg hb39] at h
  refine VW.skip ?_
  refine hK38 _ ?_
  refine VW.sqc fun K40 hK40 hCK40 => ?_
  -- region 31
  refine VW.ws tau_ok Sound.none [some 103, some 104, some 105] [(105, .val (.bool (!(ieq v37 v24.1))))] rfl ?_ ?_
  · simp <;> simp [ieq, ilt, ile]
  refine VW.cond rfl (fun hb41 => ?_) (fun hb41 => ?_)
  ·
    replace hb41 : ¬ v37 = v24.1 := by simpa [ieq, ilt, ile] using hb41
    rw [if_pos hb41] at h
    -- region 32
    refine VW.ws tau_ok Sound.none [some 6] [(6, .val (.bool false))] rfl ?_ ?_
    · simp <;> simp [ieq, ilt, ile]
    cases h
    refine VW.ret ?_
    simp [Post, PostM, PostC, PostC2, Nx, Bk]
  replace hb41 : ¬ (¬ v37 = v24.1) := by simpa [ieq, ilt, ile] using hb41
  rw [if_neg hb41] at h
  refine VW.skip ?_
  refine hK40 _ ?_
  -- region 33
  refine VW.ws tau_ok Sound.none [some 6] [(6, .val (.bool true))] rfl ?_ ?_
  · simp <;> simp [ieq, ilt, ile]
  cases h
  refine VW.ret ?_
  simp [Post, PostM, PostC, PostC2, Nx, Bk]

theorem s_SignedBasis_ok {a0_0 : Int} {a0_1 : List Int} {r : (List (List Int)) × Int} (h : s_SignedBasis a0_0 a0_1 = some r) :
    VCall Try.prog 48 [.agg [i64 a0_0, dI a0_1]] [.own true (dM r.1), .sc (i64 r.2)] := by
  unfold s_SignedBasis at h
  refine VCall.enter Try.call48 Try.func48 rfl 88 Try.ntmps48 (by simp) [.tmp 2, .tmp 3] rfl ?_
  show VW _ _ _ (mk [(0, .val (.agg [i64 a0_0, dI a0_1]))]) _
  -- region 0
  refine VW.ws tau_ok Sound.none [some 1, some 2, some 3] [(1, .val (.ptr [i64 a0_0, dI a0_1]))] rfl ?_ ?_
  · simp <;> simp [ieq, ilt, ile]
  refine VW.sqc fun K1 hK1 hCK1 => ?_
  -- region 1
  obtain ⟨v2, hv2, h⟩ := bind_some h
  refine VW.ws tau_ok (Sound.none.add 12 (s_l11Is_ok hv2) rfl) [some 11, some 12, some 13] [(1, .val (.ptr [i64 a0_0, dI a0_1])), (13, .val (.bool (!v2)))] rfl ?_ ?_
  · simp <;> simp [ieq, ilt, ile]
  refine VW.cond rfl (fun hb3 => ?_) (fun hb3 => ?_)
  ·
    replace hb3 : v2 = false := by simpa [ieq, ilt, ile] using hb3
    rw [if_pos hb3] at h
    -- region 2
    refine VW.ws tau_ok Sound.none [some 2, some 3] [(2, .ref 2 [] true (.list [])), (3, .val (i64 1))] rfl ?_ ?_
    · simp <;> simp [ieq, ilt, ile]
    cases h
    refine VW.ret ?_
    simp [Post, PostM, PostC, PostC2, Nx, Bk]
  replace hb3 : ¬ (v2 = false) := by simpa [ieq, ilt, ile] using hb3
  rw [if_neg hb3] at h
  refine VW.skip ?_
  refine hK1 _ ?_
  refine VW.sqc fun K4 hK4 hCK4 => ?_
  -- region 3
  refine VW.ws tau_ok Sound.none [some 4] [(1, .val (.ptr [i64 a0_0, dI a0_1])), (4, .val (i64 0))] rfl ?_ ?_
  · simp <;> simp [ieq, ilt, ile]
  obtain ⟨x5, hx5, h⟩ := bind_some h
  refine VW.tlO (fun y7 => [(1, .val (.ptr [i64 a0_0, dI a0_1]))]) x5 (hCK4) ?_ ?_
  · clear hx5
    rintro y7 rfl
    dsimp only at h
    refine hK4 _ ?_
    -- region 8
    obtain ⟨v15, hv15, h⟩ := bind_some h
    refine VW.ws tau_ok (Sound.none.add 39 (s_l11Basis_ok hv15) rfl) [some 38, some 39, some 40, some 5, some 6] [(1, .val (.ptr [i64 a0_0, dI a0_1])), (5, .ref 5 [] true (dM v15)), (6, .ref 6 [] true (dM []))] rfl ?_ ?_
    · simp <;> simp [ieq, ilt, ile]
    refine VW.sqc fun K16 hK16 hCK16 => ?_
    -- region 9
    refine VW.ws tau_ok Sound.none [some 7] [(1, .val (.ptr [i64 a0_0, dI a0_1])), (5, .ref 5 [] true (dM v15)), (6, .ref 6 [] true (dM [])), (7, .val (i64 0))] rfl ?_ ?_
    · simp <;> simp [ieq, ilt, ile]
    obtain ⟨x17, hx17, h⟩ := bind_some h
    refine VW.tlE [(6, .ref 6 [] true (dM x17))] (hCK16) ?_ ?_
    · clear hx17
      refine hK16 _ ?_
      -- region 21
      refine VW.ws tau_ok Sound.none [some 87, some 2, some 3] [(2, .ref 2 [] true (dM x17)), (3, .val (i64 0))] rfl ?_ ?_
      · simp <;> simp [ieq, ilt, ile]
      cases h
      refine VW.ret ?_
      simp [Post, PostM, PostC, PostC2, Nx, Bk]
    refine VW.block ?_
    refine VW.loopF (s_SignedBasis_L1 a0_0 a0_1 v15) (fun s17 => [(1, .val (.ptr [i64 a0_0, dI a0_1])), (5, .ref 5 [] true (dM v15)), (6, .ref 6 [] true (dM s17.1)), (7, .val (i64 s17.2))]) hx17 (Fits.of rfl) ?_
    clear hx17
    intro s17 ox17 hx17o hx17b
    unfold s_SignedBasis_L1 at hx17o
    refine VW.sqc fun K19 hK19 hCK19 => ?_
    -- region 10
    obtain ⟨v20, hv20, hx17o⟩ := bind_some hx17o
    refine VW.ws tau_ok (Sound.none.add 43 (s_l11Size_ok hv20) rfl) [some 41, some 42, some 43, some 44, some 45] [(1, .val (.ptr [i64 a0_0, dI a0_1])), (5, .ref 5 [] true (dM v15)), (6, .ref 6 [] true (dM s17.1)), (7, .val (i64 s17.2)), (45, .val (.bool (ilt s17.2 (w64 (2 * v20)))))] rfl ?_ ?_
    · simp <;> simp [ieq, ilt, ile]
    refine VW.cond rfl (fun hb21 => ?_) (fun hb21 => ?_)
    rotate_left
    ·
      replace hb21 : ¬ (s17.2 < (w64 (2 * v20))) := by simpa [ieq, ilt, ile] using hb21
      rw [if_neg hb21] at hx17o
      refine VW.exit ?_
      cases hx17o
      have hq := hx17b _ rfl
      subst hq
      exact Fits.of rfl
    replace hb21 : s17.2 < (w64 (2 * v20)) := by simpa [ieq, ilt, ile] using hb21
    rw [if_pos hb21] at hx17o
    refine VW.skip ?_
    refine hK19 _ ?_
    refine VW.sqc fun K22 hK22 hCK22 => ?_
    refine VW.block ?_
    -- region 12
    refine VW.ws tau_ok Sound.none [some 48, some 8] [(1, .val (.ptr [i64 a0_0, dI a0_1])), (5, .ref 5 [] true (dM v15)), (6, .ref 6 [] true (dM s17.1)), (7, .val (i64 s17.2)), (8, .ref 8 [] true (dI []))] rfl ?_ ?_
    · simp <;> simp [ieq, ilt, ile]
    refine VW.sqc fun K23 hK23 hCK23 => ?_
    -- region 13
    refine VW.ws tau_ok Sound.none [some 9] [(1, .val (.ptr [i64 a0_0, dI a0_1])), (5, .ref 5 [] true (dM v15)), (6, .ref 6 [] true (dM s17.1)), (7, .val (i64 s17.2)), (8, .ref 8 [] true (dI [])), (9, .val (i64 0))] rfl ?_ ?_
    · simp <;> simp [ieq, ilt, ile]
    obtain ⟨x24, hx24, hx17o⟩ := bind_some hx17o
    refine VW.tlE [(1, .val (.ptr [i64 a0_0, dI a0_1])), (5, .ref 5 [] true (dM v15)), (6, .ref 6 [] true (dM s17.1)), (7, .val (i64 s17.2)), (8, .ref 8 [] true (dI x24))] (hCK23) ?_ ?_
    · clear hx24
      refine hK23 _ ?_
      -- region 20
      obtain ⟨hc37, hx17o⟩ := chk_some hx17o
      have hc37s := hc37
      try simp at hc37s
      refine VW.wr tau_ok Sound.none [some 83, some 84, some 85, some 86, some 6] [(1, .val (.ptr [i64 a0_0, dI a0_1])), (5, .ref 5 [] true (dM v15)), (6, .ref 6 [] true (dM (s17.1 ++ [x24]))), (7, .val (i64 s17.2))] rfl ?_ ?_
      · simp [hc37, hc37s] <;> simp [ieq, ilt, ile]
      refine hK22 _ ?_
      -- region 11
      refine VW.wr tau_ok Sound.none [some 46, some 47, some 7] [(1, .val (.ptr [i64 a0_0, dI a0_1])), (5, .ref 5 [] true (dM v15)), (6, .ref 6 [] true (dM (s17.1 ++ [x24]))), (7, .val (i64 (w64 (s17.2 + 1))))] rfl ?_ ?_
      · simp <;> simp [ieq, ilt, ile]
      cases hx17o
      exact ⟨_, rfl, Fits.of rfl⟩
    refine VW.block ?_
    refine VW.loopF (s_SignedBasis_L2 a0_0 a0_1 v15 s17) (fun s24 => [(1, .val (.ptr [i64 a0_0, dI a0_1])), (5, .ref 5 [] true (dM v15)), (6, .ref 6 [] true (dM s17.1)), (7, .val (i64 s17.2)), (8, .ref 8 [] true (dI s24.1)), (9, .val (i64 s24.2))]) hx24 (Fits.of rfl) ?_
    clear hx24
    intro s24 ox24 hx24o hx24b
    unfold s_SignedBasis_L2 at hx24o
    refine VW.sqc fun K26 hK26 hCK26 => ?_
    -- region 14
    obtain ⟨v27, hv27, hx24o⟩ := bind_some hx24o
    refine VW.ws tau_ok (Sound.none.add 51 (s_l11Size_ok hv27) rfl) [some 49, some 50, some 51, some 52, some 53] [(1, .val (.ptr [i64 a0_0, dI a0_1])), (5, .ref 5 [] true (dM v15)), (6, .ref 6 [] true (dM s17.1)), (7, .val (i64 s17.2)), (8, .ref 8 [] true (dI s24.1)), (9, .val (i64 s24.2)), (53, .val (.bool (ilt s24.2 (w64 (2 * v27)))))] rfl ?_ ?_
    · simp <;> simp [ieq, ilt, ile]
    refine VW.cond rfl (fun hb28 => ?_) (fun hb28 => ?_)
    rotate_left
    ·
      replace hb28 : ¬ (s24.2 < (w64 (2 * v27))) := by simpa [ieq, ilt, ile] using hb28
      rw [if_neg hb28] at hx24o
      refine VW.exit ?_
      cases hx24o
      have hq := hx24b _ rfl
      subst hq
      exact Fits.of rfl
    replace hb28 : s24.2 < (w64 (2 * v27)) := by simpa [ieq, ilt, ile] using hb28
    rw [if_pos hb28] at hx24o
    refine VW.skip ?_
    refine hK26 _ ?_
    refine VW.sqc fun K29 hK29 hCK29 => ?_
    refine VW.block ?_
    -- region 16
    refine VW.ws tau_ok Sound.none [some 56, some 57, some 58, some 59, some 10] [(1, .val (.ptr [i64 a0_0, dI a0_1])), (5, .ref 5 [] true (dM v15)), (6, .ref 6 [] true (dM s17.1)), (7, .val (i64 s17.2)), (8, .ref 8 [] true (dI s24.1)), (9, .val (i64 s24.2)), (10, .val (i64 ((w64 (s17.2 + s24.2)).tmod 2)))] rfl ?_ ?_
    · simp <;> simp [ieq, ilt, ile]
    refine VW.sqc fun K30 hK30 hCK30 => ?_
    -- region 17
    obtain ⟨v31, hv31, hx24o⟩ := bind_some hx24o
    obtain ⟨hv31a, hv31b, hv31c, hv31d⟩ := idx_some hv31
    obtain ⟨v32, hv32, hx24o⟩ := bind_some hx24o
    obtain ⟨hv32a, hv32b, hv32c, hv32d⟩ := idx_some hv32
    refine VW.ws tau_ok Sound.none [some 60, some 61, some 62, some 63, some 64, some 65, some 66, some 67, some 68, some 69] [(1, .val (.ptr [i64 a0_0, dI a0_1])), (5, .ref 5 [] true (dM v15)), (6, .ref 6 [] true (dM s17.1)), (7, .val (i64 s17.2)), (8, .ref 8 [] true (dI s24.1)), (9, .val (i64 s24.2)), (10, .val (i64 ((w64 (s17.2 + s24.2)).tmod 2))), (69, .val (.bool (!(ieq v32 1))))] rfl ?_ ?_
    · simp [hv31a, hv31b, hv31c, hv31d, hv32a, hv32b, hv32c, hv32d] <;> simp [ieq, ilt, ile]
    obtain ⟨x33, hx33, hx24o⟩ := bind_some hx24o
    refine VW.tlE [(1, .val (.ptr [i64 a0_0, dI a0_1])), (5, .ref 5 [] true (dM v15)), (6, .ref 6 [] true (dM s17.1)), (7, .val (i64 s17.2)), (8, .ref 8 [] true (dI s24.1)), (9, .val (i64 s24.2)), (10, .val (i64 x33))] (hCK30) ?_ ?_
    · clear hx33
      refine hK30 _ ?_
      -- region 19
      obtain ⟨hc36, hx24o⟩ := chk_some hx24o
      have hc36s := hc36
      try simp at hc36s
      refine VW.wr tau_ok Sound.none [some 72, some 73, some 74, some 75, some 76, some 77, some 78, some 79, some 80, some 81, some 82, some 8] [(1, .val (.ptr [i64 a0_0, dI a0_1])), (5, .ref 5 [] true (dM v15)), (6, .ref 6 [] true (dM s17.1)), (7, .val (i64 s17.2)), (8, .ref 8 [] true (dI (s24.1 ++ [w64 ((w64 (2 * (bxor .i64 (w64 (s17.2.tdiv 2)) (w64 (s24.2.tdiv 2))))) + x33)]))), (9, .val (i64 s24.2))] rfl ?_ ?_
      · simp [hc36, hc36s] <;> simp [ieq, ilt, ile]
      refine hK29 _ ?_
      -- region 15
      refine VW.wr tau_ok Sound.none [some 54, some 55, some 9] [(1, .val (.ptr [i64 a0_0, dI a0_1])), (5, .ref 5 [] true (dM v15)), (6, .ref 6 [] true (dM s17.1)), (7, .val (i64 s17.2)), (8, .ref 8 [] true (dI (s24.1 ++ [w64 ((w64 (2 * (bxor .i64 (w64 (s17.2.tdiv 2)) (w64 (s24.2.tdiv 2))))) + x33)]))), (9, .val (i64 (w64 (s24.2 + 1))))] rfl ?_ ?_
      · simp <;> simp [ieq, ilt, ile]
      cases hx24o
      exact ⟨_, rfl, Fits.of rfl⟩
    refine VW.cond rfl (fun hb35 => ?_) (fun hb35 => ?_)
    rotate_left
    ·
      replace hb35 : ¬ (¬ v32 = 1) := by simpa [ieq, ilt, ile] using hb35
      rw [if_neg hb35] at hx33
      refine VW.skip ?_
      cases hx33
      exact Fits.of rfl
    replace hb35 : ¬ v32 = 1 := by simpa [ieq, ilt, ile] using hb35
    rw [if_pos hb35] at hx33
    -- region 18
    refine VW.wr tau_ok Sound.none [some 70, some 71, some 10] [(1, .val (.ptr [i64 a0_0, dI a0_1])), (5, .ref 5 [] true (dM v15)), (6, .ref 6 [] true (dM s17.1)), (7, .val (i64 s17.2)), (8, .ref 8 [] true (dI s24.1)), (9, .val (i64 s24.2)), (10, .val (i64 (w64 (1 - ((w64 (s17.2 + s24.2)).tmod 2)))))] rfl ?_ ?_
    · simp <;> simp [ieq, ilt, ile]
    cases hx33
    exact Fits.of rfl
  refine VW.block ?_
  refine VW.loopF (s_SignedBasis_L0 a0_0 a0_1) (fun s5 => [(1, .val (.ptr [i64 a0_0, dI a0_1])), (4, .val (i64 s5))]) hx5 (Fits.of rfl) ?_
  clear hx5
  intro s5 ox5 hx5o hx5b
  unfold s_SignedBasis_L0 at hx5o
  refine VW.sqc fun K8 hK8 hCK8 => ?_
  -- region 4
  refine VW.ws tau_ok Sound.none [some 14, some 15, some 16, some 17, some 18] [(1, .val (.ptr [i64 a0_0, dI a0_1])), (4, .val (i64 s5)), (18, .val (.bool (ilt s5 (a0_1.length : Int))))] rfl ?_ ?_
  · simp <;> simp [ieq, ilt, ile]
  refine VW.cond rfl (fun hb9 => ?_) (fun hb9 => ?_)
  rotate_left
  ·
    replace hb9 : ¬ (s5 < (a0_1.length : Int)) := by simpa [ieq, ilt, ile] using hb9
    rw [if_neg hb9] at hx5o
    refine VW.exit ?_
    cases hx5o
    have hq := hx5b _ rfl
    subst hq
    exact ⟨_, rfl, Fits.of rfl⟩
  replace hb9 : s5 < (a0_1.length : Int) := by simpa [ieq, ilt, ile] using hb9
  rw [if_pos hb9] at hx5o
  refine VW.skip ?_
  refine hK8 _ ?_
  refine VW.sqc fun K10 hK10 hCK10 => ?_
  refine VW.block ?_
  -- region 6
  obtain ⟨x13, hx13, hx5o⟩ := bind_some hx5o
  refine VW.cut [(1, .val (.ptr [i64 a0_0, dI a0_1])), (4, .val (i64 s5)), (37, .val (.bool x13))] ?_ fun hy => ?_
  rotate_left
  · clear hx5o
    obtain ⟨v11, hv11, hx13⟩ := bind_some hx13
    obtain ⟨hv11a, hv11b, hv11c, hv11d⟩ := idx_some hv11
    by_cases hp12 : ¬ v11 = 1
    · rw [if_pos hp12] at hx13
      have hp12b : ieq v11 1 = false := by simpa [ieq, ilt, ile] using hp12
      have hp12s := hp12b
      try simp at hp12s
      cases hx13
      refine VW.wds tau_ok Sound.none try_mixed [some 21, some 22, some 23, some 24, some 25, some 26, some 27, some 28, some 29, some 30, some 31, some 32, some 33, some 34, some 35, some 36, some 37] _ 17 rfl (by kernel_rfl) (by rfl) ?_ hy
      simp [hv11a, hv11b, hv11c, hv11d, hp12b, hp12s] <;> simp [ieq, ilt, ile]
    · rw [if_neg hp12] at hx13
      have hp12b : ieq v11 1 = true := by simpa [ieq, ilt, ile] using hp12
      have hp12s := hp12b
      try simp at hp12s
      cases hx13
      refine VW.wds tau_ok Sound.none try_mixed [some 21, some 22, some 23, some 24, some 25, some 26, some 27, some 28, some 29, some 30, some 31, some 32, some 33, some 34, some 35, some 36, some 37] _ 17 rfl (by kernel_rfl) (by rfl) ?_ hy
      simp [hv11a, hv11b, hv11c, hv11d, hp12b, hp12s] <;> simp [ieq, ilt, ile]
  refine VW.cond rfl (fun hb14 => ?_) (fun hb14 => ?_)
  rotate_left
  ·
    replace hb14 : ¬ (x13 = true) := by simpa [ieq, ilt, ile] using hb14
    rw [if_neg hb14] at hx5o
    refine VW.skip ?_
    refine hK10 _ ?_
    -- region 5
    refine VW.wr tau_ok Sound.none [some 19, some 20, some 4] [(1, .val (.ptr [i64 a0_0, dI a0_1])), (4, .val (i64 (w64 (s5 + 1))))] rfl ?_ ?_
    · simp <;> simp [ieq, ilt, ile]
    cases hx5o
    exact ⟨_, rfl, Fits.of rfl⟩
  replace hb14 : x13 = true := by simpa [ieq, ilt, ile] using hb14
  rw [if_pos hb14] at hx5o
  -- region 7
  refine VW.ws tau_ok Sound.none [some 2, some 3] [(2, .ref 2 [] true (.list [])), (3, .val (i64 5))] rfl ?_ ?_
  · simp <;> simp [ieq, ilt, ile]
  cases hx5o
  have hq := hx5b _ rfl
  subst hq
  dsimp only at h
  cases h
  refine VW.ret ?_
  simp [Post, PostM, PostC, PostC2, Nx, Bk]

theorem i_SignedBasis_c1_ok {a0 : Int} {a1_0 : Int} {a1_1 : List Int} {r : Bool} (h : i_SignedBasis_c1 a0 a1_0 a1_1 = some r) :
    VCall Try.prog 110 [i64 a0, .ptr [i64 a1_0, dI a1_1]] [.sc (.bool r)] := by
  unfold i_SignedBasis_c1 at h
  refine VCall.enter Try.call110 Try.func110 rfl 13 Try.ntmps110 (by simp) [.tmp 3] rfl ?_
  show VW _ _ _ (mk [(0, .val (i64 a0)), (1, .val (.ptr [i64 a1_0, dI a1_1]))]) _
  -- region 0
  refine VW.ws tau_ok Sound.none [some 3] [(0, .val (i64 a0)), (1, .val (.ptr [i64 a1_0, dI a1_1]))] rfl ?_ ?_
  · simp <;> simp [ieq, ilt, ile]
  -- region 1
  obtain ⟨x2, hx2, h⟩ := bind_some h
  refine VW.cut [(3, .val (.bool x2))] ?_ fun hy => ?_
  rotate_left
  · clear h
    by_cases hp1 : ¬ a0 = 1
    · rw [if_pos hp1] at hx2
      have hp1b : ieq a0 1 = false := by simpa [ieq, ilt, ile] using hp1
      have hp1s := hp1b
      try simp at hp1s
      cases hx2
      refine VW.ws tau_ok Sound.none [some 4, some 5, some 6, some 7, some 8, some 9, some 10, some 11, some 12, some 3] _ rfl ?_ hy
      simp [hp1b, hp1s] <;> simp [ieq, ilt, ile]
    · rw [if_neg hp1] at hx2
      have hp1b : ieq a0 1 = true := by simpa [ieq, ilt, ile] using hp1
      have hp1s := hp1b
      try simp at hp1s
      cases hx2
      refine VW.ws tau_ok Sound.none [some 4, some 5, some 6, some 7, some 8, some 9, some 10, some 11, some 12, some 3] _ rfl ?_ hy
      simp [hp1b, hp1s] <;> simp [ieq, ilt, ile]
  cases h
  refine VW.ret ?_
  simp [Post, PostM, PostC, PostC2, Nx, Bk]
end Go.Vam
