import Derived.Test.YtbhhlikpflpeaaaR1T
import Derived.Test.YtbhhlikpflpeaaaFnA
import Derived.Test.YtbhhlikpflpeaaaR1W1
import Derived.Test.YtbhhlikpflpeaaaR1W2
import Derived.Test.YtbhhlikpflpeaaaR1W3
import Derived.Test.YtbhhlikpflpeaaaR1W4
import Derived.Test.YtbhhlikpflpeaaaR1W6
namespace Go.Vam
open Go Go.RowKit Go.Proofs
set_option maxRecDepth 100000
set_option linter.unusedSimpArgs false
set_option linter.unusedVariables false

theorem i_field_scaled_ok {a0 : Int} {a1 : List Int} {a2 : Int} {r : List Int} (h : i_field_scaled a0 a1 a2 = some r) :
    VCall Try.prog 48 [i64 a0, dI a1, i64 a2] [.own true (dI r)] := by
  unfold i_field_scaled at h
  refine VCall.enter Try.call48 Try.func48 rfl 27 Try.ntmps48 (by simp) [.tmp 6] rfl ?_
  show VW _ _ _ (mk [(0, .val (i64 a0)), (1, .val (dI a1)), (2, .val (i64 a2))]) _
  -- region 0
  refine VW.ws tau_ok Sound.none [some 6] [(0, .val (i64 a0)), (1, .val (dI a1)), (2, .val (i64 a2))] rfl ?_ ?_
  · simp <;> simp [ieq, ilt, ile]
  -- region 1
  refine VW.ws tau_ok Sound.none [some 10, some 7] [(0, .val (i64 a0)), (1, .val (dI a1)), (2, .val (i64 a2)), (7, .ref 7 [] true (dI []))] rfl ?_ ?_
  · simp <;> simp [ieq, ilt, ile]
  refine VW.sqc fun K1 hK1 hCK1 => ?_
  -- region 2
  refine VW.ws tau_ok Sound.none [some 11, some 12, some 13] [(0, .val (i64 a0)), (2, .val (i64 a2)), (7, .ref 7 [] true (dI [])), (11, .val (dI a1)), (12, .val (i64 (a1.length : Int))), (13, .val (i64 0))] rfl ?_ ?_
  · simp <;> simp [ieq, ilt, ile]
  obtain ⟨x2, hx2, h⟩ := bind_some h
  refine VW.tlE [(7, .ref 7 [] true (dI x2))] (hCK1) ?_ ?_
  · clear hx2
    refine hK1 _ ?_
    -- region 7
    refine VW.ws tau_ok Sound.none [some 26, some 6] [(6, .ref 6 [] true (dI x2))] rfl ?_ ?_
    · simp <;> simp [ieq, ilt, ile]
    cases h
    refine VW.ret ?_
    simp [Post, PostM, PostC, PostC2, Nx, Bk]
  refine VW.block ?_
  refine VW.loopF (i_field_scaled_L0 a0 a1 a2) (fun s2 => [(0, .val (i64 a0)), (2, .val (i64 a2)), (7, .ref 7 [] true (dI s2.1)), (11, .val (dI a1)), (12, .val (i64 (a1.length : Int))), (13, .val (i64 s2.2))]) hx2 (Fits.of rfl) ?_
  clear hx2
  intro s2 ox2 hx2o hx2b
  unfold i_field_scaled_L0 at hx2o
  -- region 3
  refine VW.ws tau_ok Sound.none [some 14] [(0, .val (i64 a0)), (2, .val (i64 a2)), (7, .ref 7 [] true (dI s2.1)), (11, .val (dI a1)), (12, .val (i64 (a1.length : Int))), (13, .val (i64 s2.2)), (14, .val (.bool (ilt s2.2 (a1.length : Int))))] rfl ?_ ?_
  · simp <;> simp [ieq, ilt, ile]
  refine VW.sqc fun K4 hK4 hCK4 => ?_
  refine VW.cond rfl (fun hb5 => ?_) (fun hb5 => ?_)
  rotate_left
  ·
    replace hb5 : ¬ (s2.2 < (a1.length : Int)) := by simpa [ieq, ilt, ile] using hb5
    rw [if_neg hb5] at hx2o
    refine VW.exit ?_
    cases hx2o
    have hq := hx2b _ rfl
    subst hq
    exact Fits.of rfl
  replace hb5 : s2.2 < (a1.length : Int) := by simpa [ieq, ilt, ile] using hb5
  rw [if_pos hb5] at hx2o
  refine VW.skip ?_
  refine hK4 _ ?_
  refine VW.sqc fun K6 hK6 hCK6 => ?_
  refine VW.block ?_
  -- region 4
  obtain ⟨v7, hv7, hx2o⟩ := bind_some hx2o
  obtain ⟨hv7a, hv7b, hv7c, hv7d⟩ := idx_some hv7
  refine VW.ws tau_ok Sound.none [some 15, some 16, some 9] [(0, .val (i64 a0)), (2, .val (i64 a2)), (7, .ref 7 [] true (dI s2.1)), (9, .val (i64 v7)), (11, .val (dI a1)), (12, .val (i64 (a1.length : Int))), (13, .val (i64 s2.2))] rfl ?_ ?_
  · simp [hv7a, hv7b, hv7c, hv7d] <;> simp [ieq, ilt, ile]
  -- region 5
  obtain ⟨v8, hv8, hx2o⟩ := bind_some hx2o
  obtain ⟨hc9, hx2o⟩ := chk_some hx2o
  have hc9s := hc9
  try simp at hc9s
  refine VW.wr tau_ok (Sound.none.add 22 (i_field_num_ok hv8) rfl) [some 17, some 18, some 19, some 20, some 21, some 22, some 23, some 24, some 7] [(0, .val (i64 a0)), (2, .val (i64 a2)), (7, .ref 7 [] true (dI (s2.1 ++ [v8]))), (11, .val (dI a1)), (12, .val (i64 (a1.length : Int))), (13, .val (i64 s2.2))] rfl ?_ ?_
  · simp [hc9, hc9s] <;> simp [ieq, ilt, ile]
  refine hK6 _ ?_
  -- region 6
  refine VW.wr tau_ok Sound.none [some 25, some 13] [(0, .val (i64 a0)), (2, .val (i64 a2)), (7, .ref 7 [] true (dI (s2.1 ++ [v8]))), (11, .val (dI a1)), (12, .val (i64 (a1.length : Int))), (13, .val (i64 (w64 (s2.2 + 1))))] rfl ?_ ?_
  · simp <;> simp [ieq, ilt, ile]
  cases hx2o
  exact ⟨_, rfl, Fits.of rfl⟩

theorem i_ScaleMatrix_ok {a0 : Int} {a1 : List (List Int)} {a2 : Int} {r : (List (List Int)) × Int} (h : i_ScaleMatrix a0 a1 a2 = some r) :
    VCall Try.prog 29 [i64 a0, dM a1, i64 a2] [.own true (dM r.1), .sc (i64 r.2)] := by
  unfold i_ScaleMatrix at h
  refine VCall.enter Try.call29 Try.func29 rfl 40 Try.ntmps29 (by simp) [.tmp 6, .tmp 7] rfl ?_
  show VW _ _ _ (mk [(0, .val (i64 a0)), (1, .val (dM a1)), (2, .val (i64 a2))]) _
  -- region 0
  refine VW.ws tau_ok Sound.none [some 6, some 7] [(0, .val (i64 a0)), (1, .val (dM a1)), (2, .val (i64 a2))] rfl ?_ ?_
  · simp <;> simp [ieq, ilt, ile]
  refine VW.sqc fun K1 hK1 hCK1 => ?_
  -- region 1
  obtain ⟨v2, hv2, h⟩ := bind_some h
  refine VW.ws tau_ok (Sound.none.add 15 (i_checkMatrices_ok hv2) rfl) [some 12, some 13, some 14, some 15, some 8] [(0, .val (i64 a0)), (1, .val (dM a1)), (2, .val (i64 a2)), (8, .val (i64 v2))] rfl ?_ ?_
  · simp <;> simp [ieq, ilt, ile]
  -- region 2
  refine VW.ws tau_ok Sound.none [some 16, some 17] [(0, .val (i64 a0)), (1, .val (dM a1)), (2, .val (i64 a2)), (8, .val (i64 v2)), (17, .val (.bool (!(ieq v2 0))))] rfl ?_ ?_
  · simp <;> simp [ieq, ilt, ile]
  refine VW.cond rfl (fun hb3 => ?_) (fun hb3 => ?_)
  ·
    replace hb3 : ¬ v2 = 0 := by simpa [ieq, ilt, ile] using hb3
    rw [if_pos hb3] at h
    -- region 3
    refine VW.ws tau_ok Sound.none [some 18, some 6, some 7] [(6, .ref 6 [] true (.list [])), (7, .val (i64 v2))] rfl ?_ ?_
    · simp <;> simp [ieq, ilt, ile]
    cases h
    refine VW.ret ?_
    simp [Post, PostM, PostC, PostC2, Nx, Bk]
  replace hb3 : ¬ (¬ v2 = 0) := by simpa [ieq, ilt, ile] using hb3
  rw [if_neg hb3] at h
  refine VW.skip ?_
  refine hK1 _ ?_
  refine VW.sqc fun K4 hK4 hCK4 => ?_
  -- region 4
  obtain ⟨v5, hv5, h⟩ := bind_some h
  refine VW.ws tau_ok (Sound.none.add 22 (i_field_is_ok hv5) rfl) [some 19, some 20, some 21, some 22, some 23] [(0, .val (i64 a0)), (1, .val (dM a1)), (2, .val (i64 a2)), (23, .val (.bool (!v5)))] rfl ?_ ?_
  · simp <;> simp [ieq, ilt, ile]
  refine VW.cond rfl (fun hb6 => ?_) (fun hb6 => ?_)
  ·
    replace hb6 : v5 = false := by simpa [ieq, ilt, ile] using hb6
    rw [if_pos hb6] at h
    -- region 5
    refine VW.ws tau_ok Sound.none [some 6, some 7] [(6, .ref 6 [] true (.list [])), (7, .val (i64 2))] rfl ?_ ?_
    · simp <;> simp [ieq, ilt, ile]
    cases h
    refine VW.ret ?_
    simp [Post, PostM, PostC, PostC2, Nx, Bk]
  replace hb6 : ¬ (v5 = false) := by simpa [ieq, ilt, ile] using hb6
  rw [if_neg hb6] at h
  refine VW.skip ?_
  refine hK4 _ ?_
  -- region 6
  refine VW.ws tau_ok Sound.none [some 24, some 9] [(0, .val (i64 a0)), (1, .val (dM a1)), (2, .val (i64 a2)), (9, .ref 9 [] true (dM []))] rfl ?_ ?_
  · simp <;> simp [ieq, ilt, ile]
  refine VW.sqc fun K7 hK7 hCK7 => ?_
  -- region 7
  refine VW.ws tau_ok Sound.none [some 25, some 26, some 27] [(0, .val (i64 a0)), (2, .val (i64 a2)), (9, .ref 9 [] true (dM [])), (25, .val (dM a1)), (26, .val (i64 (a1.length : Int))), (27, .val (i64 0))] rfl ?_ ?_
  · simp <;> simp [ieq, ilt, ile]
  obtain ⟨x8, hx8, h⟩ := bind_some h
  refine VW.tlE [(9, .ref 9 [] true (dM x8))] (hCK7) ?_ ?_
  · clear hx8
    refine hK7 _ ?_
    -- region 12
    refine VW.ws tau_ok Sound.none [some 39, some 6, some 7] [(6, .ref 6 [] true (dM x8)), (7, .val (i64 0))] rfl ?_ ?_
    · simp <;> simp [ieq, ilt, ile]
    cases h
    refine VW.ret ?_
    simp [Post, PostM, PostC, PostC2, Nx, Bk]
  refine VW.block ?_
  refine VW.loopF (i_ScaleMatrix_L0 a0 a1 a2) (fun s8 => [(0, .val (i64 a0)), (2, .val (i64 a2)), (9, .ref 9 [] true (dM s8.1)), (25, .val (dM a1)), (26, .val (i64 (a1.length : Int))), (27, .val (i64 s8.2))]) hx8 (Fits.of rfl) ?_
  clear hx8
  intro s8 ox8 hx8o hx8b
  unfold i_ScaleMatrix_L0 at hx8o
  -- region 8
  refine VW.ws tau_ok Sound.none [some 28] [(0, .val (i64 a0)), (2, .val (i64 a2)), (9, .ref 9 [] true (dM s8.1)), (25, .val (dM a1)), (26, .val (i64 (a1.length : Int))), (27, .val (i64 s8.2)), (28, .val (.bool (ilt s8.2 (a1.length : Int))))] rfl ?_ ?_
  · simp <;> simp [ieq, ilt, ile]
  refine VW.sqc fun K10 hK10 hCK10 => ?_
  refine VW.cond rfl (fun hb11 => ?_) (fun hb11 => ?_)
  rotate_left
  ·
    replace hb11 : ¬ (s8.2 < (a1.length : Int)) := by simpa [ieq, ilt, ile] using hb11
    rw [if_neg hb11] at hx8o
    refine VW.exit ?_
    cases hx8o
    have hq := hx8b _ rfl
    subst hq
    exact Fits.of rfl
  replace hb11 : s8.2 < (a1.length : Int) := by simpa [ieq, ilt, ile] using hb11
  rw [if_pos hb11] at hx8o
  refine VW.skip ?_
  refine hK10 _ ?_
  refine VW.sqc fun K12 hK12 hCK12 => ?_
  refine VW.block ?_
  -- region 9
  obtain ⟨v13, hv13, hx8o⟩ := bind_some hx8o
  obtain ⟨hv13a, hv13b, hv13c, hv13d⟩ := idx_some hv13
  refine VW.ws tau_ok Sound.none [some 29, some 30, some 11] [(0, .val (i64 a0)), (2, .val (i64 a2)), (9, .ref 9 [] true (dM s8.1)), (11, .val (dI v13)), (25, .val (dM a1)), (26, .val (i64 (a1.length : Int))), (27, .val (i64 s8.2))] rfl ?_ ?_
  · simp [hv13a, hv13b, hv13c, hv13d] <;> simp [ieq, ilt, ile]
  -- region 10
  obtain ⟨v14, hv14, hx8o⟩ := bind_some hx8o
  obtain ⟨hc15, hx8o⟩ := chk_some hx8o
  have hc15s := hc15
  try simp at hc15s
  refine VW.wr tau_ok (Sound.none.add 35 (i_field_scaled_ok hv14) rfl) [some 31, some 32, some 33, some 34, some 35, some 36, some 37, some 9] [(0, .val (i64 a0)), (2, .val (i64 a2)), (9, .ref 9 [] true (dM (s8.1 ++ [v14]))), (25, .val (dM a1)), (26, .val (i64 (a1.length : Int))), (27, .val (i64 s8.2))] rfl ?_ ?_
  · simp [hc15, hc15s] <;> simp [ieq, ilt, ile]
  refine hK12 _ ?_
  -- region 11
  refine VW.wr tau_ok Sound.none [some 38, some 27] [(0, .val (i64 a0)), (2, .val (i64 a2)), (9, .ref 9 [] true (dM (s8.1 ++ [v14]))), (25, .val (dM a1)), (26, .val (i64 (a1.length : Int))), (27, .val (i64 (w64 (s8.2 + 1))))] rfl ?_ ?_
  · simp <;> simp [ieq, ilt, ile]
  cases hx8o
  exact ⟨_, rfl, Fits.of rfl⟩

theorem l_FnExactScaleMatrix_ok {a0 : Int} {a1 : List (List Int)} {a2 : Int} {r : Bool} (h : l_FnExactScaleMatrix a0 a1 a2 = some r) :
    VCall Try.prog 8 [i64 a0, dM a1, i64 a2] [.sc (.bool r)] := by
  unfold l_FnExactScaleMatrix at h
  refine VCall.enter Try.call8 Try.func8 rfl 106 Try.ntmps8 (by simp) [.tmp 6] rfl ?_
  show VW _ _ _ (mk [(0, .val (i64 a0)), (1, .val (dM a1)), (2, .val (i64 a2))]) _
  -- region 0
  refine VW.ws tau_ok Sound.none [some 6] [(0, .val (i64 a0)), (1, .val (dM a1)), (2, .val (i64 a2))] rfl ?_ ?_
  · simp <;> simp [ieq, ilt, ile]
  -- region 1
  refine VW.ws tau_ok Sound.none [some 7] [(0, .val (i64 a0)), (1, .val (dM a1)), (2, .val (i64 a2)), (7, .val (i64 1048576))] rfl ?_ ?_
  · simp <;> simp [ieq, ilt, ile]
  -- region 2
  obtain ⟨v1, hv1, h⟩ := bind_some h
  refine VW.ws tau_ok (Sound.none.add 20 (l_szInt64SS_ok hv1) rfl) [some 18, some 19, some 20, some 7] [(0, .val (i64 a0)), (1, .val (dM a1)), (2, .val (i64 a2)), (7, .val (i64 v1))] rfl ?_ ?_
  · simp <;> simp [ieq, ilt, ile]
  refine VW.sqc fun K2 hK2 hCK2 => ?_
  -- region 3
  refine VW.ws tau_ok Sound.none [some 21, some 22] [(0, .val (i64 a0)), (1, .val (dM a1)), (2, .val (i64 a2)), (22, .val (.bool (ilt v1 0)))] rfl ?_ ?_
  · simp <;> simp [ieq, ilt, ile]
  refine VW.cond rfl (fun hb3 => ?_) (fun hb3 => ?_)
  ·
    replace hb3 : v1 < 0 := by simpa [ieq, ilt, ile] using hb3
    rw [if_pos hb3] at h
    -- region 4
    refine VW.ws tau_ok Sound.none [some 6] [(6, .val (.bool true))] rfl ?_ ?_
    · simp <;> simp [ieq, ilt, ile]
    cases h
    refine VW.ret ?_
    simp [Post, PostM, PostC, PostC2, Nx, Bk]
  replace hb3 : ¬ (v1 < 0) := by simpa [ieq, ilt, ile] using hb3
  rw [if_neg hb3] at h
  refine VW.skip ?_
  refine hK2 _ ?_
  -- region 5
  obtain ⟨v4, hv4, h⟩ := bind_some h
  obtain ⟨v5, hv5, h⟩ := bind_some h
  refine VW.ws tau_ok ((Sound.none.add 26 (l_toInt64SS_ok hv4) rfl).add 28 (s_ScaleMatrix_ok hv5) rfl) [some 24, some 25, some 26, some 27, some 28, some 23, some 29, some 30, some 8, some 9] [(0, .val (i64 a0)), (1, .val (dM a1)), (2, .val (i64 a2)), (8, .ref 8 [] true (dM v5.1)), (9, .val (i64 v5.2))] rfl ?_ ?_
  · simp <;> simp [ieq, ilt, ile]
  -- region 6
  obtain ⟨v6, hv6, h⟩ := bind_some h
  refine VW.ws tau_ok (Sound.none.add 32 (l_toInt64SS_ok hv6) rfl) [some 31, some 32, some 10] [(0, .val (i64 a0)), (1, .val (dM a1)), (2, .val (i64 a2)), (8, .ref 8 [] true (dM v5.1)), (9, .val (i64 v5.2)), (10, .ref 10 [] true (dM v6))] rfl ?_ ?_
  · simp <;> simp [ieq, ilt, ile]
  -- region 7
  obtain ⟨v7, hv7, h⟩ := bind_some h
  refine VW.ws tau_ok (Sound.none.add 37 (i_ScaleMatrix_ok hv7) rfl) [some 34, some 35, some 36, some 37, some 33, some 38, some 39, some 11, some 12] [(0, .val (i64 a0)), (1, .val (dM a1)), (2, .val (i64 a2)), (8, .ref 8 [] true (dM v5.1)), (9, .val (i64 v5.2)), (10, .ref 10 [] true (dM v6)), (11, .ref 11 [] true (dM v7.1)), (12, .val (i64 v7.2))] rfl ?_ ?_
  · simp <;> simp [ieq, ilt, ile]
  refine VW.sqc fun K8 hK8 hCK8 => ?_
  -- region 8
  obtain ⟨x11, hx11, h⟩ := bind_some h
  refine VW.cut [(0, .val (i64 a0)), (1, .val (dM a1)), (2, .val (i64 a2)), (8, .ref 8 [] true (dM v5.1)), (9, .val (i64 v5.2)), (10, .ref 10 [] true (dM v6)), (11, .ref 11 [] true (dM v7.1)), (12, .val (i64 v7.2)), (48, .val (.bool x11))] ?_ fun hy => ?_
  rotate_left
  · clear h
    obtain ⟨v9, hv9, hx11⟩ := bind_some hx11
    by_cases hp10 : v9 = false
    · rw [if_pos hp10] at hx11
      have hp10b : v9 = false := by simpa [ieq, ilt, ile] using hp10
      have hp10s := hp10b
      try simp at hp10s
      cases hx11
      refine VW.ws tau_ok (Sound.none.add 42 (l_eqInt64SS_ok hv9) rfl) [some 40, some 41, some 42, some 43, some 44, some 45, some 46, some 47, some 48] _ rfl ?_ hy
      simp [hp10b, hp10s] <;> simp [ieq, ilt, ile]
    · rw [if_neg hp10] at hx11
      have hp10b : v9 = true := by simpa [ieq, ilt, ile] using hp10
      have hp10s := hp10b
      try simp at hp10s
      cases hx11
      refine VW.ws tau_ok (Sound.none.add 42 (l_eqInt64SS_ok hv9) rfl) [some 40, some 41, some 42, some 43, some 44, some 45, some 46, some 47, some 48] _ rfl ?_ hy
      simp [hp10b, hp10s] <;> simp [ieq, ilt, ile]
  refine VW.cond rfl (fun hb12 => ?_) (fun hb12 => ?_)
  ·
    replace hb12 : x11 = true := by simpa [ieq, ilt, ile] using hb12
    rw [if_pos hb12] at h
    -- region 9
    refine VW.ws tau_ok Sound.none [some 6] [(6, .val (.bool false))] rfl ?_ ?_
    · simp <;> simp [ieq, ilt, ile]
    cases h
    refine VW.ret ?_
    simp [Post, PostM, PostC, PostC2, Nx, Bk]
  replace hb12 : ¬ (x11 = true) := by simpa [ieq, ilt, ile] using hb12
  rw [if_neg hb12] at h
  refine VW.skip ?_
  refine hK8 _ ?_
  refine VW.sqc fun K13 hK13 hCK13 => ?_
  -- region 10
  obtain ⟨v14, hv14, h⟩ := bind_some h
  obtain ⟨v15, hv15, h⟩ := bind_some h
  refine VW.ws tau_ok ((Sound.none.add 51 (l_toInt64SS_ok hv14) rfl).add 52 (l_eqInt64SS_ok hv15) rfl) [some 49, some 50, some 51, some 52, some 53] [(0, .val (i64 a0)), (1, .val (dM a1)), (2, .val (i64 a2)), (8, .ref 8 [] true (dM v5.1)), (9, .val (i64 v5.2)), (10, .ref 10 [] true (dM v6)), (11, .ref 11 [] true (dM v7.1)), (12, .val (i64 v7.2)), (53, .val (.bool (!v15)))] rfl ?_ ?_
  · simp <;> simp [ieq, ilt, ile]
  refine VW.cond rfl (fun hb16 => ?_) (fun hb16 => ?_)
  ·
    replace hb16 : v15 = false := by simpa [ieq, ilt, ile] using hb16
    rw [if_pos hb16] at h
    -- region 11
    refine VW.ws tau_ok Sound.none [some 6] [(6, .val (.bool false))] rfl ?_ ?_
    · simp <;> simp [ieq, ilt, ile]
    cases h
    refine VW.ret ?_
    simp [Post, PostM, PostC, PostC2, Nx, Bk]
  replace hb16 : ¬ (v15 = false) := by simpa [ieq, ilt, ile] using hb16
  rw [if_neg hb16] at h
  refine VW.skip ?_
  refine hK13 _ ?_
  -- region 12
  refine VW.ws tau_ok Sound.none [some 13] [(0, .val (i64 a0)), (1, .val (dM a1)), (2, .val (i64 a2)), (8, .ref 8 [] true (dM v5.1)), (9, .val (i64 v5.2)), (10, .ref 10 [] true (dM v6)), (11, .ref 11 [] true (dM v7.1)), (12, .val (i64 v7.2)), (13, .val (i64 1))] rfl ?_ ?_
  · simp <;> simp [ieq, ilt, ile]
  -- region 13
  obtain ⟨v17, hv17, h⟩ := bind_some h
  refine VW.ws tau_ok (Sound.none.mutc 56 (l_markInt64SS_ok hv17)) [some 54, some 55, some 56, some 13] [(0, .val (i64 a0)), (1, .val (dM a1)), (2, .val (i64 a2)), (8, .ref 8 [] true (dM v5.1)), (9, .val (i64 v5.2)), (11, .ref 11 [] true (dM v7.1)), (12, .val (i64 v7.2)), (13, .val (i64 v17.1))] rfl ?_ ?_
  · simp <;> simp [ieq, ilt, ile]
  refine VW.sqc fun K18 hK18 hCK18 => ?_
  -- region 14
  obtain ⟨x22, hx22, h⟩ := bind_some h
  refine VW.cut [(0, .val (i64 a0)), (1, .val (dM a1)), (2, .val (i64 a2)), (8, .ref 8 [] true (dM v5.1)), (9, .val (i64 v5.2)), (11, .ref 11 [] true (dM v7.1)), (69, .val (.bool x22))] ?_ fun hy => ?_
  rotate_left
  · clear h
    by_cases hp19 : v17.1 < 0
    · rw [if_pos hp19] at hx22
      have hp19b : ilt v17.1 0 = true := by simpa [ieq, ilt, ile] using hp19
      have hp19s := hp19b
      try simp at hp19s
      cases hx22
      refine VW.ws tau_ok Sound.none [some 57, some 58, some 59, some 60, some 61, some 62, some 63, some 64, some 65, some 66, some 67, some 68, some 69] _ rfl ?_ hy
      simp [hp19b, hp19s] <;> simp [ieq, ilt, ile]
    · rw [if_neg hp19] at hx22
      have hp19b : ilt v17.1 0 = false := by simpa [ieq, ilt, ile] using hp19
      have hp19s := hp19b
      try simp at hp19s
      obtain ⟨v20, hv20, hx22⟩ := bind_some hx22
      by_cases hp21 : v20 = false
      · rw [if_pos hp21] at hx22
        have hp21b : v20 = false := by simpa [ieq, ilt, ile] using hp21
        have hp21s := hp21b
        try simp at hp21s
        cases hx22
        refine VW.ws tau_ok (Sound.none.add 62 (l_eqInt64SS_ok hv20) rfl) [some 57, some 58, some 59, some 60, some 61, some 62, some 63, some 64, some 65, some 66, some 67, some 68, some 69] _ rfl ?_ hy
        simp [hp19b, hp19s, hp21b, hp21s] <;> simp [ieq, ilt, ile]
      · rw [if_neg hp21] at hx22
        have hp21b : v20 = true := by simpa [ieq, ilt, ile] using hp21
        have hp21s := hp21b
        try simp at hp21s
        cases hx22
        refine VW.ws tau_ok (Sound.none.add 62 (l_eqInt64SS_ok hv20) rfl) [some 57, some 58, some 59, some 60, some 61, some 62, some 63, some 64, some 65, some 66, some 67, some 68, some 69] _ rfl ?_ hy
        simp [hp19b, hp19s, hp21b, hp21s] <;> simp [ieq, ilt, ile]
  refine VW.cond rfl (fun hb23 => ?_) (fun hb23 => ?_)
  ·
    replace hb23 : x22 = true := by simpa [ieq, ilt, ile] using hb23
    rw [if_pos hb23] at h
    -- region 15
    refine VW.ws tau_ok Sound.none [some 6] [(6, .val (.bool false))] rfl ?_ ?_
    · simp <;> simp [ieq, ilt, ile]
    cases h
    refine VW.ret ?_
    simp [Post, PostM, PostC, PostC2, Nx, Bk]
  replace hb23 : ¬ (x22 = true) := by simpa [ieq, ilt, ile] using hb23
  rw [if_neg hb23] at h
  refine VW.skip ?_
  refine hK18 _ ?_
  -- region 16
  refine VW.ws tau_ok Sound.none [some 14] [(0, .val (i64 a0)), (1, .val (dM a1)), (2, .val (i64 a2)), (8, .ref 8 [] true (dM v5.1)), (9, .val (i64 v5.2)), (11, .ref 11 [] true (dM v7.1)), (14, .val (i64 1))] rfl ?_ ?_
  · simp <;> simp [ieq, ilt, ile]
  -- region 17
  obtain ⟨v24, hv24, h⟩ := bind_some h
  refine VW.ws tau_ok (Sound.none.mutc 72 (l_markInt64SS_ok hv24)) [some 70, some 71, some 72, some 14] [(0, .val (i64 a0)), (1, .val (dM a1)), (2, .val (i64 a2)), (8, .ref 8 [] true (dM v5.1)), (9, .val (i64 v5.2)), (11, .ref 11 [] true (dM v24.2)), (14, .val (i64 v24.1))] rfl ?_ ?_
  · simp <;> simp [ieq, ilt, ile]
  -- region 18
  refine VW.ws tau_ok Sound.none [some 15] [(0, .val (i64 a0)), (1, .val (dM a1)), (2, .val (i64 a2)), (8, .ref 8 [] true (dM v5.1)), (9, .val (i64 v5.2)), (11, .ref 11 [] true (dM v24.2)), (14, .val (i64 v24.1)), (15, .val (i64 1))] rfl ?_ ?_
  · simp <;> simp [ieq, ilt, ile]
  -- region 19
  obtain ⟨v25, hv25, h⟩ := bind_some h
  refine VW.ws tau_ok (Sound.none.add 75 (l_heldInt64SS_ok hv25) rfl) [some 73, some 74, some 75, some 15] [(0, .val (i64 a0)), (1, .val (dM a1)), (2, .val (i64 a2)), (8, .ref 8 [] true (dM v5.1)), (9, .val (i64 v5.2)), (11, .ref 11 [] true (dM v24.2)), (14, .val (i64 v24.1)), (15, .val (i64 v25))] rfl ?_ ?_
  · simp <;> simp [ieq, ilt, ile]
  refine VW.sqc fun K26 hK26 hCK26 => ?_
  -- region 20
  refine VW.ws tau_ok Sound.none [some 76, some 77] [(0, .val (i64 a0)), (1, .val (dM a1)), (2, .val (i64 a2)), (8, .ref 8 [] true (dM v5.1)), (9, .val (i64 v5.2)), (11, .ref 11 [] true (dM v24.2)), (14, .val (i64 v24.1)), (15, .val (i64 v25)), (77, .val (.bool (ilt v25 0)))] rfl ?_ ?_
  · simp <;> simp [ieq, ilt, ile]
  refine VW.cond rfl (fun hb27 => ?_) (fun hb27 => ?_)
  ·
    replace hb27 : v25 < 0 := by simpa [ieq, ilt, ile] using hb27
    rw [if_pos hb27] at h
    -- region 21
    refine VW.ws tau_ok Sound.none [some 6] [(6, .val (.bool false))] rfl ?_ ?_
    · simp <;> simp [ieq, ilt, ile]
    cases h
    refine VW.ret ?_
    simp [Post, PostM, PostC, PostC2, Nx, Bk]
  replace hb27 : ¬ (v25 < 0) := by simpa [ieq, ilt, ile] using hb27
  rw [if_neg hb27] at h
  refine VW.skip ?_
  refine hK26 _ ?_
  refine VW.sqc fun K28 hK28 hCK28 => ?_
  -- region 22
  refine VW.ws tau_ok Sound.none [some 78, some 79, some 80] [(0, .val (i64 a0)), (1, .val (dM a1)), (2, .val (i64 a2)), (8, .ref 8 [] true (dM v5.1)), (9, .val (i64 v5.2)), (11, .ref 11 [] true (dM v24.2)), (14, .val (i64 v24.1)), (80, .val (.bool (!(ieq v25 v24.1))))] rfl ?_ ?_
  · simp <;> simp [ieq, ilt, ile]
  refine VW.cond rfl (fun hb29 => ?_) (fun hb29 => ?_)
  ·
    replace hb29 : ¬ v25 = v24.1 := by simpa [ieq, ilt, ile] using hb29
    rw [if_pos hb29] at h
    -- region 23
    refine VW.ws tau_ok Sound.none [some 6] [(6, .val (.bool false))] rfl ?_ ?_
    · simp <;> simp [ieq, ilt, ile]
    cases h
    refine VW.ret ?_
    simp [Post, PostM, PostC, PostC2, Nx, Bk]
  replace hb29 : ¬ (¬ v25 = v24.1) := by simpa [ieq, ilt, ile] using hb29
  rw [if_neg hb29] at h
  refine VW.skip ?_
  refine hK28 _ ?_
  -- region 24
  obtain ⟨v30, hv30, h⟩ := bind_some h
  obtain ⟨v31, hv31, h⟩ := bind_some h
  refine VW.ws tau_ok ((Sound.none.add 84 (l_toInt64SS_ok hv30) rfl).add 86 (i_ScaleMatrix_ok hv31) rfl) [some 82, some 83, some 84, some 85, some 86, some 81, some 87, some 88, some 16, some 17] [(8, .ref 8 [] true (dM v5.1)), (9, .val (i64 v5.2)), (11, .ref 11 [] true (dM v24.2)), (14, .val (i64 v24.1)), (16, .ref 16 [] true (dM v31.1)), (17, .val (i64 v31.2))] rfl ?_ ?_
  · simp <;> simp [ieq, ilt, ile]
  refine VW.sqc fun K32 hK32 hCK32 => ?_
  -- region 25
  obtain ⟨x35, hx35, h⟩ := bind_some h
  refine VW.cut [(11, .ref 11 [] true (dM v24.2)), (14, .val (i64 v24.1)), (97, .val (.bool x35))] ?_ fun hy => ?_
  rotate_left
  · clear h
    obtain ⟨v33, hv33, hx35⟩ := bind_some hx35
    by_cases hp34 : v33 = false
    · rw [if_pos hp34] at hx35
      have hp34b : v33 = false := by simpa [ieq, ilt, ile] using hp34
      have hp34s := hp34b
      try simp at hp34s
      cases hx35
      refine VW.ws tau_ok (Sound.none.add 91 (l_eqInt64SS_ok hv33) rfl) [some 89, some 90, some 91, some 92, some 93, some 94, some 95, some 96, some 97] _ rfl ?_ hy
      simp [hp34b, hp34s] <;> simp [ieq, ilt, ile]
    · rw [if_neg hp34] at hx35
      have hp34b : v33 = true := by simpa [ieq, ilt, ile] using hp34
      have hp34s := hp34b
      try simp at hp34s
      cases hx35
      refine VW.ws tau_ok (Sound.none.add 91 (l_eqInt64SS_ok hv33) rfl) [some 89, some 90, some 91, some 92, some 93, some 94, some 95, some 96, some 97] _ rfl ?_ hy
      simp [hp34b, hp34s] <;> simp [ieq, ilt, ile]
  refine VW.cond rfl (fun hb36 => ?_) (fun hb36 => ?_)
  ·
    replace hb36 : x35 = true := by simpa [ieq, ilt, ile] using hb36
    rw [if_pos hb36] at h
    -- region 26
    refine VW.ws tau_ok Sound.none [some 6] [(6, .val (.bool false))] rfl ?_ ?_
    · simp <;> simp [ieq, ilt, ile]
    cases h
    refine VW.ret ?_
    simp [Post, PostM, PostC, PostC2, Nx, Bk]
  replace hb36 : ¬ (x35 = true) := by simpa [ieq, ilt, ile] using hb36
  rw [if_neg hb36] at h
  refine VW.skip ?_
  refine hK32 _ ?_
  -- region 27
  refine VW.ws tau_ok Sound.none [some 15] [(11, .ref 11 [] true (dM v24.2)), (14, .val (i64 v24.1)), (15, .val (i64 1))] rfl ?_ ?_
  · simp <;> simp [ieq, ilt, ile]
  -- region 28
  obtain ⟨v37, hv37, h⟩ := bind_some h
  refine VW.ws tau_ok (Sound.none.add 100 (l_heldInt64SS_ok hv37) rfl) [some 98, some 99, some 100, some 15] [(14, .val (i64 v24.1)), (15, .val (i64 v37))] rfl ?_ ?_
  · simp <;> simp [ieq, ilt, ile]
  refine VW.sqc fun K38 hK38 hCK38 => ?_
  -- region 29
  refine VW.ws tau_ok Sound.none [some 101, some 102] [(14, .val (i64 v24.1)), (15, .val (i64 v37)), (102, .val (.bool (ilt v37 0)))] rfl ?_ ?_
  · simp <;> simp [ieq, ilt, ile]
  refine VW.cond rfl (fun hb39 => ?_) (fun hb39 => ?_)
  ·
    replace hb39 : v37 < 0 := by simpa [ieq, ilt, ile] using hb39
    rw [if_pos hb39] at h
    -- region 30
    refine VW.ws tau_ok Sound.none [some 6] [(6, .val (.bool false))] rfl ?_ ?_
    · simp <;> simp [ieq, ilt, ile]
    cases h
    refine VW.ret ?_
    simp [Post, PostM, PostC, PostC2, Nx, Bk]
  replace hb39 : ¬ (v37 < 0) := by simpa [ieq, ilt, ile] using hb39
  rw [if_neg hb39] at h
  refine VW.skip ?_
  refine hK38 _ ?_
  refine VW.sqc fun K40 hK40 hCK40 => ?_
  -- region 31
  refine VW.ws tau_ok Sound.none [some 103, some 104, some 105] [(105, .val (.bool (!(ieq v37 v24.1))))] rfl ?_ ?_
  · simp <;> simp [ieq, ilt, ile]
  refine VW.cond rfl (fun hb41 => ?_) (fun hb41 => ?_)
  ·
    replace hb41 : ¬ v37 = v24.1 := by simpa [ieq, ilt, ile] using hb41
    rw [if_pos hb41] at h
    -- region 32
    refine VW.ws tau_ok Sound.none [some 6] [(6, .val (.bool false))] rfl ?_ ?_
    · simp <;> simp [ieq, ilt, ile]
    cases h
    refine VW.ret ?_
    simp [Post, PostM, PostC, PostC2, Nx, Bk]
  replace hb41 : ¬ (¬ v37 = v24.1) := by simpa [ieq, ilt, ile] using hb41
  rw [if_neg hb41] at h
  refine VW.skip ?_
  refine hK40 _ ?_
  -- region 33
  refine VW.ws tau_ok Sound.none [some 6] [(6, .val (.bool true))] rfl ?_ ?_
  · simp <;> simp [ieq, ilt, ile]
  cases h
  refine VW.ret ?_
  simp [Post, PostM, PostC, PostC2, Nx, Bk]
end Go.Vam
