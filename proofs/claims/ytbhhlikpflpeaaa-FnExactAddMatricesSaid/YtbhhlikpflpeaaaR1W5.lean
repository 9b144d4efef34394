import Derived.Test.YtbhhlikpflpeaaaR1T
import Derived.Test.YtbhhlikpflpeaaaFnA
import Derived.Test.YtbhhlikpflpeaaaR1W1
import Derived.Test.YtbhhlikpflpeaaaR1W2
import Derived.Test.YtbhhlikpflpeaaaR1W3
import Derived.Test.YtbhhlikpflpeaaaR1W4
namespace Go.Vam
open Go Go.RowKit Go.Proofs
set_option maxRecDepth 100000
set_option linter.unusedSimpArgs false
set_option linter.unusedVariables false

theorem i_field_apply_ok {a0 : Int} {a1 : List (List Int)} {a2 : List Int} {r : List Int} (h : i_field_apply a0 a1 a2 = some r) :
    VCall Try.prog 43 [i64 a0, dM a1, dI a2] [.own true (dI r)] := by
  unfold i_field_apply at h
  refine VCall.enter Try.call43 Try.func43 rfl 26 Try.ntmps43 (by simp) [.tmp 6] rfl ?_
  show VW _ _ _ (mk [(0, .val (i64 a0)), (1, .val (dM a1)), (2, .val (dI a2))]) _
  -- region 0
  refine VW.ws tau_ok Sound.none [some 6] [(0, .val (i64 a0)), (1, .val (dM a1)), (2, .val (dI a2))] rfl ?_ ?_
  · simp <;> simp [ieq, ilt, ile]
  -- region 1
  refine VW.ws tau_ok Sound.none [some 10, some 7] [(0, .val (i64 a0)), (1, .val (dM a1)), (2, .val (dI a2)), (7, .ref 7 [] true (dI []))] rfl ?_ ?_
  · simp <;> simp [ieq, ilt, ile]
  refine VW.sqc fun K1 hK1 hCK1 => ?_
  -- region 2
  refine VW.ws tau_ok Sound.none [some 11, some 12, some 13] [(0, .val (i64 a0)), (2, .val (dI a2)), (7, .ref 7 [] true (dI [])), (11, .val (dM a1)), (12, .val (i64 (a1.length : Int))), (13, .val (i64 0))] rfl ?_ ?_
  · simp <;> simp [ieq, ilt, ile]
  obtain ⟨x2, hx2, h⟩ := bind_some h
  refine VW.tlE [(7, .ref 7 [] true (dI x2))] (hCK1) ?_ ?_
  · clear hx2
    refine hK1 _ ?_
    -- region 7
    refine VW.ws tau_ok Sound.none [some 25, some 6] [(6, .ref 6 [] true (dI x2))] rfl ?_ ?_
    · simp <;> simp [ieq, ilt, ile]
    cases h
    refine VW.ret ?_
    simp [Post, PostM, PostC, PostC2, Nx, Bk]
  refine VW.block ?_
  refine VW.loopF (i_field_apply_L0 a0 a1 a2) (fun s2 => [(0, .val (i64 a0)), (2, .val (dI a2)), (7, .ref 7 [] true (dI s2.1)), (11, .val (dM a1)), (12, .val (i64 (a1.length : Int))), (13, .val (i64 s2.2))]) hx2 (Fits.of rfl) ?_
  clear hx2
  intro s2 ox2 hx2o hx2b
  unfold i_field_apply_L0 at hx2o
  -- region 3
  refine VW.ws tau_ok Sound.none [some 14] [(0, .val (i64 a0)), (2, .val (dI a2)), (7, .ref 7 [] true (dI s2.1)), (11, .val (dM a1)), (12, .val (i64 (a1.length : Int))), (13, .val (i64 s2.2)), (14, .val (.bool (ilt s2.2 (a1.length : Int))))] rfl ?_ ?_
  · simp <;> simp [ieq, ilt, ile]
  refine VW.sqc fun K4 hK4 hCK4 => ?_
  refine VW.cond rfl (fun hb5 => ?_) (fun hb5 => ?_)
  rotate_left
  ·
    replace hb5 : ¬ (s2.2 < (a1.length : Int)) := by simpa [ieq, ilt, ile] using hb5
    rw [if_neg hb5] at hx2o
    refine VW.exit ?_
    cases hx2o
    have hq := hx2b _ rfl
    subst hq
    exact Fits.of rfl
  replace hb5 : s2.2 < (a1.length : Int) := by simpa [ieq, ilt, ile] using hb5
  rw [if_pos hb5] at hx2o
  refine VW.skip ?_
  refine hK4 _ ?_
  refine VW.sqc fun K6 hK6 hCK6 => ?_
  refine VW.block ?_
  -- region 4
  obtain ⟨v7, hv7, hx2o⟩ := bind_some hx2o
  obtain ⟨hv7a, hv7b, hv7c, hv7d⟩ := idx_some hv7
  refine VW.ws tau_ok Sound.none [some 15, some 16, some 9] [(0, .val (i64 a0)), (2, .val (dI a2)), (7, .ref 7 [] true (dI s2.1)), (9, .val (dI v7)), (11, .val (dM a1)), (12, .val (i64 (a1.length : Int))), (13, .val (i64 s2.2))] rfl ?_ ?_
  · simp [hv7a, hv7b, hv7c, hv7d] <;> simp [ieq, ilt, ile]
  -- region 5
  obtain ⟨v8, hv8, hx2o⟩ := bind_some hx2o
  obtain ⟨hc9, hx2o⟩ := chk_some hx2o
  have hc9s := hc9
  try simp at hc9s
  refine VW.wr tau_ok (Sound.none.add 21 (i_field_dot_ok hv8) rfl) [some 17, some 18, some 19, some 20, some 21, some 22, some 23, some 7] [(0, .val (i64 a0)), (2, .val (dI a2)), (7, .ref 7 [] true (dI (s2.1 ++ [v8]))), (11, .val (dM a1)), (12, .val (i64 (a1.length : Int))), (13, .val (i64 s2.2))] rfl ?_ ?_
  · simp [hc9, hc9s] <;> simp [ieq, ilt, ile]
  refine hK6 _ ?_
  -- region 6
  refine VW.wr tau_ok Sound.none [some 24, some 13] [(0, .val (i64 a0)), (2, .val (dI a2)), (7, .ref 7 [] true (dI (s2.1 ++ [v8]))), (11, .val (dM a1)), (12, .val (i64 (a1.length : Int))), (13, .val (i64 (w64 (s2.2 + 1))))] rfl ?_ ?_
  · simp <;> simp [ieq, ilt, ile]
  cases hx2o
  exact ⟨_, rfl, Fits.of rfl⟩

theorem i_ApplyMatrix_ok {a0 : Int} {a1 : List (List Int)} {a2 : List Int} {r : (List Int) × Int} (h : i_ApplyMatrix a0 a1 a2 = some r) :
    VCall Try.prog 22 [i64 a0, dM a1, dI a2] [.own true (dI r.1), .sc (i64 r.2)] := by
  unfold i_ApplyMatrix at h
  refine VCall.enter Try.call22 Try.func22 rfl 33 Try.ntmps22 (by simp) [.tmp 6, .tmp 7] rfl ?_
  show VW _ _ _ (mk [(0, .val (i64 a0)), (1, .val (dM a1)), (2, .val (dI a2))]) _
  -- region 0
  refine VW.ws tau_ok Sound.none [some 6, some 7] [(0, .val (i64 a0)), (1, .val (dM a1)), (2, .val (dI a2))] rfl ?_ ?_
  · simp <;> simp [ieq, ilt, ile]
  refine VW.sqc fun K1 hK1 hCK1 => ?_
  -- region 1
  obtain ⟨v2, hv2, h⟩ := bind_some h
  refine VW.ws tau_ok (Sound.none.add 12 (i_checkMatrices_ok hv2) rfl) [some 9, some 10, some 11, some 12, some 8] [(0, .val (i64 a0)), (1, .val (dM a1)), (2, .val (dI a2)), (8, .val (i64 v2))] rfl ?_ ?_
  · simp <;> simp [ieq, ilt, ile]
  -- region 2
  refine VW.ws tau_ok Sound.none [some 13, some 14] [(0, .val (i64 a0)), (1, .val (dM a1)), (2, .val (dI a2)), (8, .val (i64 v2)), (14, .val (.bool (!(ieq v2 0))))] rfl ?_ ?_
  · simp <;> simp [ieq, ilt, ile]
  refine VW.cond rfl (fun hb3 => ?_) (fun hb3 => ?_)
  ·
    replace hb3 : ¬ v2 = 0 := by simpa [ieq, ilt, ile] using hb3
    rw [if_pos hb3] at h
    -- region 3
    refine VW.ws tau_ok Sound.none [some 15, some 6, some 7] [(6, .ref 6 [] true (.list [])), (7, .val (i64 v2))] rfl ?_ ?_
    · simp <;> simp [ieq, ilt, ile]
    cases h
    refine VW.ret ?_
    simp [Post, PostM, PostC, PostC2, Nx, Bk]
  replace hb3 : ¬ (¬ v2 = 0) := by simpa [ieq, ilt, ile] using hb3
  rw [if_neg hb3] at h
  refine VW.skip ?_
  refine hK1 _ ?_
  refine VW.sqc fun K4 hK4 hCK4 => ?_
  -- region 4
  obtain ⟨x8, hx8, h⟩ := bind_some h
  refine VW.cut [(0, .val (i64 a0)), (1, .val (dM a1)), (2, .val (dI a2)), (28, .val (.bool x8))] ?_ fun hy => ?_
  rotate_left
  · clear h
    obtain ⟨v5, hv5, hx8⟩ := bind_some hx8
    obtain ⟨hv5a, hv5b, hv5c, hv5d⟩ := idx_some hv5
    replace hv5b : 0 < a1.length := hv5b
    replace hv5c : a1[0]? = some v5 := hv5c
    replace hv5d : ∀ h, a1[0]'h = v5 := hv5d
    by_cases hp6 : ¬ (a2.length : Int) = (v5.length : Int)
    · rw [if_pos hp6] at hx8
      have hp6b : ieq (a2.length : Int) (v5.length : Int) = false := by simpa [ieq, ilt, ile] using hp6
      have hp6s := hp6b
      try simp at hp6s
      cases hx8
      refine VW.ws tau_ok Sound.none [some 16, some 17, some 18, some 19, some 20, some 21, some 22, some 23, some 24, some 25, some 26, some 27, some 28] _ rfl ?_ hy
      simp [hv5a, hv5b, hv5c, hv5d, hp6b, hp6s] <;> simp [ieq, ilt, ile]
    · rw [if_neg hp6] at hx8
      have hp6b : ieq (a2.length : Int) (v5.length : Int) = true := by simpa [ieq, ilt, ile] using hp6
      have hp6s := hp6b
      try simp at hp6s
      obtain ⟨v7, hv7, hx8⟩ := bind_some hx8
      cases hx8
      refine VW.ws tau_ok (Sound.none.add 26 (i_field_is_ok hv7) rfl) [some 16, some 17, some 18, some 19, some 20, some 21, some 22, some 23, some 24, some 25, some 26, some 27, some 28] _ rfl ?_ hy
      simp [hv5a, hv5b, hv5c, hv5d, hp6b, hp6s] <;> simp [ieq, ilt, ile]
  refine VW.cond rfl (fun hb9 => ?_) (fun hb9 => ?_)
  ·
    replace hb9 : x8 = true := by simpa [ieq, ilt, ile] using hb9
    rw [if_pos hb9] at h
    -- region 5
    refine VW.ws tau_ok Sound.none [some 6, some 7] [(6, .ref 6 [] true (.list [])), (7, .val (i64 2))] rfl ?_ ?_
    · simp <;> simp [ieq, ilt, ile]
    cases h
    refine VW.ret ?_
    simp [Post, PostM, PostC, PostC2, Nx, Bk]
  replace hb9 : ¬ (x8 = true) := by simpa [ieq, ilt, ile] using hb9
  rw [if_neg hb9] at h
  refine VW.skip ?_
  refine hK4 _ ?_
  -- region 6
  obtain ⟨v10, hv10, h⟩ := bind_some h
  refine VW.ws tau_ok (Sound.none.add 32 (i_field_apply_ok hv10) rfl) [some 29, some 30, some 31, some 32, some 6, some 7] [(6, .ref 6 [] true (dI v10)), (7, .val (i64 0))] rfl ?_ ?_
  · simp <;> simp [ieq, ilt, ile]
  cases h
  refine VW.ret ?_
  simp [Post, PostM, PostC, PostC2, Nx, Bk]

theorem l_FnExactApplyMatrix_ok {a0 : Int} {a1 : List (List Int)} {a2 : List Int} {r : Bool} (h : l_FnExactApplyMatrix a0 a1 a2 = some r) :
    VCall Try.prog 6 [i64 a0, dM a1, dI a2] [.sc (.bool r)] := by
  unfold l_FnExactApplyMatrix at h
  refine VCall.enter Try.call6 Try.func6 rfl 122 Try.ntmps6 (by simp) [.tmp 6] rfl ?_
  show VW _ _ _ (mk [(0, .val (i64 a0)), (1, .val (dM a1)), (2, .val (dI a2))]) _
  -- region 0
  refine VW.ws tau_ok Sound.none [some 6] [(0, .val (i64 a0)), (1, .val (dM a1)), (2, .val (dI a2))] rfl ?_ ?_
  · simp <;> simp [ieq, ilt, ile]
  refine VW.sqc fun K1 hK1 hCK1 => ?_
  -- region 1
  refine VW.ws tau_ok Sound.none [some 19, some 20, some 21] [(0, .val (i64 a0)), (1, .val (dM a1)), (2, .val (dI a2)), (21, .val (.bool (ilt 1048576 (a2.length : Int))))] rfl ?_ ?_
  · simp <;> simp [ieq, ilt, ile]
  refine VW.cond rfl (fun hb2 => ?_) (fun hb2 => ?_)
  ·
    replace hb2 : 1048576 < (a2.length : Int) := by simpa [ieq, ilt, ile] using hb2
    rw [if_pos hb2] at h
    -- region 2
    refine VW.ws tau_ok Sound.none [some 6] [(6, .val (.bool true))] rfl ?_ ?_
    · simp <;> simp [ieq, ilt, ile]
    cases h
    refine VW.ret ?_
    simp [Post, PostM, PostC, PostC2, Nx, Bk]
  replace hb2 : ¬ (1048576 < (a2.length : Int)) := by simpa [ieq, ilt, ile] using hb2
  rw [if_neg hb2] at h
  refine VW.skip ?_
  refine hK1 _ ?_
  -- region 3
  refine VW.ws tau_ok Sound.none [some 7] [(0, .val (i64 a0)), (1, .val (dM a1)), (2, .val (dI a2)), (7, .val (i64 1048576))] rfl ?_ ?_
  · simp <;> simp [ieq, ilt, ile]
  -- region 4
  obtain ⟨v3, hv3, h⟩ := bind_some h
  refine VW.ws tau_ok (Sound.none.add 24 (l_szInt64SS_ok hv3) rfl) [some 22, some 23, some 24, some 7] [(0, .val (i64 a0)), (1, .val (dM a1)), (2, .val (dI a2)), (7, .val (i64 v3))] rfl ?_ ?_
  · simp <;> simp [ieq, ilt, ile]
  refine VW.sqc fun K4 hK4 hCK4 => ?_
  -- region 5
  refine VW.ws tau_ok Sound.none [some 25, some 26] [(0, .val (i64 a0)), (1, .val (dM a1)), (2, .val (dI a2)), (26, .val (.bool (ilt v3 0)))] rfl ?_ ?_
  · simp <;> simp [ieq, ilt, ile]
  refine VW.cond rfl (fun hb5 => ?_) (fun hb5 => ?_)
  ·
    replace hb5 : v3 < 0 := by simpa [ieq, ilt, ile] using hb5
    rw [if_pos hb5] at h
    -- region 6
    refine VW.ws tau_ok Sound.none [some 6] [(6, .val (.bool true))] rfl ?_ ?_
    · simp <;> simp [ieq, ilt, ile]
    cases h
    refine VW.ret ?_
    simp [Post, PostM, PostC, PostC2, Nx, Bk]
  replace hb5 : ¬ (v3 < 0) := by simpa [ieq, ilt, ile] using hb5
  rw [if_neg hb5] at h
  refine VW.skip ?_
  refine hK4 _ ?_
  -- region 7
  obtain ⟨v6, hv6, h⟩ := bind_some h
  obtain ⟨v7, hv7, h⟩ := bind_some h
  obtain ⟨v8, hv8, h⟩ := bind_some h
  refine VW.ws tau_ok (((Sound.none.add 30 (l_toInt64SS_ok hv6) rfl).add 32 (l_toInt64S_ok hv7) rfl).add 33 (s_ApplyMatrix_ok hv8) rfl) [some 28, some 29, some 30, some 31, some 32, some 33, some 27, some 34, some 35, some 8, some 9] [(0, .val (i64 a0)), (1, .val (dM a1)), (2, .val (dI a2)), (8, .ref 8 [] true (dI v8.1)), (9, .val (i64 v8.2))] rfl ?_ ?_
  · simp <;> simp [ieq, ilt, ile]
  -- region 8
  obtain ⟨v9, hv9, h⟩ := bind_some h
  refine VW.ws tau_ok (Sound.none.add 37 (l_toInt64SS_ok hv9) rfl) [some 36, some 37, some 10] [(0, .val (i64 a0)), (1, .val (dM a1)), (2, .val (dI a2)), (8, .ref 8 [] true (dI v8.1)), (9, .val (i64 v8.2)), (10, .ref 10 [] true (dM v9))] rfl ?_ ?_
  · simp <;> simp [ieq, ilt, ile]
  -- region 9
  obtain ⟨v10, hv10, h⟩ := bind_some h
  refine VW.ws tau_ok (Sound.none.add 39 (l_toInt64S_ok hv10) rfl) [some 38, some 39, some 11] [(0, .val (i64 a0)), (1, .val (dM a1)), (2, .val (dI a2)), (8, .ref 8 [] true (dI v8.1)), (9, .val (i64 v8.2)), (10, .ref 10 [] true (dM v9)), (11, .ref 11 [] true (dI v10))] rfl ?_ ?_
  · simp <;> simp [ieq, ilt, ile]
  -- region 10
  obtain ⟨v11, hv11, h⟩ := bind_some h
  refine VW.ws tau_ok (Sound.none.add 44 (i_ApplyMatrix_ok hv11) rfl) [some 41, some 42, some 43, some 44, some 40, some 45, some 46, some 12, some 13] [(0, .val (i64 a0)), (1, .val (dM a1)), (2, .val (dI a2)), (8, .ref 8 [] true (dI v8.1)), (9, .val (i64 v8.2)), (10, .ref 10 [] true (dM v9)), (11, .ref 11 [] true (dI v10)), (12, .ref 12 [] true (dI v11.1)), (13, .val (i64 v11.2))] rfl ?_ ?_
  · simp <;> simp [ieq, ilt, ile]
  refine VW.sqc fun K12 hK12 hCK12 => ?_
  -- region 11
  obtain ⟨x15, hx15, h⟩ := bind_some h
  refine VW.cut [(0, .val (i64 a0)), (1, .val (dM a1)), (2, .val (dI a2)), (8, .ref 8 [] true (dI v8.1)), (9, .val (i64 v8.2)), (10, .ref 10 [] true (dM v9)), (11, .ref 11 [] true (dI v10)), (12, .ref 12 [] true (dI v11.1)), (13, .val (i64 v11.2)), (55, .val (.bool x15))] ?_ fun hy => ?_
  rotate_left
  · clear h
    obtain ⟨v13, hv13, hx15⟩ := bind_some hx15
    by_cases hp14 : v13 = false
    · rw [if_pos hp14] at hx15
      have hp14b : v13 = false := by simpa [ieq, ilt, ile] using hp14
      have hp14s := hp14b
      try simp at hp14s
      cases hx15
      refine VW.ws tau_ok (Sound.none.add 49 (l_eqInt64S_ok hv13) rfl) [some 47, some 48, some 49, some 50, some 51, some 52, some 53, some 54, some 55] _ rfl ?_ hy
      simp [hp14b, hp14s] <;> simp [ieq, ilt, ile]
    · rw [if_neg hp14] at hx15
      have hp14b : v13 = true := by simpa [ieq, ilt, ile] using hp14
      have hp14s := hp14b
      try simp at hp14s
      cases hx15
      refine VW.ws tau_ok (Sound.none.add 49 (l_eqInt64S_ok hv13) rfl) [some 47, some 48, some 49, some 50, some 51, some 52, some 53, some 54, some 55] _ rfl ?_ hy
      simp [hp14b, hp14s] <;> simp [ieq, ilt, ile]
  refine VW.cond rfl (fun hb16 => ?_) (fun hb16 => ?_)
  ·
    replace hb16 : x15 = true := by simpa [ieq, ilt, ile] using hb16
    rw [if_pos hb16] at h
    -- region 12
    refine VW.ws tau_ok Sound.none [some 6] [(6, .val (.bool false))] rfl ?_ ?_
    · simp <;> simp [ieq, ilt, ile]
    cases h
    refine VW.ret ?_
    simp [Post, PostM, PostC, PostC2, Nx, Bk]
  replace hb16 : ¬ (x15 = true) := by simpa [ieq, ilt, ile] using hb16
  rw [if_neg hb16] at h
  refine VW.skip ?_
  refine hK12 _ ?_
  refine VW.sqc fun K17 hK17 hCK17 => ?_
  -- region 13
  obtain ⟨v18, hv18, h⟩ := bind_some h
  obtain ⟨v19, hv19, h⟩ := bind_some h
  refine VW.ws tau_ok ((Sound.none.add 58 (l_toInt64SS_ok hv18) rfl).add 59 (l_eqInt64SS_ok hv19) rfl) [some 56, some 57, some 58, some 59, some 60] [(0, .val (i64 a0)), (1, .val (dM a1)), (2, .val (dI a2)), (8, .ref 8 [] true (dI v8.1)), (9, .val (i64 v8.2)), (10, .ref 10 [] true (dM v9)), (11, .ref 11 [] true (dI v10)), (12, .ref 12 [] true (dI v11.1)), (13, .val (i64 v11.2)), (60, .val (.bool (!v19)))] rfl ?_ ?_
  · simp <;> simp [ieq, ilt, ile]
  refine VW.cond rfl (fun hb20 => ?_) (fun hb20 => ?_)
  ·
    replace hb20 : v19 = false := by simpa [ieq, ilt, ile] using hb20
    rw [if_pos hb20] at h
    -- region 14
    refine VW.ws tau_ok Sound.none [some 6] [(6, .val (.bool false))] rfl ?_ ?_
    · simp <;> simp [ieq, ilt, ile]
    cases h
    refine VW.ret ?_
    simp [Post, PostM, PostC, PostC2, Nx, Bk]
  replace hb20 : ¬ (v19 = false) := by simpa [ieq, ilt, ile] using hb20
  rw [if_neg hb20] at h
  refine VW.skip ?_
  refine hK17 _ ?_
  refine VW.sqc fun K21 hK21 hCK21 => ?_
  -- region 15
  obtain ⟨v22, hv22, h⟩ := bind_some h
  obtain ⟨v23, hv23, h⟩ := bind_some h
  refine VW.ws tau_ok ((Sound.none.add 63 (l_toInt64S_ok hv22) rfl).add 64 (l_eqInt64S_ok hv23) rfl) [some 61, some 62, some 63, some 64, some 65] [(0, .val (i64 a0)), (1, .val (dM a1)), (2, .val (dI a2)), (8, .ref 8 [] true (dI v8.1)), (9, .val (i64 v8.2)), (10, .ref 10 [] true (dM v9)), (11, .ref 11 [] true (dI v10)), (12, .ref 12 [] true (dI v11.1)), (13, .val (i64 v11.2)), (65, .val (.bool (!v23)))] rfl ?_ ?_
  · simp <;> simp [ieq, ilt, ile]
  refine VW.cond rfl (fun hb24 => ?_) (fun hb24 => ?_)
  ·
    replace hb24 : v23 = false := by simpa [ieq, ilt, ile] using hb24
    rw [if_pos hb24] at h
    -- region 16
    refine VW.ws tau_ok Sound.none [some 6] [(6, .val (.bool false))] rfl ?_ ?_
    · simp <;> simp [ieq, ilt, ile]
    cases h
    refine VW.ret ?_
    simp [Post, PostM, PostC, PostC2, Nx, Bk]
  replace hb24 : ¬ (v23 = false) := by simpa [ieq, ilt, ile] using hb24
  rw [if_neg hb24] at h
  refine VW.skip ?_
  refine hK21 _ ?_
  -- region 17
  refine VW.ws tau_ok Sound.none [some 14] [(0, .val (i64 a0)), (1, .val (dM a1)), (2, .val (dI a2)), (8, .ref 8 [] true (dI v8.1)), (9, .val (i64 v8.2)), (10, .ref 10 [] true (dM v9)), (11, .ref 11 [] true (dI v10)), (12, .ref 12 [] true (dI v11.1)), (13, .val (i64 v11.2)), (14, .val (i64 1))] rfl ?_ ?_
  · simp <;> simp [ieq, ilt, ile]
  -- region 18
  obtain ⟨v25, hv25, h⟩ := bind_some h
  refine VW.ws tau_ok (Sound.none.mutc 68 (l_markInt64SS_ok hv25)) [some 66, some 67, some 68, some 14] [(0, .val (i64 a0)), (1, .val (dM a1)), (2, .val (dI a2)), (8, .ref 8 [] true (dI v8.1)), (9, .val (i64 v8.2)), (11, .ref 11 [] true (dI v10)), (12, .ref 12 [] true (dI v11.1)), (13, .val (i64 v11.2)), (14, .val (i64 v25.1))] rfl ?_ ?_
  · simp <;> simp [ieq, ilt, ile]
  -- region 19
  obtain ⟨v26, hv26, h⟩ := bind_some h
  refine VW.ws tau_ok (Sound.none.mutc 71 (l_markInt64S_ok hv26)) [some 69, some 70, some 71, some 14] [(0, .val (i64 a0)), (1, .val (dM a1)), (2, .val (dI a2)), (8, .ref 8 [] true (dI v8.1)), (9, .val (i64 v8.2)), (12, .ref 12 [] true (dI v11.1)), (13, .val (i64 v11.2)), (14, .val (i64 v26.1))] rfl ?_ ?_
  · simp <;> simp [ieq, ilt, ile]
  refine VW.sqc fun K27 hK27 hCK27 => ?_
  -- region 20
  obtain ⟨x31, hx31, h⟩ := bind_some h
  refine VW.cut [(0, .val (i64 a0)), (1, .val (dM a1)), (2, .val (dI a2)), (8, .ref 8 [] true (dI v8.1)), (9, .val (i64 v8.2)), (12, .ref 12 [] true (dI v11.1)), (84, .val (.bool x31))] ?_ fun hy => ?_
  rotate_left
  · clear h
    by_cases hp28 : v26.1 < 0
    · rw [if_pos hp28] at hx31
      have hp28b : ilt v26.1 0 = true := by simpa [ieq, ilt, ile] using hp28
      have hp28s := hp28b
      try simp at hp28s
      cases hx31
      refine VW.ws tau_ok Sound.none [some 72, some 73, some 74, some 75, some 76, some 77, some 78, some 79, some 80, some 81, some 82, some 83, some 84] _ rfl ?_ hy
      simp [hp28b, hp28s] <;> simp [ieq, ilt, ile]
    · rw [if_neg hp28] at hx31
      have hp28b : ilt v26.1 0 = false := by simpa [ieq, ilt, ile] using hp28
      have hp28s := hp28b
      try simp at hp28s
      obtain ⟨v29, hv29, hx31⟩ := bind_some hx31
      by_cases hp30 : v29 = false
      · rw [if_pos hp30] at hx31
        have hp30b : v29 = false := by simpa [ieq, ilt, ile] using hp30
        have hp30s := hp30b
        try simp at hp30s
        cases hx31
        refine VW.ws tau_ok (Sound.none.add 77 (l_eqInt64S_ok hv29) rfl) [some 72, some 73, some 74, some 75, some 76, some 77, some 78, some 79, some 80, some 81, some 82, some 83, some 84] _ rfl ?_ hy
        simp [hp28b, hp28s, hp30b, hp30s] <;> simp [ieq, ilt, ile]
      · rw [if_neg hp30] at hx31
        have hp30b : v29 = true := by simpa [ieq, ilt, ile] using hp30
        have hp30s := hp30b
        try simp at hp30s
        cases hx31
        refine VW.ws tau_ok (Sound.none.add 77 (l_eqInt64S_ok hv29) rfl) [some 72, some 73, some 74, some 75, some 76, some 77, some 78, some 79, some 80, some 81, some 82, some 83, some 84] _ rfl ?_ hy
        simp [hp28b, hp28s, hp30b, hp30s] <;> simp [ieq, ilt, ile]
  refine VW.cond rfl (fun hb32 => ?_) (fun hb32 => ?_)
  ·
    replace hb32 : x31 = true := by simpa [ieq, ilt, ile] using hb32
    rw [if_pos hb32] at h
    -- region 21
    refine VW.ws tau_ok Sound.none [some 6] [(6, .val (.bool false))] rfl ?_ ?_
    · simp <;> simp [ieq, ilt, ile]
    cases h
    refine VW.ret ?_
    simp [Post, PostM, PostC, PostC2, Nx, Bk]
  replace hb32 : ¬ (x31 = true) := by simpa [ieq, ilt, ile] using hb32
  rw [if_neg hb32] at h
  refine VW.skip ?_
  refine hK27 _ ?_
  -- region 22
  refine VW.ws tau_ok Sound.none [some 15] [(0, .val (i64 a0)), (1, .val (dM a1)), (2, .val (dI a2)), (8, .ref 8 [] true (dI v8.1)), (9, .val (i64 v8.2)), (12, .ref 12 [] true (dI v11.1)), (15, .val (i64 1))] rfl ?_ ?_
  · simp <;> simp [ieq, ilt, ile]
  -- region 23
  obtain ⟨v33, hv33, h⟩ := bind_some h
  refine VW.ws tau_ok (Sound.none.mutc 87 (l_markInt64S_ok hv33)) [some 85, some 86, some 87, some 15] [(0, .val (i64 a0)), (1, .val (dM a1)), (2, .val (dI a2)), (8, .ref 8 [] true (dI v8.1)), (9, .val (i64 v8.2)), (12, .ref 12 [] true (dI v33.2)), (15, .val (i64 v33.1))] rfl ?_ ?_
  · simp <;> simp [ieq, ilt, ile]
  -- region 24
  refine VW.ws tau_ok Sound.none [some 16] [(0, .val (i64 a0)), (1, .val (dM a1)), (2, .val (dI a2)), (8, .ref 8 [] true (dI v8.1)), (9, .val (i64 v8.2)), (12, .ref 12 [] true (dI v33.2)), (15, .val (i64 v33.1)), (16, .val (i64 1))] rfl ?_ ?_
  · simp <;> simp [ieq, ilt, ile]
  -- region 25
  obtain ⟨v34, hv34, h⟩ := bind_some h
  refine VW.ws tau_ok (Sound.none.add 90 (l_heldInt64S_ok hv34) rfl) [some 88, some 89, some 90, some 16] [(0, .val (i64 a0)), (1, .val (dM a1)), (2, .val (dI a2)), (8, .ref 8 [] true (dI v8.1)), (9, .val (i64 v8.2)), (12, .ref 12 [] true (dI v33.2)), (15, .val (i64 v33.1)), (16, .val (i64 v34))] rfl ?_ ?_
  · simp <;> simp [ieq, ilt, ile]
  refine VW.sqc fun K35 hK35 hCK35 => ?_
  -- region 26
  refine VW.ws tau_ok Sound.none [some 91, some 92] [(0, .val (i64 a0)), (1, .val (dM a1)), (2, .val (dI a2)), (8, .ref 8 [] true (dI v8.1)), (9, .val (i64 v8.2)), (12, .ref 12 [] true (dI v33.2)), (15, .val (i64 v33.1)), (16, .val (i64 v34)), (92, .val (.bool (ilt v34 0)))] rfl ?_ ?_
  · simp <;> simp [ieq, ilt, ile]
  refine VW.cond rfl (fun hb36 => ?_) (fun hb36 => ?_)
  ·
    replace hb36 : v34 < 0 := by simpa [ieq, ilt, ile] using hb36
    rw [if_pos hb36] at h
    -- region 27
    refine VW.ws tau_ok Sound.none [some 6] [(6, .val (.bool false))] rfl ?_ ?_
    · simp <;> simp [ieq, ilt, ile]
    cases h
    refine VW.ret ?_
    simp [Post, PostM, PostC, PostC2, Nx, Bk]
  replace hb36 : ¬ (v34 < 0) := by simpa [ieq, ilt, ile] using hb36
  rw [if_neg hb36] at h
  refine VW.skip ?_
  refine hK35 _ ?_
  refine VW.sqc fun K37 hK37 hCK37 => ?_
  -- region 28
  refine VW.ws tau_ok Sound.none [some 93, some 94, some 95] [(0, .val (i64 a0)), (1, .val (dM a1)), (2, .val (dI a2)), (8, .ref 8 [] true (dI v8.1)), (9, .val (i64 v8.2)), (12, .ref 12 [] true (dI v33.2)), (15, .val (i64 v33.1)), (95, .val (.bool (!(ieq v34 v33.1))))] rfl ?_ ?_
  · simp <;> simp [ieq, ilt, ile]
  refine VW.cond rfl (fun hb38 => ?_) (fun hb38 => ?_)
  ·
    replace hb38 : ¬ v34 = v33.1 := by simpa [ieq, ilt, ile] using hb38
    rw [if_pos hb38] at h
    -- region 29
    refine VW.ws tau_ok Sound.none [some 6] [(6, .val (.bool false))] rfl ?_ ?_
    · simp <;> simp [ieq, ilt, ile]
    cases h
    refine VW.ret ?_
    simp [Post, PostM, PostC, PostC2, Nx, Bk]
  replace hb38 : ¬ (¬ v34 = v33.1) := by simpa [ieq, ilt, ile] using hb38
  rw [if_neg hb38] at h
  refine VW.skip ?_
  refine hK37 _ ?_
  -- region 30
  obtain ⟨v39, hv39, h⟩ := bind_some h
  obtain ⟨v40, hv40, h⟩ := bind_some h
  obtain ⟨v41, hv41, h⟩ := bind_some h
  refine VW.ws tau_ok (((Sound.none.add 99 (l_toInt64SS_ok hv39) rfl).add 101 (l_toInt64S_ok hv40) rfl).add 102 (i_ApplyMatrix_ok hv41) rfl) [some 97, some 98, some 99, some 100, some 101, some 102, some 96, some 103, some 104, some 17, some 18] [(8, .ref 8 [] true (dI v8.1)), (9, .val (i64 v8.2)), (12, .ref 12 [] true (dI v33.2)), (15, .val (i64 v33.1)), (17, .ref 17 [] true (dI v41.1)), (18, .val (i64 v41.2))] rfl ?_ ?_
  · simp <;> simp [ieq, ilt, ile]
  refine VW.sqc fun K42 hK42 hCK42 => ?_
  -- region 31
  obtain ⟨x45, hx45, h⟩ := bind_some h
  refine VW.cut [(12, .ref 12 [] true (dI v33.2)), (15, .val (i64 v33.1)), (113, .val (.bool x45))] ?_ fun hy => ?_
  rotate_left
  · clear h
    obtain ⟨v43, hv43, hx45⟩ := bind_some hx45
    by_cases hp44 : v43 = false
    · rw [if_pos hp44] at hx45
      have hp44b : v43 = false := by simpa [ieq, ilt, ile] using hp44
      have hp44s := hp44b
      try simp at hp44s
      cases hx45
      refine VW.ws tau_ok (Sound.none.add 107 (l_eqInt64S_ok hv43) rfl) [some 105, some 106, some 107, some 108, some 109, some 110, some 111, some 112, some 113] _ rfl ?_ hy
      simp [hp44b, hp44s] <;> simp [ieq, ilt, ile]
    · rw [if_neg hp44] at hx45
      have hp44b : v43 = true := by simpa [ieq, ilt, ile] using hp44
      have hp44s := hp44b
      try simp at hp44s
      cases hx45
      refine VW.ws tau_ok (Sound.none.add 107 (l_eqInt64S_ok hv43) rfl) [some 105, some 106, some 107, some 108, some 109, some 110, some 111, some 112, some 113] _ rfl ?_ hy
      simp [hp44b, hp44s] <;> simp [ieq, ilt, ile]
  refine VW.cond rfl (fun hb46 => ?_) (fun hb46 => ?_)
  ·
    replace hb46 : x45 = true := by simpa [ieq, ilt, ile] using hb46
    rw [if_pos hb46] at h
    -- region 32
    refine VW.ws tau_ok Sound.none [some 6] [(6, .val (.bool false))] rfl ?_ ?_
    · simp <;> simp [ieq, ilt, ile]
    cases h
    refine VW.ret ?_
    simp [Post, PostM, PostC, PostC2, Nx, Bk]
  replace hb46 : ¬ (x45 = true) := by simpa [ieq, ilt, ile] using hb46
  rw [if_neg hb46] at h
  refine VW.skip ?_
  refine hK42 _ ?_
  -- region 33
  refine VW.ws tau_ok Sound.none [some 16] [(12, .ref 12 [] true (dI v33.2)), (15, .val (i64 v33.1)), (16, .val (i64 1))] rfl ?_ ?_
  · simp <;> simp [ieq, ilt, ile]
  -- region 34
  obtain ⟨v47, hv47, h⟩ := bind_some h
  refine VW.ws tau_ok (Sound.none.add 116 (l_heldInt64S_ok hv47) rfl) [some 114, some 115, some 116, some 16] [(15, .val (i64 v33.1)), (16, .val (i64 v47))] rfl ?_ ?_
  · simp <;> simp [ieq, ilt, ile]
  refine VW.sqc fun K48 hK48 hCK48 => ?_
  -- region 35
  refine VW.ws tau_ok Sound.none [some 117, some 118] [(15, .val (i64 v33.1)), (16, .val (i64 v47)), (118, .val (.bool (ilt v47 0)))] rfl ?_ ?_
  · simp <;> simp [ieq, ilt, ile]
  refine VW.cond rfl (fun hb49 => ?_) (fun hb49 => ?_)
  ·
    replace hb49 : v47 < 0 := by simpa [ieq, ilt, ile] using hb49
    rw [if_pos hb49] at h
    -- region 36
    refine VW.ws tau_ok Sound.none [some 6] [(6, .val (.bool false))] rfl ?_ ?_
    · simp <;> simp [ieq, ilt, ile]
    cases h
    refine VW.ret ?_
    simp [Post, PostM, PostC, PostC2, Nx, Bk]
  replace hb49 : ¬ (v47 < 0) := by simpa [ieq, ilt, ile] using hb49
  rw [if_neg hb49] at h
  refine VW.skip ?_
  refine hK48 _ ?_
  refine VW.sqc fun K50 hK50 hCK50 => ?_
  -- region 37
  refine VW.ws tau_ok Sound.none [some 119, some 120, some 121] [(121, .val (.bool (!(ieq v47 v33.1))))] rfl ?_ ?_
  · simp <;> simp [ieq, ilt, ile]
  refine VW.cond rfl (fun hb51 => ?_) (fun hb51 => ?_)
  ·
    replace hb51 : ¬ v47 = v33.1 := by simpa [ieq, ilt, ile] using hb51
    rw [if_pos hb51] at h
    -- region 38
    refine VW.ws tau_ok Sound.none [some 6] [(6, .val (.bool false))] rfl ?_ ?_
    · simp <;> simp [ieq, ilt, ile]
    cases h
    refine VW.ret ?_
    simp [Post, PostM, PostC, PostC2, Nx, Bk]
  replace hb51 : ¬ (¬ v47 = v33.1) := by simpa [ieq, ilt, ile] using hb51
  rw [if_neg hb51] at h
  refine VW.skip ?_
  refine hK50 _ ?_
  -- region 39
  refine VW.ws tau_ok Sound.none [some 6] [(6, .val (.bool true))] rfl ?_ ?_
  · simp <;> simp [ieq, ilt, ile]
  cases h
  refine VW.ret ?_
  simp [Post, PostM, PostC, PostC2, Nx, Bk]

theorem s_l02Plus_ok {a0 : Int} {a1 : List Int} {a2 : List Int} {a3 : Int} {r : List Int} (h : s_l02Plus a0 a1 a2 a3 = some r) :
    VCall Try.prog 44 [i64 a0, dI a1, dI a2, i64 a3] [.own true (dI r)] := by
  unfold s_l02Plus at h
  refine VCall.enter Try.call44 Try.func44 rfl 35 Try.ntmps44 (by simp) [.tmp 8] rfl ?_
  show VW _ _ _ (mk [(0, .val (i64 a0)), (1, .val (dI a1)), (2, .val (dI a2)), (3, .val (i64 a3))]) _
  -- region 0
  refine VW.ws tau_ok Sound.none [some 8] [(0, .val (i64 a0)), (1, .val (dI a1)), (2, .val (dI a2)), (3, .val (i64 a3))] rfl ?_ ?_
  · simp <;> simp [ieq, ilt, ile]
  -- region 1
  refine VW.ws tau_ok Sound.none [some 11, some 9] [(0, .val (i64 a0)), (1, .val (dI a1)), (2, .val (dI a2)), (3, .val (i64 a3)), (9, .ref 9 [] true (dI []))] rfl ?_ ?_
  · simp <;> simp [ieq, ilt, ile]
  refine VW.sqc fun K1 hK1 hCK1 => ?_
  -- region 2
  refine VW.ws tau_ok Sound.none [some 10] [(0, .val (i64 a0)), (1, .val (dI a1)), (2, .val (dI a2)), (3, .val (i64 a3)), (9, .ref 9 [] true (dI [])), (10, .val (i64 0))] rfl ?_ ?_
  · simp <;> simp [ieq, ilt, ile]
  obtain ⟨x2, hx2, h⟩ := bind_some h
  refine VW.tlE [(9, .ref 9 [] true (dI x2))] (hCK1) ?_ ?_
  · clear hx2
    refine hK1 _ ?_
    -- region 6
    refine VW.ws tau_ok Sound.none [some 34, some 8] [(8, .ref 8 [] true (dI x2))] rfl ?_ ?_
    · simp <;> simp [ieq, ilt, ile]
    cases h
    refine VW.ret ?_
    simp [Post, PostM, PostC, PostC2, Nx, Bk]
  refine VW.block ?_
  refine VW.loopF (s_l02Plus_L0 a0 a1 a2 a3) (fun s2 => [(0, .val (i64 a0)), (1, .val (dI a1)), (2, .val (dI a2)), (3, .val (i64 a3)), (9, .ref 9 [] true (dI s2.1)), (10, .val (i64 s2.2))]) hx2 (Fits.of rfl) ?_
  clear hx2
  intro s2 ox2 hx2o hx2b
  unfold s_l02Plus_L0 at hx2o
  refine VW.sqc fun K4 hK4 hCK4 => ?_
  -- region 3
  refine VW.ws tau_ok Sound.none [some 12, some 13, some 14, some 15] [(0, .val (i64 a0)), (1, .val (dI a1)), (2, .val (dI a2)), (3, .val (i64 a3)), (9, .ref 9 [] true (dI s2.1)), (10, .val (i64 s2.2)), (15, .val (.bool (ilt s2.2 (a1.length : Int))))] rfl ?_ ?_
  · simp <;> simp [ieq, ilt, ile]
  refine VW.cond rfl (fun hb5 => ?_) (fun hb5 => ?_)
  rotate_left
  ·
    replace hb5 : ¬ (s2.2 < (a1.length : Int)) := by simpa [ieq, ilt, ile] using hb5
    rw [if_neg hb5] at hx2o
    refine VW.exit ?_
    cases hx2o
    have hq := hx2b _ rfl
    subst hq
    exact Fits.of rfl
  replace hb5 : s2.2 < (a1.length : Int) := by simpa [ieq, ilt, ile] using hb5
  rw [if_pos hb5] at hx2o
  refine VW.skip ?_
  refine hK4 _ ?_
  refine VW.sqc fun K6 hK6 hCK6 => ?_
  refine VW.block ?_
  -- region 5
  obtain ⟨v7, hv7, hx2o⟩ := bind_some hx2o
  obtain ⟨hv7a, hv7b, hv7c, hv7d⟩ := idx_some hv7
  obtain ⟨v8, hv8, hx2o⟩ := bind_some hx2o
  obtain ⟨hv8a, hv8b, hv8c, hv8d⟩ := idx_some hv8
  obtain ⟨hc9, hx2o⟩ := chk_some hx2o
  have hc9s := hc9
  try simp at hc9s
  obtain ⟨hc10, hx2o⟩ := chk_some hx2o
  have hc10s := hc10
  try simp at hc10s
  refine VW.wdr tau_ok Sound.none try_mixed [some 18, some 19, some 20, some 21, some 22, some 23, some 24, some 25, some 26, some 27, some 28, some 29, some 30, some 31, some 32, some 33, some 9] [(0, .val (i64 a0)), (1, .val (dI a1)), (2, .val (dI a2)), (3, .val (i64 a3)), (9, .ref 9 [] true (dI (s2.1 ++ [(w64 (v7 + (w64 (a3 * v8)))).tmod a0]))), (10, .val (i64 s2.2))] 15 rfl (by kernel_rfl) (by rfl) ?_ ?_
  · simp [hv7a, hv7b, hv7c, hv7d, hv8a, hv8b, hv8c, hv8d, hc9, hc9s, hc10, hc10s] <;> simp [ieq, ilt, ile]
  refine hK6 _ ?_
  -- region 4
  refine VW.wr tau_ok Sound.none [some 16, some 17, some 10] [(0, .val (i64 a0)), (1, .val (dI a1)), (2, .val (dI a2)), (3, .val (i64 a3)), (9, .ref 9 [] true (dI (s2.1 ++ [(w64 (v7 + (w64 (a3 * v8)))).tmod a0]))), (10, .val (i64 (w64 (s2.2 + 1))))] rfl ?_ ?_
  · simp <;> simp [ieq, ilt, ile]
  cases hx2o
  exact ⟨_, rfl, Fits.of rfl⟩

theorem s_AddMatrices_ok {a0 : Int} {a1 : List (List Int)} {a2 : List (List Int)} {r : (List (List Int)) × Int} (h : s_AddMatrices a0 a1 a2 = some r) :
    VCall Try.prog 26 [i64 a0, dM a1, dM a2] [.own true (dM r.1), .sc (i64 r.2)] := by
  unfold s_AddMatrices at h
  refine VCall.enter Try.call26 Try.func26 rfl 57 Try.ntmps26 (by simp) [.tmp 6, .tmp 7] rfl ?_
  show VW _ _ _ (mk [(0, .val (i64 a0)), (1, .val (dM a1)), (2, .val (dM a2))]) _
  -- region 0
  refine VW.ws tau_ok Sound.none [some 6, some 7] [(0, .val (i64 a0)), (1, .val (dM a1)), (2, .val (dM a2))] rfl ?_ ?_
  · simp <;> simp [ieq, ilt, ile]
  refine VW.sqc fun K1 hK1 hCK1 => ?_
  -- region 1
  obtain ⟨x5, hx5, h⟩ := bind_some h
  refine VW.cut [(0, .val (i64 a0)), (1, .val (dM a1)), (2, .val (dM a2)), (19, .val (.bool x5))] ?_ fun hy => ?_
  rotate_left
  · clear h
    obtain ⟨v2, hv2, hx5⟩ := bind_some hx5
    by_cases hp3 : v2 = false
    · rw [if_pos hp3] at hx5
      have hp3b : v2 = false := by simpa [ieq, ilt, ile] using hp3
      have hp3s := hp3b
      try simp at hp3s
      cases hx5
      refine VW.ws tau_ok (Sound.none.add 12 (s_l02Is_ok hv2) rfl) [some 10, some 11, some 12, some 13, some 14, some 15, some 16, some 17, some 18, some 19] _ rfl ?_ hy
      simp [hp3b, hp3s] <;> simp [ieq, ilt, ile]
    · rw [if_neg hp3] at hx5
      have hp3b : v2 = true := by simpa [ieq, ilt, ile] using hp3
      have hp3s := hp3b
      try simp at hp3s
      obtain ⟨v4, hv4, hx5⟩ := bind_some hx5
      cases hx5
      refine VW.ws tau_ok ((Sound.none.add 12 (s_l02Is_ok hv2) rfl).add 17 (s_l02Is_ok hv4) rfl) [some 10, some 11, some 12, some 13, some 14, some 15, some 16, some 17, some 18, some 19] _ rfl ?_ hy
      simp [hp3b, hp3s] <;> simp [ieq, ilt, ile]
  refine VW.cond rfl (fun hb6 => ?_) (fun hb6 => ?_)
  ·
    replace hb6 : x5 = true := by simpa [ieq, ilt, ile] using hb6
    rw [if_pos hb6] at h
    -- region 2
    refine VW.ws tau_ok Sound.none [some 6, some 7] [(6, .ref 6 [] true (.list [])), (7, .val (i64 1))] rfl ?_ ?_
    · simp <;> simp [ieq, ilt, ile]
    cases h
    refine VW.ret ?_
    simp [Post, PostM, PostC, PostC2, Nx, Bk]
  replace hb6 : ¬ (x5 = true) := by simpa [ieq, ilt, ile] using hb6
  rw [if_neg hb6] at h
  refine VW.skip ?_
  refine hK1 _ ?_
  refine VW.sqc fun K7 hK7 hCK7 => ?_
  -- region 3
  obtain ⟨x11, hx11, h⟩ := bind_some h
  refine VW.cut [(0, .val (i64 a0)), (1, .val (dM a1)), (2, .val (dM a2)), (35, .val (.bool x11))] ?_ fun hy => ?_
  rotate_left
  · clear h
    by_cases hp8 : ¬ (a1.length : Int) = (a2.length : Int)
    · rw [if_pos hp8] at hx11
      have hp8b : ieq (a1.length : Int) (a2.length : Int) = false := by simpa [ieq, ilt, ile] using hp8
      have hp8s := hp8b
      try simp at hp8s
      cases hx11
      refine VW.wds tau_ok Sound.none try_mixed [some 20, some 21, some 22, some 23, some 24, some 25, some 26, some 27, some 28, some 29, some 30, some 31, some 32, some 33, some 34, some 35] _ 16 rfl (by kernel_rfl) (by rfl) ?_ hy
      simp [hp8b, hp8s] <;> simp [ieq, ilt, ile]
    · rw [if_neg hp8] at hx11
      have hp8b : ieq (a1.length : Int) (a2.length : Int) = true := by simpa [ieq, ilt, ile] using hp8
      have hp8s := hp8b
      try simp at hp8s
      obtain ⟨v9, hv9, hx11⟩ := bind_some hx11
      obtain ⟨hv9a, hv9b, hv9c, hv9d⟩ := idx_some hv9
      replace hv9b : 0 < a1.length := hv9b
      replace hv9c : a1[0]? = some v9 := hv9c
      replace hv9d : ∀ h, a1[0]'h = v9 := hv9d
      obtain ⟨v10, hv10, hx11⟩ := bind_some hx11
      obtain ⟨hv10a, hv10b, hv10c, hv10d⟩ := idx_some hv10
      replace hv10b : 0 < a2.length := hv10b
      replace hv10c : a2[0]? = some v10 := hv10c
      replace hv10d : ∀ h, a2[0]'h = v10 := hv10d
      cases hx11
      refine VW.wds tau_ok Sound.none try_mixed [some 20, some 21, some 22, some 23, some 24, some 25, some 26, some 27, some 28, some 29, some 30, some 31, some 32, some 33, some 34, some 35] _ 16 rfl (by kernel_rfl) (by rfl) ?_ hy
      simp [hp8b, hp8s, hv9a, hv9b, hv9c, hv9d, hv10a, hv10b, hv10c, hv10d] <;> simp [ieq, ilt, ile]
  refine VW.cond rfl (fun hb12 => ?_) (fun hb12 => ?_)
  ·
    replace hb12 : x11 = true := by simpa [ieq, ilt, ile] using hb12
    rw [if_pos hb12] at h
    -- region 4
    refine VW.ws tau_ok Sound.none [some 6, some 7] [(6, .ref 6 [] true (.list [])), (7, .val (i64 2))] rfl ?_ ?_
    · simp <;> simp [ieq, ilt, ile]
    cases h
    refine VW.ret ?_
    simp [Post, PostM, PostC, PostC2, Nx, Bk]
  replace hb12 : ¬ (x11 = true) := by simpa [ieq, ilt, ile] using hb12
  rw [if_neg hb12] at h
  refine VW.skip ?_
  refine hK7 _ ?_
  -- region 5
  refine VW.ws tau_ok Sound.none [some 36, some 8] [(0, .val (i64 a0)), (1, .val (dM a1)), (2, .val (dM a2)), (8, .ref 8 [] true (dM []))] rfl ?_ ?_
  · simp <;> simp [ieq, ilt, ile]
  refine VW.sqc fun K13 hK13 hCK13 => ?_
  -- region 6
  refine VW.ws tau_ok Sound.none [some 9] [(0, .val (i64 a0)), (1, .val (dM a1)), (2, .val (dM a2)), (8, .ref 8 [] true (dM [])), (9, .val (i64 0))] rfl ?_ ?_
  · simp <;> simp [ieq, ilt, ile]
  obtain ⟨x14, hx14, h⟩ := bind_some h
  refine VW.tlE [(8, .ref 8 [] true (dM x14))] (hCK13) ?_ ?_
  · clear hx14
    refine hK13 _ ?_
    -- region 10
    refine VW.ws tau_ok Sound.none [some 56, some 6, some 7] [(6, .ref 6 [] true (dM x14)), (7, .val (i64 0))] rfl ?_ ?_
    · simp <;> simp [ieq, ilt, ile]
    cases h
    refine VW.ret ?_
    simp [Post, PostM, PostC, PostC2, Nx, Bk]
  refine VW.block ?_
  refine VW.loopF (s_AddMatrices_L0 a0 a1 a2) (fun s14 => [(0, .val (i64 a0)), (1, .val (dM a1)), (2, .val (dM a2)), (8, .ref 8 [] true (dM s14.1)), (9, .val (i64 s14.2))]) hx14 (Fits.of rfl) ?_
  clear hx14
  intro s14 ox14 hx14o hx14b
  unfold s_AddMatrices_L0 at hx14o
  refine VW.sqc fun K16 hK16 hCK16 => ?_
  -- region 7
  refine VW.ws tau_ok Sound.none [some 37, some 38, some 39, some 40] [(0, .val (i64 a0)), (1, .val (dM a1)), (2, .val (dM a2)), (8, .ref 8 [] true (dM s14.1)), (9, .val (i64 s14.2)), (40, .val (.bool (ilt s14.2 (a1.length : Int))))] rfl ?_ ?_
  · simp <;> simp [ieq, ilt, ile]
  refine VW.cond rfl (fun hb17 => ?_) (fun hb17 => ?_)
  rotate_left
  ·
    replace hb17 : ¬ (s14.2 < (a1.length : Int)) := by simpa [ieq, ilt, ile] using hb17
    rw [if_neg hb17] at hx14o
    refine VW.exit ?_
    cases hx14o
    have hq := hx14b _ rfl
    subst hq
    exact Fits.of rfl
  replace hb17 : s14.2 < (a1.length : Int) := by simpa [ieq, ilt, ile] using hb17
  rw [if_pos hb17] at hx14o
  refine VW.skip ?_
  refine hK16 _ ?_
  refine VW.sqc fun K18 hK18 hCK18 => ?_
  refine VW.block ?_
  -- region 9
  obtain ⟨v19, hv19, hx14o⟩ := bind_some hx14o
  obtain ⟨hv19a, hv19b, hv19c, hv19d⟩ := idx_some hv19
  obtain ⟨v20, hv20, hx14o⟩ := bind_some hx14o
  obtain ⟨hv20a, hv20b, hv20c, hv20d⟩ := idx_some hv20
  obtain ⟨v21, hv21, hx14o⟩ := bind_some hx14o
  obtain ⟨hc22, hx14o⟩ := chk_some hx14o
  have hc22s := hc22
  try simp at hc22s
  refine VW.wdr tau_ok (Sound.none.add 53 (s_l02Plus_ok hv21) rfl) try_mixed [some 43, some 44, some 45, some 46, some 47, some 48, some 49, some 50, some 51, some 52, some 53, some 54, some 55, some 8] [(0, .val (i64 a0)), (1, .val (dM a1)), (2, .val (dM a2)), (8, .ref 8 [] true (dM (s14.1 ++ [v21]))), (9, .val (i64 s14.2))] 11 rfl (by kernel_rfl) (by rfl) ?_ ?_
  · simp [hv19a, hv19b, hv19c, hv19d, hv20a, hv20b, hv20c, hv20d, hc22, hc22s] <;> simp [ieq, ilt, ile]
  refine hK18 _ ?_
  -- region 8
  refine VW.wr tau_ok Sound.none [some 41, some 42, some 9] [(0, .val (i64 a0)), (1, .val (dM a1)), (2, .val (dM a2)), (8, .ref 8 [] true (dM (s14.1 ++ [v21]))), (9, .val (i64 (w64 (s14.2 + 1))))] rfl ?_ ?_
  · simp <;> simp [ieq, ilt, ile]
  cases hx14o
  exact ⟨_, rfl, Fits.of rfl⟩
end Go.Vam
