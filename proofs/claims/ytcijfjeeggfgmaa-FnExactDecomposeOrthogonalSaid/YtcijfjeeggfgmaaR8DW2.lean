import Derived.Test.YtcijfjeeggfgmaaR8T
import Derived.Test.YtcijfjeeggfgmaaFmG0
import Derived.Test.YtcijfjeeggfgmaaR8DW1
namespace Go.Vam
open Go Go.RowKit Go.Proofs
set_option maxRecDepth 100000
set_option linter.unusedSimpArgs false
set_option linter.unusedVariables false

theorem g_slices_Index_LI_I_ok {a0 : List Int} {a1 : Int} {r : Int} (h : g_slices_Index_LI_I a0 a1 = some r) :
    VCall Try.prog 141 [dI a0, i64 a1] [.sc (i64 r)] := by
  unfold g_slices_Index_LI_I at h
  refine VCall.enter Try.call141 Try.func141 rfl 19 Try.ntmps141 (by simp) [.tmp 4] rfl ?_
  show VW _ _ _ (mk [(0, .val (dI a0)), (1, .val (i64 a1))]) _
  -- region 0
  refine VW.ws tau_ok Sound.none [some 4] [(0, .val (dI a0)), (1, .val (i64 a1))] rfl ?_ ?_
  · simp <;> simp [ieq, ilt, ile]
  refine VW.sqc fun K1 hK1 hCK1 => ?_
  -- region 1
  refine VW.ws tau_ok Sound.none [some 6, some 7, some 8] [(0, .val (dI a0)), (1, .val (i64 a1)), (7, .val (i64 (a0.length : Int))), (8, .val (i64 0))] rfl ?_ ?_
  · simp <;> simp [ieq, ilt, ile]
  obtain ⟨x2, hx2, h⟩ := bind_some h
  refine VW.tlO (fun y4 => []) x2 (hCK1) ?_ ?_
  · clear hx2
    rintro y4 rfl
    dsimp only at h
    refine hK1 _ ?_
    -- region 7
    refine VW.ws tau_ok Sound.none [some 4] [(4, .val (i64 (-1)))] rfl ?_ ?_
    · simp <;> simp [ieq, ilt, ile]
    cases h
    refine VW.ret ?_
    simp [Post, PostM, PostC, PostC2, Nx, Bk]
  refine VW.block ?_
  refine VW.loopF (g_slices_Index_LI_I_L0 a0 a1) (fun s2 => [(0, .val (dI a0)), (1, .val (i64 a1)), (7, .val (i64 (a0.length : Int))), (8, .val (i64 s2))]) hx2 (Fits.of rfl) ?_
  clear hx2
  intro s2 ox2 hx2o hx2b
  unfold g_slices_Index_LI_I_L0 at hx2o
  -- region 2
  refine VW.ws tau_ok Sound.none [some 9] [(0, .val (dI a0)), (1, .val (i64 a1)), (7, .val (i64 (a0.length : Int))), (8, .val (i64 s2)), (9, .val (.bool (ilt s2 (a0.length : Int))))] rfl ?_ ?_
  · simp <;> simp [ieq, ilt, ile]
  refine VW.sqc fun K5 hK5 hCK5 => ?_
  refine VW.cond rfl (fun hb6 => ?_) (fun hb6 => ?_)
  rotate_left
  ·
    replace hb6 : ¬ (s2 < (a0.length : Int)) := by simpa [ieq, ilt, ile] using hb6
    rw [if_neg hb6] at hx2o
    refine VW.exit ?_
    cases hx2o
    have hq := hx2b _ rfl
    subst hq
    exact ⟨_, rfl, Fits.of rfl⟩
  replace hb6 : s2 < (a0.length : Int) := by simpa [ieq, ilt, ile] using hb6
  rw [if_pos hb6] at hx2o
  refine VW.skip ?_
  refine hK5 _ ?_
  refine VW.sqc fun K7 hK7 hCK7 => ?_
  refine VW.block ?_
  -- region 3
  refine VW.ws tau_ok Sound.none [some 10, some 5] [(0, .val (dI a0)), (1, .val (i64 a1)), (5, .val (i64 s2)), (7, .val (i64 (a0.length : Int))), (8, .val (i64 s2))] rfl ?_ ?_
  · simp <;> simp [ieq, ilt, ile]
  -- region 4
  obtain ⟨v8, hv8, hx2o⟩ := bind_some hx2o
  obtain ⟨hv8a, hv8b, hv8c, hv8d⟩ := idx_some hv8
  refine VW.ws tau_ok Sound.none [some 11, some 12, some 13, some 14, some 15, some 16] [(0, .val (dI a0)), (1, .val (i64 a1)), (5, .val (i64 s2)), (7, .val (i64 (a0.length : Int))), (8, .val (i64 s2)), (16, .val (.bool (ieq a1 v8)))] rfl ?_ ?_
  · simp [hv8a, hv8b, hv8c, hv8d] <;> simp [ieq, ilt, ile]
  refine VW.cond rfl (fun hb9 => ?_) (fun hb9 => ?_)
  rotate_left
  ·
    replace hb9 : ¬ (a1 = v8) := by simpa [ieq, ilt, ile] using hb9
    rw [if_neg hb9] at hx2o
    refine VW.skip ?_
    refine hK7 _ ?_
    -- region 6
    refine VW.wr tau_ok Sound.none [some 18, some 8] [(0, .val (dI a0)), (1, .val (i64 a1)), (7, .val (i64 (a0.length : Int))), (8, .val (i64 (w64 (s2 + 1))))] rfl ?_ ?_
    · simp <;> simp [ieq, ilt, ile]
    cases hx2o
    exact ⟨_, rfl, Fits.of rfl⟩
  replace hb9 : a1 = v8 := by simpa [ieq, ilt, ile] using hb9
  rw [if_pos hb9] at hx2o
  -- region 5
  refine VW.ws tau_ok Sound.none [some 17, some 4] [(4, .val (i64 s2))] rfl ?_ ?_
  · simp <;> simp [ieq, ilt, ile]
  cases hx2o
  have hq := hx2b _ rfl
  subst hq
  dsimp only at h
  cases h
  refine VW.ret ?_
  simp [Post, PostM, PostC, PostC2, Nx, Bk]

theorem g_slices_Contains_LI_I_ok {a0 : List Int} {a1 : Int} {r : Bool} (h : g_slices_Contains_LI_I a0 a1 = some r) :
    VCall Try.prog 193 [dI a0, i64 a1] [.sc (.bool r)] := by
  unfold g_slices_Contains_LI_I at h
  refine VCall.enter Try.call193 Try.func193 rfl 9 Try.ntmps193 (by simp) [.tmp 4] rfl ?_
  show VW _ _ _ (mk [(0, .val (dI a0)), (1, .val (i64 a1))]) _
  -- region 0
  refine VW.ws tau_ok Sound.none [some 4] [(0, .val (dI a0)), (1, .val (i64 a1))] rfl ?_ ?_
  · simp <;> simp [ieq, ilt, ile]
  -- region 1
  obtain ⟨v1, hv1, h⟩ := bind_some h
  refine VW.ws tau_ok (Sound.none.add 7 (g_slices_Index_LI_I_ok hv1) rfl) [some 5, some 6, some 7, some 8, some 4] [(4, .val (.bool (ile 0 v1)))] rfl ?_ ?_
  · simp <;> simp [ieq, ilt, ile]
  cases h
  refine VW.ret ?_
  simp [Post, PostM, PostC, PostC2, Nx, Bk]

theorem i_Space_regular_ok {a0_0 : Int} {a0_1 : List Int} {r : Bool} (h : i_Space_regular a0_0 a0_1 = some r) :
    VCall Try.prog 164 [.agg [i64 a0_0, dI a0_1]] [.sc (.bool r)] := by
  unfold i_Space_regular at h
  refine VCall.enter Try.call164 Try.func164 rfl 7 Try.ntmps164 (by simp) [.tmp 2] rfl ?_
  show VW _ _ _ (mk [(0, .val (.agg [i64 a0_0, dI a0_1]))]) _
  -- region 0
  refine VW.ws tau_ok Sound.none [some 1, some 2] [(1, .val (.ptr [i64 a0_0, dI a0_1]))] rfl ?_ ?_
  · simp <;> simp [ieq, ilt, ile]
  -- region 1
  obtain ⟨v1, hv1, h⟩ := bind_some h
  refine VW.ws tau_ok (Sound.none.add 5 (g_slices_Contains_LI_I_ok hv1) rfl) [some 3, some 4, some 5, some 6, some 2] [(2, .val (.bool (!v1)))] rfl ?_ ?_
  · simp <;> simp [ieq, ilt, ile]
  cases h
  refine VW.ret ?_
  simp [Post, PostM, PostC, PostC2, Nx, Bk]

theorem i_Space_dim_ok {a0_0 : Int} {a0_1 : List Int} {r : Int} (h : i_Space_dim a0_0 a0_1 = some r) :
    VCall Try.prog 175 [.agg [i64 a0_0, dI a0_1]] [.sc (i64 r)] := by
  unfold i_Space_dim at h
  refine VCall.enter Try.call175 Try.func175 rfl 6 Try.ntmps175 (by simp) [.tmp 2] rfl ?_
  show VW _ _ _ (mk [(0, .val (.agg [i64 a0_0, dI a0_1]))]) _
  -- region 0
  refine VW.ws tau_ok Sound.none [some 1, some 2] [(1, .val (.ptr [i64 a0_0, dI a0_1]))] rfl ?_ ?_
  · simp <;> simp [ieq, ilt, ile]
  -- region 1
  refine VW.ws tau_ok Sound.none [some 3, some 4, some 5, some 2] [(2, .val (i64 (a0_1.length : Int)))] rfl ?_ ?_
  · simp <;> simp [ieq, ilt, ile]
  cases h
  refine VW.ret ?_
  simp [Post, PostM, PostC, PostC2, Nx, Bk]

theorem i_field_isTable_ok {a0 : Int} {a1 : List (List Int)} {r : Bool} (h : i_field_isTable a0 a1 = some r) :
    VCall Try.prog 260 [i64 a0, dM a1] [.sc (.bool r)] := by
  unfold i_field_isTable at h
  refine VCall.enter Try.call260 Try.func260 rfl 40 Try.ntmps260 (by simp) [.tmp 4] rfl ?_
  show VW _ _ _ (mk [(0, .val (i64 a0)), (1, .val (dM a1))]) _
  -- region 0
  refine VW.ws tau_ok Sound.none [some 4] [(0, .val (i64 a0)), (1, .val (dM a1))] rfl ?_ ?_
  · simp <;> simp [ieq, ilt, ile]
  refine VW.sqc fun K1 hK1 hCK1 => ?_
  -- region 1
  refine VW.ws tau_ok Sound.none [some 7, some 8, some 9] [(0, .val (i64 a0)), (1, .val (dM a1)), (9, .val (.bool (ilt 16 (a1.length : Int))))] rfl ?_ ?_
  · simp <;> simp [ieq, ilt, ile]
  refine VW.cond rfl (fun hb2 => ?_) (fun hb2 => ?_)
  ·
    replace hb2 : 16 < (a1.length : Int) := by simpa [ieq, ilt, ile] using hb2
    rw [if_pos hb2] at h
    -- region 2
    refine VW.ws tau_ok Sound.none [some 4] [(4, .val (.bool false))] rfl ?_ ?_
    · simp <;> simp [ieq, ilt, ile]
    cases h
    refine VW.ret ?_
    simp [Post, PostM, PostC, PostC2, Nx, Bk]
  replace hb2 : ¬ (16 < (a1.length : Int)) := by simpa [ieq, ilt, ile] using hb2
  rw [if_neg hb2] at h
  refine VW.skip ?_
  refine hK1 _ ?_
  refine VW.sqc fun K3 hK3 hCK3 => ?_
  -- region 3
  refine VW.ws tau_ok Sound.none [some 10, some 11, some 12] [(0, .val (i64 a0)), (1, .val (dM a1)), (10, .val (dM a1)), (11, .val (i64 (a1.length : Int))), (12, .val (i64 0))] rfl ?_ ?_
  · simp <;> simp [ieq, ilt, ile]
  obtain ⟨x4, hx4, h⟩ := bind_some h
  refine VW.tlO (fun y6 => []) x4 (hCK3) ?_ ?_
  · clear hx4
    rintro y6 rfl
    dsimp only at h
    refine hK3 _ ?_
    -- region 9
    refine VW.ws tau_ok Sound.none [some 4] [(4, .val (.bool true))] rfl ?_ ?_
    · simp <;> simp [ieq, ilt, ile]
    cases h
    refine VW.ret ?_
    simp [Post, PostM, PostC, PostC2, Nx, Bk]
  refine VW.block ?_
  refine VW.loopF (i_field_isTable_L0 a0 a1) (fun s4 => [(0, .val (i64 a0)), (1, .val (dM a1)), (10, .val (dM a1)), (11, .val (i64 (a1.length : Int))), (12, .val (i64 s4))]) hx4 (Fits.of rfl) ?_
  clear hx4
  intro s4 ox4 hx4o hx4b
  unfold i_field_isTable_L0 at hx4o
  -- region 4
  refine VW.ws tau_ok Sound.none [some 13] [(0, .val (i64 a0)), (1, .val (dM a1)), (10, .val (dM a1)), (11, .val (i64 (a1.length : Int))), (12, .val (i64 s4)), (13, .val (.bool (ilt s4 (a1.length : Int))))] rfl ?_ ?_
  · simp <;> simp [ieq, ilt, ile]
  refine VW.sqc fun K7 hK7 hCK7 => ?_
  refine VW.cond rfl (fun hb8 => ?_) (fun hb8 => ?_)
  rotate_left
  ·
    replace hb8 : ¬ (s4 < (a1.length : Int)) := by simpa [ieq, ilt, ile] using hb8
    rw [if_neg hb8] at hx4o
    refine VW.exit ?_
    cases hx4o
    have hq := hx4b _ rfl
    subst hq
    exact ⟨_, rfl, Fits.of rfl⟩
  replace hb8 : s4 < (a1.length : Int) := by simpa [ieq, ilt, ile] using hb8
  rw [if_pos hb8] at hx4o
  refine VW.skip ?_
  refine hK7 _ ?_
  refine VW.sqc fun K9 hK9 hCK9 => ?_
  refine VW.block ?_
  -- region 5
  obtain ⟨v10, hv10, hx4o⟩ := bind_some hx4o
  obtain ⟨hv10a, hv10b, hv10c, hv10d⟩ := idx_some hv10
  refine VW.ws tau_ok Sound.none [some 14, some 15, some 6] [(0, .val (i64 a0)), (1, .val (dM a1)), (6, .val (dI v10)), (10, .val (dM a1)), (11, .val (i64 (a1.length : Int))), (12, .val (i64 s4))] rfl ?_ ?_
  · simp [hv10a, hv10b, hv10c, hv10d] <;> simp [ieq, ilt, ile]
  -- region 6
  obtain ⟨x16, hx16, hx4o⟩ := bind_some hx4o
  refine VW.cut [(0, .val (i64 a0)), (1, .val (dM a1)), (10, .val (dM a1)), (11, .val (i64 (a1.length : Int))), (12, .val (i64 s4)), (38, .val (.bool x16))] ?_ fun hy => ?_
  rotate_left
  · clear hx4o
    obtain ⟨v11, hv11, hx16⟩ := bind_some hx16
    obtain ⟨hv11a, hv11b, hv11c, hv11d⟩ := idx_some hv11
    replace hv11b : 0 < a1.length := hv11b
    replace hv11c : a1[0]? = some v11 := hv11c
    replace hv11d : ∀ h, a1[0]'h = v11 := hv11d
    by_cases hp12 : ¬ (v10.length : Int) = (v11.length : Int)
    · rw [if_pos hp12] at hx16
      have hp12b : ieq (v10.length : Int) (v11.length : Int) = false := by simpa [ieq, ilt, ile] using hp12
      have hp12s := hp12b
      try simp at hp12s
      cases hx16
      refine VW.ws tau_ok Sound.none [some 16, some 17, some 18, some 19, some 20, some 21, some 22, some 23, some 24, some 25, some 26, some 27, some 28, some 29, some 30, some 31, some 32, some 33, some 34, some 35, some 36, some 37, some 38] _ rfl ?_ hy
      simp [hv11a, hv11b, hv11c, hv11d, hp12b, hp12s] <;> simp [ieq, ilt, ile]
    · rw [if_neg hp12] at hx16
      have hp12b : ieq (v10.length : Int) (v11.length : Int) = true := by simpa [ieq, ilt, ile] using hp12
      have hp12s := hp12b
      try simp at hp12s
      by_cases hp13 : (v10.length : Int) < 1
      · rw [if_pos hp13] at hx16
        have hp13b : ilt (v10.length : Int) 1 = true := by simpa [ieq, ilt, ile] using hp13
        have hp13s := hp13b
        try simp at hp13s
        cases hx16
        refine VW.ws tau_ok Sound.none [some 16, some 17, some 18, some 19, some 20, some 21, some 22, some 23, some 24, some 25, some 26, some 27, some 28, some 29, some 30, some 31, some 32, some 33, some 34, some 35, some 36, some 37, some 38] _ rfl ?_ hy
        simp [hv11a, hv11b, hv11c, hv11d, hp12b, hp12s, hp13b, hp13s] <;> simp [ieq, ilt, ile]
      · rw [if_neg hp13] at hx16
        have hp13b : ilt (v10.length : Int) 1 = false := by simpa [ieq, ilt, ile] using hp13
        have hp13s := hp13b
        try simp at hp13s
        by_cases hp14 : 16 < (v10.length : Int)
        · rw [if_pos hp14] at hx16
          have hp14b : ilt 16 (v10.length : Int) = true := by simpa [ieq, ilt, ile] using hp14
          have hp14s := hp14b
          try simp at hp14s
          cases hx16
          refine VW.ws tau_ok Sound.none [some 16, some 17, some 18, some 19, some 20, some 21, some 22, some 23, some 24, some 25, some 26, some 27, some 28, some 29, some 30, some 31, some 32, some 33, some 34, some 35, some 36, some 37, some 38] _ rfl ?_ hy
          simp [hv11a, hv11b, hv11c, hv11d, hp12b, hp12s, hp13b, hp13s, hp14b, hp14s] <;> simp [ieq, ilt, ile]
        · rw [if_neg hp14] at hx16
          have hp14b : ilt 16 (v10.length : Int) = false := by simpa [ieq, ilt, ile] using hp14
          have hp14s := hp14b
          try simp at hp14s
          obtain ⟨v15, hv15, hx16⟩ := bind_some hx16
          cases hx16
          refine VW.ws tau_ok (Sound.none.add 36 (i_field_is_ok hv15) rfl) [some 16, some 17, some 18, some 19, some 20, some 21, some 22, some 23, some 24, some 25, some 26, some 27, some 28, some 29, some 30, some 31, some 32, some 33, some 34, some 35, some 36, some 37, some 38] _ rfl ?_ hy
          simp [hv11a, hv11b, hv11c, hv11d, hp12b, hp12s, hp13b, hp13s, hp14b, hp14s] <;> simp [ieq, ilt, ile]
  refine VW.cond rfl (fun hb17 => ?_) (fun hb17 => ?_)
  rotate_left
  ·
    replace hb17 : ¬ (x16 = true) := by simpa [ieq, ilt, ile] using hb17
    rw [if_neg hb17] at hx4o
    refine VW.skip ?_
    refine hK9 _ ?_
    -- region 8
    refine VW.wr tau_ok Sound.none [some 39, some 12] [(0, .val (i64 a0)), (1, .val (dM a1)), (10, .val (dM a1)), (11, .val (i64 (a1.length : Int))), (12, .val (i64 (w64 (s4 + 1))))] rfl ?_ ?_
    · simp <;> simp [ieq, ilt, ile]
    cases hx4o
    exact ⟨_, rfl, Fits.of rfl⟩
  replace hb17 : x16 = true := by simpa [ieq, ilt, ile] using hb17
  rw [if_pos hb17] at hx4o
  -- region 7
  refine VW.ws tau_ok Sound.none [some 4] [(4, .val (.bool false))] rfl ?_ ?_
  · simp <;> simp [ieq, ilt, ile]
  cases hx4o
  have hq := hx4b _ rfl
  subst hq
  dsimp only at h
  cases h
  refine VW.ret ?_
  simp [Post, PostM, PostC, PostC2, Nx, Bk]

theorem i_field_isMatrix_ok {a0 : Int} {a1 : List (List Int)} {r : Bool} (h : i_field_isMatrix a0 a1 = some r) :
    VCall Try.prog 232 [i64 a0, dM a1] [.sc (.bool r)] := by
  unfold i_field_isMatrix at h
  refine VCall.enter Try.call232 Try.func232 rfl 13 Try.ntmps232 (by simp) [.tmp 4] rfl ?_
  show VW _ _ _ (mk [(0, .val (i64 a0)), (1, .val (dM a1))]) _
  -- region 0
  refine VW.ws tau_ok Sound.none [some 4] [(0, .val (i64 a0)), (1, .val (dM a1))] rfl ?_ ?_
  · simp <;> simp [ieq, ilt, ile]
  -- region 1
  obtain ⟨x3, hx3, h⟩ := bind_some h
  refine VW.cut [(4, .val (.bool x3))] ?_ fun hy => ?_
  rotate_left
  · clear h
    by_cases hp1 : 0 < (a1.length : Int)
    · rw [if_pos hp1] at hx3
      have hp1b : ilt 0 (a1.length : Int) = true := by simpa [ieq, ilt, ile] using hp1
      have hp1s := hp1b
      try simp at hp1s
      obtain ⟨v2, hv2, hx3⟩ := bind_some hx3
      cases hx3
      refine VW.ws tau_ok (Sound.none.add 11 (i_field_isTable_ok hv2) rfl) [some 5, some 6, some 7, some 8, some 9, some 10, some 11, some 12, some 4] _ rfl ?_ hy
      simp [hp1b, hp1s] <;> simp [ieq, ilt, ile]
    · rw [if_neg hp1] at hx3
      have hp1b : ilt 0 (a1.length : Int) = false := by simpa [ieq, ilt, ile] using hp1
      have hp1s := hp1b
      try simp at hp1s
      cases hx3
      refine VW.ws tau_ok Sound.none [some 5, some 6, some 7, some 8, some 9, some 10, some 11, some 12, some 4] _ rfl ?_ hy
      simp [hp1b, hp1s] <;> simp [ieq, ilt, ile]
  cases h
  refine VW.ret ?_
  simp [Post, PostM, PostC, PostC2, Nx, Bk]

theorem g_slices_Clone_LI_I_ok {a0 r : List Int} (h : g_slices_Clone_LI_I a0 = some r) :
    VCall Try.prog 185 [dI a0] [.own true (dI r)] := by
  unfold g_slices_Clone_LI_I at h
  obtain ⟨hc, h⟩ := chk_some h
  cases h
  refine VCall.enter Try.call185 Try.func185 rfl 8 Try.ntmps185 (by simp) [.tmp 2] rfl ?_
  show VW _ _ _ (mk [(0, .val (dI a0))]) _
  refine VW.ws tau_ok Sound.none [some 2] [(0, .val (dI a0))] rfl ?_ ?_
  · simp
  refine VW.sqc fun K hK hCK => ?_
  refine VW.nilcmp tau_ok (T := 22) (e := 2) rfl rfl rfl rfl rfl (by simp) rfl rfl rfl (by simp) fun b hb => ?_
  refine VW.cond rfl (fun h1 => ?_) (fun h1 => ?_)
  · have e := hb h1
    simp at e
    subst e
    refine VW.ws tau_ok Sound.none [some 2] [(2, .ref 2 [] true (.list []))] rfl ?_ ?_
    · simp
    refine VW.ret ?_
    simp [Post, Nx]
  · refine VW.skip ?_
    refine hK _ ?_
    refine VW.ws tau_ok Sound.none [some 5, some 6, some 7, some 2] [(2, .ref 2 [] true (dI a0))] rfl ?_ ?_
    · simp [hc]
    refine VW.ret ?_
    simp [Post, Nx]

theorem i_cloneRows_ok {a0 : List (List Int)} {r : List (List Int)} (h : i_cloneRows a0 = some r) :
    VCall Try.prog 152 [dM a0] [.own true (dM r)] := by
  unfold i_cloneRows at h
  refine VCall.enter Try.call152 Try.func152 rfl 20 Try.ntmps152 (by simp) [.tmp 2] rfl ?_
  show VW _ _ _ (mk [(0, .val (dM a0))]) _
  -- region 0
  refine VW.ws tau_ok Sound.none [some 2] [(0, .val (dM a0))] rfl ?_ ?_
  · simp <;> simp [ieq, ilt, ile]
  -- region 1
  refine VW.ws tau_ok Sound.none [some 6, some 3] [(0, .val (dM a0)), (3, .ref 3 [] true (dM []))] rfl ?_ ?_
  · simp <;> simp [ieq, ilt, ile]
  refine VW.sqc fun K1 hK1 hCK1 => ?_
  -- region 2
  refine VW.ws tau_ok Sound.none [some 7, some 8, some 9] [(3, .ref 3 [] true (dM [])), (7, .val (dM a0)), (8, .val (i64 (a0.length : Int))), (9, .val (i64 0))] rfl ?_ ?_
  · simp <;> simp [ieq, ilt, ile]
  obtain ⟨x2, hx2, h⟩ := bind_some h
  refine VW.tlE [(3, .ref 3 [] true (dM x2))] (hCK1) ?_ ?_
  · clear hx2
    refine hK1 _ ?_
    -- region 7
    refine VW.ws tau_ok Sound.none [some 19, some 2] [(2, .ref 2 [] true (dM x2))] rfl ?_ ?_
    · simp <;> simp [ieq, ilt, ile]
    cases h
    refine VW.ret ?_
    simp [Post, PostM, PostC, PostC2, Nx, Bk]
  refine VW.block ?_
  refine VW.loopF (i_cloneRows_L0 a0) (fun s2 => [(3, .ref 3 [] true (dM s2.1)), (7, .val (dM a0)), (8, .val (i64 (a0.length : Int))), (9, .val (i64 s2.2))]) hx2 (Fits.of rfl) ?_
  clear hx2
  intro s2 ox2 hx2o hx2b
  unfold i_cloneRows_L0 at hx2o
  -- region 3
  refine VW.ws tau_ok Sound.none [some 10] [(3, .ref 3 [] true (dM s2.1)), (7, .val (dM a0)), (8, .val (i64 (a0.length : Int))), (9, .val (i64 s2.2)), (10, .val (.bool (ilt s2.2 (a0.length : Int))))] rfl ?_ ?_
  · simp <;> simp [ieq, ilt, ile]
  refine VW.sqc fun K4 hK4 hCK4 => ?_
  refine VW.cond rfl (fun hb5 => ?_) (fun hb5 => ?_)
  rotate_left
  ·
    replace hb5 : ¬ (s2.2 < (a0.length : Int)) := by simpa [ieq, ilt, ile] using hb5
    rw [if_neg hb5] at hx2o
    refine VW.exit ?_
    cases hx2o
    have hq := hx2b _ rfl
    subst hq
    exact Fits.of rfl
  replace hb5 : s2.2 < (a0.length : Int) := by simpa [ieq, ilt, ile] using hb5
  rw [if_pos hb5] at hx2o
  refine VW.skip ?_
  refine hK4 _ ?_
  refine VW.sqc fun K6 hK6 hCK6 => ?_
  refine VW.block ?_
  -- region 4
  obtain ⟨v7, hv7, hx2o⟩ := bind_some hx2o
  obtain ⟨hv7a, hv7b, hv7c, hv7d⟩ := idx_some hv7
  refine VW.ws tau_ok Sound.none [some 11, some 12, some 5] [(3, .ref 3 [] true (dM s2.1)), (5, .val (dI v7)), (7, .val (dM a0)), (8, .val (i64 (a0.length : Int))), (9, .val (i64 s2.2))] rfl ?_ ?_
  · simp [hv7a, hv7b, hv7c, hv7d] <;> simp [ieq, ilt, ile]
  -- region 5
  obtain ⟨v8, hv8, hx2o⟩ := bind_some hx2o
  obtain ⟨hc9, hx2o⟩ := chk_some hx2o
  have hc9s := hc9
  try simp at hc9s
  refine VW.wr tau_ok (Sound.none.add 15 (g_slices_Clone_LI_I_ok hv8) rfl) [some 13, some 14, some 15, some 16, some 17, some 3] [(3, .ref 3 [] true (dM (s2.1 ++ [v8]))), (7, .val (dM a0)), (8, .val (i64 (a0.length : Int))), (9, .val (i64 s2.2))] rfl ?_ ?_
  · simp [hc9, hc9s] <;> simp [ieq, ilt, ile]
  refine hK6 _ ?_
  -- region 6
  refine VW.wr tau_ok Sound.none [some 18, some 9] [(3, .ref 3 [] true (dM (s2.1 ++ [v8]))), (7, .val (dM a0)), (8, .val (i64 (a0.length : Int))), (9, .val (i64 (w64 (s2.2 + 1))))] rfl ?_ ?_
  · simp <;> simp [ieq, ilt, ile]
  cases hx2o
  exact ⟨_, rfl, Fits.of rfl⟩

theorem i_field_num_ok {a0 : Int} {a1 : Int} {r : Int} (h : i_field_num a0 a1 = some r) :
    VCall Try.prog 187 [i64 a0, i64 a1] [.sc (i64 r)] := by
  unfold i_field_num at h
  refine VCall.enter Try.call187 Try.func187 rfl 14 Try.ntmps187 (by simp) [.tmp 4] rfl ?_
  show VW _ _ _ (mk [(0, .val (i64 a0)), (1, .val (i64 a1))]) _
  -- region 0
  refine VW.ws tau_ok Sound.none [some 4] [(0, .val (i64 a0)), (1, .val (i64 a1))] rfl ?_ ?_
  · simp <;> simp [ieq, ilt, ile]
  -- region 1
  refine VW.ws tau_ok Sound.none [some 6, some 5] [(1, .val (i64 a1)), (5, .val (i64 a0))] rfl ?_ ?_
  · simp <;> simp [ieq, ilt, ile]
  -- region 2
  obtain ⟨hc1, h⟩ := chk_some h
  have hc1s := hc1
  try simp at hc1s
  obtain ⟨hc2, h⟩ := chk_some h
  have hc2s := hc2
  try simp at hc2s
  refine VW.ws tau_ok Sound.none [some 7, some 8, some 9, some 10, some 11, some 12, some 13, some 4] [(4, .val (i64 ((w64 ((a1.tmod a0) + a0)).tmod a0)))] rfl ?_ ?_
  · simp [hc1, hc1s, hc2, hc2s] <;> simp [ieq, ilt, ile]
  cases h
  refine VW.ret ?_
  simp [Post, PostM, PostC, PostC2, Nx, Bk]

theorem i_field_pow_ok {a0 : Int} {a1 : Int} {a2 : Int} {r : Int} (h : i_field_pow a0 a1 a2 = some r) :
    VCall Try.prog 248 [i64 a0, i64 a1, i64 a2] [.sc (i64 r)] := by
  unfold i_field_pow at h
  refine VCall.enter Try.call248 Try.func248 rfl 18 Try.ntmps248 (by simp) [.tmp 6] rfl ?_
  show VW _ _ _ (mk [(0, .val (i64 a0)), (1, .val (i64 a1)), (2, .val (i64 a2))]) _
  -- region 0
  refine VW.ws tau_ok Sound.none [some 6] [(0, .val (i64 a0)), (1, .val (i64 a1)), (2, .val (i64 a2))] rfl ?_ ?_
  · simp <;> simp [ieq, ilt, ile]
  -- region 1
  refine VW.ws tau_ok Sound.none [some 7] [(0, .val (i64 a0)), (1, .val (i64 a1)), (2, .val (i64 a2)), (7, .val (i64 1))] rfl ?_ ?_
  · simp <;> simp [ieq, ilt, ile]
  refine VW.sqc fun K1 hK1 hCK1 => ?_
  -- region 2
  refine VW.ws tau_ok Sound.none [some 8, some 9] [(0, .val (i64 a0)), (1, .val (i64 a1)), (7, .val (i64 1)), (8, .val (i64 a2)), (9, .val (i64 0))] rfl ?_ ?_
  · simp <;> simp [ieq, ilt, ile]
  obtain ⟨x2, hx2, h⟩ := bind_some h
  refine VW.tlE [(7, .val (i64 x2))] (hCK1) ?_ ?_
  · clear hx2
    refine hK1 _ ?_
    -- region 6
    refine VW.ws tau_ok Sound.none [some 17, some 6] [(6, .val (i64 x2))] rfl ?_ ?_
    · simp <;> simp [ieq, ilt, ile]
    cases h
    refine VW.ret ?_
    simp [Post, PostM, PostC, PostC2, Nx, Bk]
  refine VW.block ?_
  refine VW.loopF (i_field_pow_L0 a0 a1 a2) (fun s2 => [(0, .val (i64 a0)), (1, .val (i64 a1)), (7, .val (i64 s2.1)), (8, .val (i64 a2)), (9, .val (i64 s2.2))]) hx2 (Fits.of rfl) ?_
  clear hx2
  intro s2 ox2 hx2o hx2b
  unfold i_field_pow_L0 at hx2o
  -- region 3
  refine VW.ws tau_ok Sound.none [some 10] [(0, .val (i64 a0)), (1, .val (i64 a1)), (7, .val (i64 s2.1)), (8, .val (i64 a2)), (9, .val (i64 s2.2)), (10, .val (.bool (ilt s2.2 a2)))] rfl ?_ ?_
  · simp <;> simp [ieq, ilt, ile]
  refine VW.sqc fun K4 hK4 hCK4 => ?_
  refine VW.cond rfl (fun hb5 => ?_) (fun hb5 => ?_)
  rotate_left
  ·
    replace hb5 : ¬ (s2.2 < a2) := by simpa [ieq, ilt, ile] using hb5
    rw [if_neg hb5] at hx2o
    refine VW.exit ?_
    cases hx2o
    have hq := hx2b _ rfl
    subst hq
    exact Fits.of rfl
  replace hb5 : s2.2 < a2 := by simpa [ieq, ilt, ile] using hb5
  rw [if_pos hb5] at hx2o
  refine VW.skip ?_
  refine hK4 _ ?_
  refine VW.sqc fun K6 hK6 hCK6 => ?_
  refine VW.block ?_
  -- region 4
  obtain ⟨v7, hv7, hx2o⟩ := bind_some hx2o
  refine VW.wr tau_ok (Sound.none.add 15 (i_field_num_ok hv7) rfl) [some 11, some 12, some 13, some 14, some 15, some 7] [(0, .val (i64 a0)), (1, .val (i64 a1)), (7, .val (i64 v7)), (8, .val (i64 a2)), (9, .val (i64 s2.2))] rfl ?_ ?_
  · simp <;> simp [ieq, ilt, ile]
  refine hK6 _ ?_
  -- region 5
  refine VW.wr tau_ok Sound.none [some 16, some 9] [(0, .val (i64 a0)), (1, .val (i64 a1)), (7, .val (i64 v7)), (8, .val (i64 a2)), (9, .val (i64 (w64 (s2.2 + 1))))] rfl ?_ ?_
  · simp <;> simp [ieq, ilt, ile]
  cases hx2o
  exact ⟨_, rfl, Fits.of rfl⟩

theorem i_field_inv_ok {a0 : Int} {a1 : Int} {r : Int} (h : i_field_inv a0 a1 = some r) :
    VCall Try.prog 209 [i64 a0, i64 a1] [.sc (i64 r)] := by
  unfold i_field_inv at h
  refine VCall.enter Try.call209 Try.func209 rfl 10 Try.ntmps209 (by simp) [.tmp 4] rfl ?_
  show VW _ _ _ (mk [(0, .val (i64 a0)), (1, .val (i64 a1))]) _
  -- region 0
  refine VW.ws tau_ok Sound.none [some 4] [(0, .val (i64 a0)), (1, .val (i64 a1))] rfl ?_ ?_
  · simp <;> simp [ieq, ilt, ile]
  -- region 1
  obtain ⟨v1, hv1, h⟩ := bind_some h
  refine VW.ws tau_ok (Sound.none.add 9 (i_field_pow_ok hv1) rfl) [some 5, some 6, some 7, some 8, some 9, some 4] [(4, .val (i64 v1))] rfl ?_ ?_
  · simp <;> simp [ieq, ilt, ile]
  cases h
  refine VW.ret ?_
  simp [Post, PostM, PostC, PostC2, Nx, Bk]

theorem i_field_plus_ok {a0 : Int} {a1 : List Int} {a2 : List Int} {a3 : Int} {r : List Int} (h : i_field_plus a0 a1 a2 a3 = some r) :
    VCall Try.prog 176 [i64 a0, dI a1, dI a2, i64 a3] [.own true (dI r)] := by
  unfold i_field_plus at h
  refine VCall.enter Try.call176 Try.func176 rfl 35 Try.ntmps176 (by simp) [.tmp 8] rfl ?_
  show VW _ _ _ (mk [(0, .val (i64 a0)), (1, .val (dI a1)), (2, .val (dI a2)), (3, .val (i64 a3))]) _
  -- region 0
  refine VW.ws tau_ok Sound.none [some 8] [(0, .val (i64 a0)), (1, .val (dI a1)), (2, .val (dI a2)), (3, .val (i64 a3))] rfl ?_ ?_
  · simp <;> simp [ieq, ilt, ile]
  -- region 1
  refine VW.ws tau_ok Sound.none [some 12, some 9] [(0, .val (i64 a0)), (1, .val (dI a1)), (2, .val (dI a2)), (3, .val (i64 a3)), (9, .ref 9 [] true (dI []))] rfl ?_ ?_
  · simp <;> simp [ieq, ilt, ile]
  refine VW.sqc fun K1 hK1 hCK1 => ?_
  -- region 2
  refine VW.ws tau_ok Sound.none [some 13, some 14, some 15] [(0, .val (i64 a0)), (2, .val (dI a2)), (3, .val (i64 a3)), (9, .ref 9 [] true (dI [])), (13, .val (dI a1)), (14, .val (i64 (a1.length : Int))), (15, .val (i64 0))] rfl ?_ ?_
  · simp <;> simp [ieq, ilt, ile]
  obtain ⟨x2, hx2, h⟩ := bind_some h
  refine VW.tlE [(9, .ref 9 [] true (dI x2))] (hCK1) ?_ ?_
  · clear hx2
    refine hK1 _ ?_
    -- region 7
    refine VW.ws tau_ok Sound.none [some 34, some 8] [(8, .ref 8 [] true (dI x2))] rfl ?_ ?_
    · simp <;> simp [ieq, ilt, ile]
    cases h
    refine VW.ret ?_
    simp [Post, PostM, PostC, PostC2, Nx, Bk]
  refine VW.block ?_
  refine VW.loopF (i_field_plus_L0 a0 a1 a2 a3) (fun s2 => [(0, .val (i64 a0)), (2, .val (dI a2)), (3, .val (i64 a3)), (9, .ref 9 [] true (dI s2.1)), (13, .val (dI a1)), (14, .val (i64 (a1.length : Int))), (15, .val (i64 s2.2))]) hx2 (Fits.of rfl) ?_
  clear hx2
  intro s2 ox2 hx2o hx2b
  unfold i_field_plus_L0 at hx2o
  -- region 3
  refine VW.ws tau_ok Sound.none [some 16] [(0, .val (i64 a0)), (2, .val (dI a2)), (3, .val (i64 a3)), (9, .ref 9 [] true (dI s2.1)), (13, .val (dI a1)), (14, .val (i64 (a1.length : Int))), (15, .val (i64 s2.2)), (16, .val (.bool (ilt s2.2 (a1.length : Int))))] rfl ?_ ?_
  · simp <;> simp [ieq, ilt, ile]
  refine VW.sqc fun K4 hK4 hCK4 => ?_
  refine VW.cond rfl (fun hb5 => ?_) (fun hb5 => ?_)
  rotate_left
  ·
    replace hb5 : ¬ (s2.2 < (a1.length : Int)) := by simpa [ieq, ilt, ile] using hb5
    rw [if_neg hb5] at hx2o
    refine VW.exit ?_
    cases hx2o
    have hq := hx2b _ rfl
    subst hq
    exact Fits.of rfl
  replace hb5 : s2.2 < (a1.length : Int) := by simpa [ieq, ilt, ile] using hb5
  rw [if_pos hb5] at hx2o
  refine VW.skip ?_
  refine hK4 _ ?_
  refine VW.sqc fun K6 hK6 hCK6 => ?_
  refine VW.block ?_
  -- region 4
  obtain ⟨v7, hv7, hx2o⟩ := bind_some hx2o
  obtain ⟨hv7a, hv7b, hv7c, hv7d⟩ := idx_some hv7
  refine VW.ws tau_ok Sound.none [some 17, some 18, some 19, some 10, some 11] [(0, .val (i64 a0)), (2, .val (dI a2)), (3, .val (i64 a3)), (9, .ref 9 [] true (dI s2.1)), (10, .val (i64 s2.2)), (11, .val (i64 v7)), (13, .val (dI a1)), (14, .val (i64 (a1.length : Int))), (15, .val (i64 s2.2))] rfl ?_ ?_
  · simp [hv7a, hv7b, hv7c, hv7d] <;> simp [ieq, ilt, ile]
  -- region 5
  obtain ⟨v8, hv8, hx2o⟩ := bind_some hx2o
  obtain ⟨hv8a, hv8b, hv8c, hv8d⟩ := idx_some hv8
  obtain ⟨v9, hv9, hx2o⟩ := bind_some hx2o
  obtain ⟨hc10, hx2o⟩ := chk_some hx2o
  have hc10s := hc10
  try simp at hc10s
  refine VW.wr tau_ok (Sound.none.add 30 (i_field_num_ok hv9) rfl) [some 20, some 21, some 22, some 23, some 24, some 25, some 26, some 27, some 28, some 29, some 30, some 31, some 32, some 9] [(0, .val (i64 a0)), (2, .val (dI a2)), (3, .val (i64 a3)), (9, .ref 9 [] true (dI (s2.1 ++ [v9]))), (13, .val (dI a1)), (14, .val (i64 (a1.length : Int))), (15, .val (i64 s2.2))] rfl ?_ ?_
  · simp [hv8a, hv8b, hv8c, hv8d, hc10, hc10s] <;> simp [ieq, ilt, ile]
  refine hK6 _ ?_
  -- region 6
  refine VW.wr tau_ok Sound.none [some 33, some 15] [(0, .val (i64 a0)), (2, .val (dI a2)), (3, .val (i64 a3)), (9, .ref 9 [] true (dI (s2.1 ++ [v9]))), (13, .val (dI a1)), (14, .val (i64 (a1.length : Int))), (15, .val (i64 (w64 (s2.2 + 1))))] rfl ?_ ?_
  · simp <;> simp [ieq, ilt, ile]
  cases hx2o
  exact ⟨_, rfl, Fits.of rfl⟩

theorem i_field_determinant_ok {a0 : Int} {a1 : List (List Int)} {r : Int} (h : i_field_determinant a0 a1 = some r) :
    VCall Try.prog 149 [i64 a0, dM a1] [.sc (i64 r)] := by
  unfold i_field_determinant at h
  refine VCall.enter Try.call149 Try.func149 rfl 111 Try.ntmps149 (by simp) [.tmp 4] rfl ?_
  show VW _ _ _ (mk [(0, .val (i64 a0)), (1, .val (dM a1))]) _
  -- region 0
  refine VW.ws tau_ok Sound.none [some 4] [(0, .val (i64 a0)), (1, .val (dM a1))] rfl ?_ ?_
  · simp <;> simp [ieq, ilt, ile]
  -- region 1
  obtain ⟨v1, hv1, h⟩ := bind_some h
  refine VW.ws tau_ok (Sound.none.add 11 (i_cloneRows_ok hv1) rfl) [some 10, some 11, some 5, some 6] [(0, .val (i64 a0)), (5, .ref 5 [] true (dM v1)), (6, .val (i64 1))] rfl ?_ ?_
  · simp <;> simp [ieq, ilt, ile]
  refine VW.sqc fun K2 hK2 hCK2 => ?_
  -- region 2
  refine VW.ws tau_ok Sound.none [some 12, some 13, some 14] [(0, .val (i64 a0)), (5, .ref 5 [] true (dM v1)), (6, .val (i64 1)), (13, .val (i64 (v1.length : Int))), (14, .val (i64 0))] rfl ?_ ?_
  · simp <;> simp [ieq, ilt, ile]
  obtain ⟨x3, hx3, h⟩ := bind_some h
  refine VW.tlO (fun y5 => [(6, .val (i64 y5))]) x3 (hCK2) ?_ ?_
  · clear hx3
    rintro y5 rfl
    dsimp only at h
    refine hK2 _ ?_
    -- region 19
    refine VW.ws tau_ok Sound.none [some 110, some 4] [(4, .val (i64 y5))] rfl ?_ ?_
    · simp <;> simp [ieq, ilt, ile]
    cases h
    refine VW.ret ?_
    simp [Post, PostM, PostC, PostC2, Nx, Bk]
  refine VW.block ?_
  refine VW.loopF (i_field_determinant_L0 a0 v1) (fun s3 => [(0, .val (i64 a0)), (5, .ref 5 [] true (dM s3.1)), (6, .val (i64 s3.2.1)), (13, .val (i64 (v1.length : Int))), (14, .val (i64 s3.2.2))]) hx3 (Fits.of rfl) ?_
  clear hx3
  intro s3 ox3 hx3o hx3b
  unfold i_field_determinant_L0 at hx3o
  -- region 3
  refine VW.ws tau_ok Sound.none [some 15] [(0, .val (i64 a0)), (5, .ref 5 [] true (dM s3.1)), (6, .val (i64 s3.2.1)), (13, .val (i64 (v1.length : Int))), (14, .val (i64 s3.2.2)), (15, .val (.bool (ilt s3.2.2 (v1.length : Int))))] rfl ?_ ?_
  · simp <;> simp [ieq, ilt, ile]
  refine VW.sqc fun K6 hK6 hCK6 => ?_
  refine VW.cond rfl (fun hb7 => ?_) (fun hb7 => ?_)
  rotate_left
  ·
    replace hb7 : ¬ (s3.2.2 < (v1.length : Int)) := by simpa [ieq, ilt, ile] using hb7
    rw [if_neg hb7] at hx3o
    refine VW.exit ?_
    cases hx3o
    have hq := hx3b _ rfl
    subst hq
    exact ⟨_, rfl, Fits.of rfl⟩
  replace hb7 : s3.2.2 < (v1.length : Int) := by simpa [ieq, ilt, ile] using hb7
  rw [if_pos hb7] at hx3o
  refine VW.skip ?_
  refine hK6 _ ?_
  refine VW.sqc fun K8 hK8 hCK8 => ?_
  refine VW.block ?_
  -- region 4
  refine VW.ws tau_ok Sound.none [some 16, some 7] [(0, .val (i64 a0)), (5, .ref 5 [] true (dM s3.1)), (6, .val (i64 s3.2.1)), (7, .val (i64 s3.2.2)), (13, .val (i64 (v1.length : Int))), (14, .val (i64 s3.2.2))] rfl ?_ ?_
  · simp <;> simp [ieq, ilt, ile]
  -- region 5
  refine VW.ws tau_ok Sound.none [some 17, some 8] [(0, .val (i64 a0)), (5, .ref 5 [] true (dM s3.1)), (6, .val (i64 s3.2.1)), (7, .val (i64 s3.2.2)), (8, .val (i64 s3.2.2)), (13, .val (i64 (v1.length : Int))), (14, .val (i64 s3.2.2))] rfl ?_ ?_
  · simp <;> simp [ieq, ilt, ile]
  refine VW.sqc fun K9 hK9 hCK9 => ?_
  obtain ⟨x10, hx10, hx3o⟩ := bind_some hx3o
  refine VW.tlE [(0, .val (i64 a0)), (5, .ref 5 [] true (dM s3.1)), (6, .val (i64 s3.2.1)), (7, .val (i64 s3.2.2)), (8, .val (i64 x10)), (13, .val (i64 (v1.length : Int))), (14, .val (i64 s3.2.2))] (hCK9) ?_ ?_
  · clear hx10
    refine hK9 _ ?_
    refine VW.sqc fun K18 hK18 hCK18 => ?_
    -- region 8
    refine VW.ws tau_ok Sound.none [some 34, some 35, some 36, some 37] [(0, .val (i64 a0)), (5, .ref 5 [] true (dM s3.1)), (6, .val (i64 s3.2.1)), (7, .val (i64 s3.2.2)), (8, .val (i64 x10)), (13, .val (i64 (v1.length : Int))), (14, .val (i64 s3.2.2)), (37, .val (.bool (ieq x10 (s3.1.length : Int))))] rfl ?_ ?_
    · simp <;> simp [ieq, ilt, ile]
    refine VW.cond rfl (fun hb19 => ?_) (fun hb19 => ?_)
    ·
      replace hb19 : x10 = (s3.1.length : Int) := by simpa [ieq, ilt, ile] using hb19
      rw [if_pos hb19] at hx3o
      -- region 9
      refine VW.ws tau_ok Sound.none [some 4] [(4, .val (i64 0))] rfl ?_ ?_
      · simp <;> simp [ieq, ilt, ile]
      cases hx3o
      have hq := hx3b _ rfl
      subst hq
      dsimp only at h
      cases h
      refine VW.ret ?_
      simp [Post, PostM, PostC, PostC2, Nx, Bk]
    replace hb19 : ¬ (x10 = (s3.1.length : Int)) := by simpa [ieq, ilt, ile] using hb19
    rw [if_neg hb19] at hx3o
    refine VW.skip ?_
    refine hK18 _ ?_
    refine VW.sqc fun K20 hK20 hCK20 => ?_
    -- region 10
    refine VW.ws tau_ok Sound.none [some 38, some 39, some 40] [(0, .val (i64 a0)), (5, .ref 5 [] true (dM s3.1)), (6, .val (i64 s3.2.1)), (7, .val (i64 s3.2.2)), (8, .val (i64 x10)), (13, .val (i64 (v1.length : Int))), (14, .val (i64 s3.2.2)), (40, .val (.bool (!(ieq x10 s3.2.2))))] rfl ?_ ?_
    · simp <;> simp [ieq, ilt, ile]
    obtain ⟨x21, hx21, hx3o⟩ := bind_some hx3o
    refine VW.tlE [(0, .val (i64 a0)), (5, .ref 5 [] true (dM x21.1)), (6, .val (i64 x21.2)), (7, .val (i64 s3.2.2)), (13, .val (i64 (v1.length : Int))), (14, .val (i64 s3.2.2))] (hCK20) ?_ ?_
    · clear hx21
      refine hK20 _ ?_
      -- region 13
      obtain ⟨v28, hv28, hx3o⟩ := bind_some hx3o
      obtain ⟨hv28a, hv28b, hv28c, hv28d⟩ := idx_some hv28
      obtain ⟨v29, hv29, hx3o⟩ := bind_some hx3o
      obtain ⟨hv29a, hv29b, hv29c, hv29d⟩ := idx_some hv29
      obtain ⟨v30, hv30, hx3o⟩ := bind_some hx3o
      refine VW.ws tau_ok (Sound.none.add 69 (i_field_num_ok hv30) rfl) [some 59, some 60, some 61, some 62, some 63, some 64, some 65, some 66, some 67, some 68, some 69, some 6] [(0, .val (i64 a0)), (5, .ref 5 [] true (dM x21.1)), (6, .val (i64 v30)), (7, .val (i64 s3.2.2)), (13, .val (i64 (v1.length : Int))), (14, .val (i64 s3.2.2))] rfl ?_ ?_
      · simp [hv28a, hv28b, hv28c, hv28d, hv29a, hv29b, hv29c, hv29d] <;> simp [ieq, ilt, ile]
      -- region 14
      refine VW.ws tau_ok Sound.none [some 70, some 71, some 9] [(0, .val (i64 a0)), (5, .ref 5 [] true (dM x21.1)), (6, .val (i64 v30)), (7, .val (i64 s3.2.2)), (9, .val (i64 (w64 (s3.2.2 + 1)))), (13, .val (i64 (v1.length : Int))), (14, .val (i64 s3.2.2))] rfl ?_ ?_
      · simp <;> simp [ieq, ilt, ile]
      obtain ⟨x31, hx31, hx3o⟩ := bind_some hx3o
      refine VW.tlE [(0, .val (i64 a0)), (5, .ref 5 [] true (dM x31)), (6, .val (i64 v30)), (13, .val (i64 (v1.length : Int))), (14, .val (i64 s3.2.2))] (hCK8) ?_ ?_
      · clear hx31
        refine hK8 _ ?_
        -- region 18
        refine VW.wr tau_ok Sound.none [some 109, some 14] [(0, .val (i64 a0)), (5, .ref 5 [] true (dM x31)), (6, .val (i64 v30)), (13, .val (i64 (v1.length : Int))), (14, .val (i64 (w64 (s3.2.2 + 1))))] rfl ?_ ?_
        · simp <;> simp [ieq, ilt, ile]
        cases hx3o
        exact ⟨_, rfl, Fits.of rfl⟩
      refine VW.block ?_
      refine VW.loopF (i_field_determinant_L2 a0 s3) (fun s31 => [(0, .val (i64 a0)), (5, .ref 5 [] true (dM s31.1)), (6, .val (i64 v30)), (7, .val (i64 s3.2.2)), (9, .val (i64 s31.2)), (13, .val (i64 (v1.length : Int))), (14, .val (i64 s3.2.2))]) hx31 (Fits.of rfl) ?_
      clear hx31
      intro s31 ox31 hx31o hx31b
      unfold i_field_determinant_L2 at hx31o
      refine VW.sqc fun K33 hK33 hCK33 => ?_
      -- region 15
      refine VW.ws tau_ok Sound.none [some 72, some 73, some 74, some 75] [(0, .val (i64 a0)), (5, .ref 5 [] true (dM s31.1)), (6, .val (i64 v30)), (7, .val (i64 s3.2.2)), (9, .val (i64 s31.2)), (13, .val (i64 (v1.length : Int))), (14, .val (i64 s3.2.2)), (75, .val (.bool (ilt s31.2 (s31.1.length : Int))))] rfl ?_ ?_
      · simp <;> simp [ieq, ilt, ile]
      refine VW.cond rfl (fun hb34 => ?_) (fun hb34 => ?_)
      rotate_left
      ·
        replace hb34 : ¬ (s31.2 < (s31.1.length : Int)) := by simpa [ieq, ilt, ile] using hb34
        rw [if_neg hb34] at hx31o
        refine VW.exit ?_
        cases hx31o
        have hq := hx31b _ rfl
        subst hq
        exact Fits.of rfl
      replace hb34 : s31.2 < (s31.1.length : Int) := by simpa [ieq, ilt, ile] using hb34
      rw [if_pos hb34] at hx31o
      refine VW.skip ?_
      refine hK33 _ ?_
      refine VW.sqc fun K35 hK35 hCK35 => ?_
      refine VW.block ?_
      -- region 17
      obtain ⟨v36, hv36, hx31o⟩ := bind_some hx31o
      obtain ⟨hv36a, hv36b, hv36c, hv36d⟩ := idx_some hv36
      obtain ⟨v37, hv37, hx31o⟩ := bind_some hx31o
      obtain ⟨hv37a, hv37b, hv37c, hv37d⟩ := idx_some hv37
      obtain ⟨v38, hv38, hx31o⟩ := bind_some hx31o
      obtain ⟨hv38a, hv38b, hv38c, hv38d⟩ := idx_some hv38
      obtain ⟨v39, hv39, hx31o⟩ := bind_some hx31o
      obtain ⟨hv39a, hv39b, hv39c, hv39d⟩ := idx_some hv39
      obtain ⟨v40, hv40, hx31o⟩ := bind_some hx31o
      obtain ⟨v41, hv41, hx31o⟩ := bind_some hx31o
      refine VW.wdr tau_ok ((Sound.none.add 105 (i_field_inv_ok hv40) rfl).add 107 (i_field_plus_ok hv41) rfl) try_mixed [some 78, some 79, some 80, some 81, some 82, some 83, some 84, some 85, some 86, some 87, some 88, some 89, some 90, some 91, some 92, some 93, some 94, some 95, some 96, some 97, some 98, some 99, some 100, some 101, some 102, some 103, some 104, some 105, some 106, some 107, some 108, none] [(0, .val (i64 a0)), (5, .ref 5 [] true (dM (s31.1.set s31.2.toNat v41))), (6, .val (i64 v30)), (7, .val (i64 s3.2.2)), (9, .val (i64 s31.2)), (13, .val (i64 (v1.length : Int))), (14, .val (i64 s3.2.2))] 31 rfl (by kernel_rfl) (by rfl) ?_ ?_
      · simp [hv36a, hv36b, hv36c, hv36d, hv37a, hv37b, hv37c, hv37d, hv38a, hv38b, hv38c, hv38d, hv39a, hv39b, hv39c, hv39d] <;> simp [ieq, ilt, ile]
      refine hK35 _ ?_
      -- region 16
      refine VW.wr tau_ok Sound.none [some 76, some 77, some 9] [(0, .val (i64 a0)), (5, .ref 5 [] true (dM (s31.1.set s31.2.toNat v41))), (6, .val (i64 v30)), (7, .val (i64 s3.2.2)), (9, .val (i64 (w64 (s31.2 + 1)))), (13, .val (i64 (v1.length : Int))), (14, .val (i64 s3.2.2))] rfl ?_ ?_
      · simp <;> simp [ieq, ilt, ile]
      cases hx31o
      exact ⟨_, rfl, Fits.of rfl⟩
    refine VW.cond rfl (fun hb23 => ?_) (fun hb23 => ?_)
    rotate_left
    ·
      replace hb23 : ¬ (¬ x10 = s3.2.2) := by simpa [ieq, ilt, ile] using hb23
      rw [if_neg hb23] at hx21
      refine VW.skip ?_
      cases hx21
      exact Fits.of rfl
    replace hb23 : ¬ x10 = s3.2.2 := by simpa [ieq, ilt, ile] using hb23
    rw [if_pos hb23] at hx21
    -- region 11
    obtain ⟨v24, hv24, hx21⟩ := bind_some hx21
    obtain ⟨hv24a, hv24b, hv24c, hv24d⟩ := idx_some hv24
    obtain ⟨v25, hv25, hx21⟩ := bind_some hx21
    obtain ⟨hv25a, hv25b, hv25c, hv25d⟩ := idx_some hv25
    have hv24z := hv24b
    try simp [hv24a] at hv24z
    have hv25z := hv25b
    try simp [hv25a] at hv25z
    obtain ⟨v26, hv26, hx21⟩ := bind_some hx21
    obtain ⟨hv26a, hv26b, hv26c, hv26d⟩ := idx_some hv26
    have hv26s := hv26b
    try simp at hv26s
    refine VW.wds tau_ok Sound.none try_mixed [some 41, some 42, some 43, some 44, some 45, some 46, some 47, some 48, some 49, some 50, some 51, some 52, some 53, none, some 54, none] [(0, .val (i64 a0)), (5, .ref 5 [] true (dM ((s3.1.set s3.2.2.toNat v24).set x10.toNat v25))), (6, .val (i64 s3.2.1)), (7, .val (i64 s3.2.2)), (13, .val (i64 (v1.length : Int))), (14, .val (i64 s3.2.2))] 13 rfl (by kernel_rfl) (by rfl) ?_ ?_
    · simp [hv24a, hv24b, hv24c, hv24d, hv25a, hv25b, hv25c, hv25d, hv24z, hv25z, hv26a, hv26b, hv26c, hv26d, hv26s] <;> simp [ieq, ilt, ile]
    -- region 12
    obtain ⟨v27, hv27, hx21⟩ := bind_some hx21
    refine VW.wr tau_ok (Sound.none.add 58 (i_field_num_ok hv27) rfl) [some 55, some 56, some 57, some 58, some 6] [(0, .val (i64 a0)), (5, .ref 5 [] true (dM ((s3.1.set s3.2.2.toNat v24).set x10.toNat v25))), (6, .val (i64 v27)), (7, .val (i64 s3.2.2)), (13, .val (i64 (v1.length : Int))), (14, .val (i64 s3.2.2))] rfl ?_ ?_
    · simp <;> simp [ieq, ilt, ile]
    cases hx21
    exact Fits.of rfl
  refine VW.block ?_
  refine VW.loopF (i_field_determinant_L1 s3) (fun s10 => [(0, .val (i64 a0)), (5, .ref 5 [] true (dM s3.1)), (6, .val (i64 s3.2.1)), (7, .val (i64 s3.2.2)), (8, .val (i64 s10)), (13, .val (i64 (v1.length : Int))), (14, .val (i64 s3.2.2))]) hx10 (Fits.of rfl) ?_
  clear hx10
  intro s10 ox10 hx10o hx10b
  unfold i_field_determinant_L1 at hx10o
  refine VW.sqc fun K12 hK12 hCK12 => ?_
  -- region 6
  obtain ⟨x16, hx16, hx10o⟩ := bind_some hx10o
  refine VW.cut [(0, .val (i64 a0)), (5, .ref 5 [] true (dM s3.1)), (6, .val (i64 s3.2.1)), (7, .val (i64 s3.2.2)), (8, .val (i64 s10)), (13, .val (i64 (v1.length : Int))), (14, .val (i64 s3.2.2)), (31, .val (.bool x16))] ?_ fun hy => ?_
  rotate_left
  · clear hx10o
    by_cases hp13 : s10 < (s3.1.length : Int)
    · rw [if_pos hp13] at hx16
      have hp13b : ilt s10 (s3.1.length : Int) = true := by simpa [ieq, ilt, ile] using hp13
      have hp13s := hp13b
      try simp at hp13s
      obtain ⟨v14, hv14, hx16⟩ := bind_some hx16
      obtain ⟨hv14a, hv14b, hv14c, hv14d⟩ := idx_some hv14
      obtain ⟨v15, hv15, hx16⟩ := bind_some hx16
      obtain ⟨hv15a, hv15b, hv15c, hv15d⟩ := idx_some hv15
      cases hx16
      refine VW.ws tau_ok Sound.none [some 18, some 19, some 20, some 21, some 22, some 23, some 24, some 25, some 26, some 27, some 28, some 29, some 30, some 31] _ rfl ?_ hy
      simp [hp13b, hp13s, hv14a, hv14b, hv14c, hv14d, hv15a, hv15b, hv15c, hv15d] <;> simp [ieq, ilt, ile]
    · rw [if_neg hp13] at hx16
      have hp13b : ilt s10 (s3.1.length : Int) = false := by simpa [ieq, ilt, ile] using hp13
      have hp13s := hp13b
      try simp at hp13s
      cases hx16
      refine VW.ws tau_ok Sound.none [some 18, some 19, some 20, some 21, some 22, some 23, some 24, some 25, some 26, some 27, some 28, some 29, some 30, some 31] _ rfl ?_ hy
      simp [hp13b, hp13s] <;> simp [ieq, ilt, ile]
  refine VW.cond rfl (fun hb17 => ?_) (fun hb17 => ?_)
  rotate_left
  ·
    replace hb17 : ¬ (x16 = true) := by simpa [ieq, ilt, ile] using hb17
    rw [if_neg hb17] at hx10o
    refine VW.exit ?_
    cases hx10o
    have hq := hx10b _ rfl
    subst hq
    exact Fits.of rfl
  replace hb17 : x16 = true := by simpa [ieq, ilt, ile] using hb17
  rw [if_pos hb17] at hx10o
  refine VW.skip ?_
  refine hK12 _ ?_
  refine VW.block ?_
  -- region 7
  refine VW.wr tau_ok Sound.none [some 32, some 33, some 8] [(0, .val (i64 a0)), (5, .ref 5 [] true (dM s3.1)), (6, .val (i64 s3.2.1)), (7, .val (i64 s3.2.2)), (8, .val (i64 (w64 (s10 + 1)))), (13, .val (i64 (v1.length : Int))), (14, .val (i64 s3.2.2))] rfl ?_ ?_
  · simp <;> simp [ieq, ilt, ile]
  cases hx10o
  exact ⟨_, rfl, Fits.of rfl⟩

theorem i_transpose_ok {a0 : List (List Int)} {r : List (List Int)} (h : i_transpose a0 = some r) :
    VCall Try.prog 132 [dM a0] [.own true (dM r)] := by
  unfold i_transpose at h
  refine VCall.enter Try.call132 Try.func132 rfl 38 Try.ntmps132 (by simp) [.tmp 2] rfl ?_
  show VW _ _ _ (mk [(0, .val (dM a0))]) _
  -- region 0
  refine VW.ws tau_ok Sound.none [some 2] [(0, .val (dM a0))] rfl ?_ ?_
  · simp <;> simp [ieq, ilt, ile]
  -- region 1
  refine VW.ws tau_ok Sound.none [some 7, some 3] [(0, .val (dM a0)), (3, .ref 3 [] true (dM []))] rfl ?_ ?_
  · simp <;> simp [ieq, ilt, ile]
  refine VW.sqc fun K1 hK1 hCK1 => ?_
  -- region 2
  obtain ⟨v2, hv2, h⟩ := bind_some h
  obtain ⟨hv2a, hv2b, hv2c, hv2d⟩ := idx_some hv2
  replace hv2b : 0 < a0.length := hv2b
  replace hv2c : a0[0]? = some v2 := hv2c
  replace hv2d : ∀ h, a0[0]'h = v2 := hv2d
  refine VW.ws tau_ok Sound.none [some 8, some 9, some 10, some 11, some 12] [(0, .val (dM a0)), (3, .ref 3 [] true (dM [])), (11, .val (i64 (v2.length : Int))), (12, .val (i64 0))] rfl ?_ ?_
  · simp [hv2a, hv2b, hv2c, hv2d] <;> simp [ieq, ilt, ile]
  obtain ⟨x3, hx3, h⟩ := bind_some h
  refine VW.tlE [(3, .ref 3 [] true (dM x3))] (hCK1) ?_ ?_
  · clear hx3
    refine hK1 _ ?_
    -- region 13
    refine VW.ws tau_ok Sound.none [some 37, some 2] [(2, .ref 2 [] true (dM x3))] rfl ?_ ?_
    · simp <;> simp [ieq, ilt, ile]
    cases h
    refine VW.ret ?_
    simp [Post, PostM, PostC, PostC2, Nx, Bk]
  refine VW.block ?_
  refine VW.loopF (i_transpose_L0 a0 v2) (fun s3 => [(0, .val (dM a0)), (3, .ref 3 [] true (dM s3.1)), (11, .val (i64 (v2.length : Int))), (12, .val (i64 s3.2))]) hx3 (Fits.of rfl) ?_
  clear hx3
  intro s3 ox3 hx3o hx3b
  unfold i_transpose_L0 at hx3o
  -- region 3
  refine VW.ws tau_ok Sound.none [some 13] [(0, .val (dM a0)), (3, .ref 3 [] true (dM s3.1)), (11, .val (i64 (v2.length : Int))), (12, .val (i64 s3.2)), (13, .val (.bool (ilt s3.2 (v2.length : Int))))] rfl ?_ ?_
  · simp <;> simp [ieq, ilt, ile]
  refine VW.sqc fun K5 hK5 hCK5 => ?_
  refine VW.cond rfl (fun hb6 => ?_) (fun hb6 => ?_)
  rotate_left
  ·
    replace hb6 : ¬ (s3.2 < (v2.length : Int)) := by simpa [ieq, ilt, ile] using hb6
    rw [if_neg hb6] at hx3o
    refine VW.exit ?_
    cases hx3o
    have hq := hx3b _ rfl
    subst hq
    exact Fits.of rfl
  replace hb6 : s3.2 < (v2.length : Int) := by simpa [ieq, ilt, ile] using hb6
  rw [if_pos hb6] at hx3o
  refine VW.skip ?_
  refine hK5 _ ?_
  refine VW.sqc fun K7 hK7 hCK7 => ?_
  refine VW.block ?_
  -- region 4
  refine VW.ws tau_ok Sound.none [some 14, some 4] [(0, .val (dM a0)), (3, .ref 3 [] true (dM s3.1)), (4, .val (i64 s3.2)), (11, .val (i64 (v2.length : Int))), (12, .val (i64 s3.2))] rfl ?_ ?_
  · simp <;> simp [ieq, ilt, ile]
  -- region 5
  refine VW.ws tau_ok Sound.none [some 15, some 5] [(0, .val (dM a0)), (3, .ref 3 [] true (dM s3.1)), (4, .val (i64 s3.2)), (5, .ref 5 [] true (dI [])), (11, .val (i64 (v2.length : Int))), (12, .val (i64 s3.2))] rfl ?_ ?_
  · simp <;> simp [ieq, ilt, ile]
  refine VW.sqc fun K8 hK8 hCK8 => ?_
  -- region 6
  refine VW.ws tau_ok Sound.none [some 16, some 17, some 18] [(0, .val (dM a0)), (3, .ref 3 [] true (dM s3.1)), (4, .val (i64 s3.2)), (5, .ref 5 [] true (dI [])), (11, .val (i64 (v2.length : Int))), (12, .val (i64 s3.2)), (17, .val (i64 (a0.length : Int))), (18, .val (i64 0))] rfl ?_ ?_
  · simp <;> simp [ieq, ilt, ile]
  obtain ⟨x9, hx9, hx3o⟩ := bind_some hx3o
  refine VW.tlE [(0, .val (dM a0)), (3, .ref 3 [] true (dM s3.1)), (5, .ref 5 [] true (dI x9)), (11, .val (i64 (v2.length : Int))), (12, .val (i64 s3.2))] (hCK8) ?_ ?_
  · clear hx9
    refine hK8 _ ?_
    -- region 11
    obtain ⟨hc17, hx3o⟩ := chk_some hx3o
    have hc17s := hc17
    try simp at hc17s
    refine VW.wr tau_ok Sound.none [some 32, some 33, some 34, some 35, some 3] [(0, .val (dM a0)), (3, .ref 3 [] true (dM (s3.1 ++ [x9]))), (11, .val (i64 (v2.length : Int))), (12, .val (i64 s3.2))] rfl ?_ ?_
    · simp [hc17, hc17s] <;> simp [ieq, ilt, ile]
    refine hK7 _ ?_
    -- region 12
    refine VW.wr tau_ok Sound.none [some 36, some 12] [(0, .val (dM a0)), (3, .ref 3 [] true (dM (s3.1 ++ [x9]))), (11, .val (i64 (v2.length : Int))), (12, .val (i64 (w64 (s3.2 + 1))))] rfl ?_ ?_
    · simp <;> simp [ieq, ilt, ile]
    cases hx3o
    exact ⟨_, rfl, Fits.of rfl⟩
  refine VW.block ?_
  refine VW.loopF (i_transpose_L1 a0 s3) (fun s9 => [(0, .val (dM a0)), (3, .ref 3 [] true (dM s3.1)), (4, .val (i64 s3.2)), (5, .ref 5 [] true (dI s9.1)), (11, .val (i64 (v2.length : Int))), (12, .val (i64 s3.2)), (17, .val (i64 (a0.length : Int))), (18, .val (i64 s9.2))]) hx9 (Fits.of rfl) ?_
  clear hx9
  intro s9 ox9 hx9o hx9b
  unfold i_transpose_L1 at hx9o
  -- region 7
  refine VW.ws tau_ok Sound.none [some 19] [(0, .val (dM a0)), (3, .ref 3 [] true (dM s3.1)), (4, .val (i64 s3.2)), (5, .ref 5 [] true (dI s9.1)), (11, .val (i64 (v2.length : Int))), (12, .val (i64 s3.2)), (17, .val (i64 (a0.length : Int))), (18, .val (i64 s9.2)), (19, .val (.bool (ilt s9.2 (a0.length : Int))))] rfl ?_ ?_
  · simp <;> simp [ieq, ilt, ile]
  refine VW.sqc fun K11 hK11 hCK11 => ?_
  refine VW.cond rfl (fun hb12 => ?_) (fun hb12 => ?_)
  rotate_left
  ·
    replace hb12 : ¬ (s9.2 < (a0.length : Int)) := by simpa [ieq, ilt, ile] using hb12
    rw [if_neg hb12] at hx9o
    refine VW.exit ?_
    cases hx9o
    have hq := hx9b _ rfl
    subst hq
    exact Fits.of rfl
  replace hb12 : s9.2 < (a0.length : Int) := by simpa [ieq, ilt, ile] using hb12
  rw [if_pos hb12] at hx9o
  refine VW.skip ?_
  refine hK11 _ ?_
  refine VW.sqc fun K13 hK13 hCK13 => ?_
  refine VW.block ?_
  -- region 8
  refine VW.ws tau_ok Sound.none [some 20, some 6] [(0, .val (dM a0)), (3, .ref 3 [] true (dM s3.1)), (4, .val (i64 s3.2)), (5, .ref 5 [] true (dI s9.1)), (6, .val (i64 s9.2)), (11, .val (i64 (v2.length : Int))), (12, .val (i64 s3.2)), (17, .val (i64 (a0.length : Int))), (18, .val (i64 s9.2))] rfl ?_ ?_
  · simp <;> simp [ieq, ilt, ile]
  -- region 9
  obtain ⟨v14, hv14, hx9o⟩ := bind_some hx9o
  obtain ⟨hv14a, hv14b, hv14c, hv14d⟩ := idx_some hv14
  obtain ⟨v15, hv15, hx9o⟩ := bind_some hx9o
  obtain ⟨hv15a, hv15b, hv15c, hv15d⟩ := idx_some hv15
  obtain ⟨hc16, hx9o⟩ := chk_some hx9o
  have hc16s := hc16
  try simp at hc16s
  refine VW.wr tau_ok Sound.none [some 21, some 22, some 23, some 24, some 25, some 26, some 27, some 28, some 29, some 30, some 5] [(0, .val (dM a0)), (3, .ref 3 [] true (dM s3.1)), (4, .val (i64 s3.2)), (5, .ref 5 [] true (dI (s9.1 ++ [v15]))), (11, .val (i64 (v2.length : Int))), (12, .val (i64 s3.2)), (17, .val (i64 (a0.length : Int))), (18, .val (i64 s9.2))] rfl ?_ ?_
  · simp [hv14a, hv14b, hv14c, hv14d, hv15a, hv15b, hv15c, hv15d, hc16, hc16s] <;> simp [ieq, ilt, ile]
  refine hK13 _ ?_
  -- region 10
  refine VW.wr tau_ok Sound.none [some 31, some 18] [(0, .val (dM a0)), (3, .ref 3 [] true (dM s3.1)), (4, .val (i64 s3.2)), (5, .ref 5 [] true (dI (s9.1 ++ [v15]))), (11, .val (i64 (v2.length : Int))), (12, .val (i64 s3.2)), (17, .val (i64 (a0.length : Int))), (18, .val (i64 (w64 (s9.2 + 1))))] rfl ?_ ?_
  · simp <;> simp [ieq, ilt, ile]
  cases hx9o
  exact ⟨_, rfl, Fits.of rfl⟩

theorem i_Space_weighted_ok {a0_0 : Int} {a0_1 : List Int} {a1 : List Int} {r : List Int} (h : i_Space_weighted a0_0 a0_1 a1 = some r) :
    VCall Try.prog 256 [.agg [i64 a0_0, dI a0_1], dI a1] [.own true (dI r)] := by
  unfold i_Space_weighted at h
  refine VCall.enter Try.call256 Try.func256 rfl 31 Try.ntmps256 (by simp) [.tmp 4] rfl ?_
  show VW _ _ _ (mk [(0, .val (.agg [i64 a0_0, dI a0_1])), (1, .val (dI a1))]) _
  -- region 0
  refine VW.ws tau_ok Sound.none [some 2, some 4] [(1, .val (dI a1)), (2, .val (.ptr [i64 a0_0, dI a0_1]))] rfl ?_ ?_
  · simp <;> simp [ieq, ilt, ile]
  -- region 1
  refine VW.ws tau_ok Sound.none [some 8, some 5] [(1, .val (dI a1)), (2, .val (.ptr [i64 a0_0, dI a0_1])), (5, .ref 5 [] true (dI []))] rfl ?_ ?_
  · simp <;> simp [ieq, ilt, ile]
  refine VW.sqc fun K1 hK1 hCK1 => ?_
  -- region 2
  refine VW.ws tau_ok Sound.none [some 9, some 10, some 11] [(2, .val (.ptr [i64 a0_0, dI a0_1])), (5, .ref 5 [] true (dI [])), (9, .val (dI a1)), (10, .val (i64 (a1.length : Int))), (11, .val (i64 0))] rfl ?_ ?_
  · simp <;> simp [ieq, ilt, ile]
  obtain ⟨x2, hx2, h⟩ := bind_some h
  refine VW.tlE [(5, .ref 5 [] true (dI x2))] (hCK1) ?_ ?_
  · clear hx2
    refine hK1 _ ?_
    -- region 7
    refine VW.ws tau_ok Sound.none [some 30, some 4] [(4, .ref 4 [] true (dI x2))] rfl ?_ ?_
    · simp <;> simp [ieq, ilt, ile]
    cases h
    refine VW.ret ?_
    simp [Post, PostM, PostC, PostC2, Nx, Bk]
  refine VW.block ?_
  refine VW.loopF (i_Space_weighted_L0 a0_0 a0_1 a1) (fun s2 => [(2, .val (.ptr [i64 a0_0, dI a0_1])), (5, .ref 5 [] true (dI s2.1)), (9, .val (dI a1)), (10, .val (i64 (a1.length : Int))), (11, .val (i64 s2.2))]) hx2 (Fits.of rfl) ?_
  clear hx2
  intro s2 ox2 hx2o hx2b
  unfold i_Space_weighted_L0 at hx2o
  -- region 3
  refine VW.ws tau_ok Sound.none [some 12] [(2, .val (.ptr [i64 a0_0, dI a0_1])), (5, .ref 5 [] true (dI s2.1)), (9, .val (dI a1)), (10, .val (i64 (a1.length : Int))), (11, .val (i64 s2.2)), (12, .val (.bool (ilt s2.2 (a1.length : Int))))] rfl ?_ ?_
  · simp <;> simp [ieq, ilt, ile]
  refine VW.sqc fun K4 hK4 hCK4 => ?_
  refine VW.cond rfl (fun hb5 => ?_) (fun hb5 => ?_)
  rotate_left
  ·
    replace hb5 : ¬ (s2.2 < (a1.length : Int)) := by simpa [ieq, ilt, ile] using hb5
    rw [if_neg hb5] at hx2o
    refine VW.exit ?_
    cases hx2o
    have hq := hx2b _ rfl
    subst hq
    exact Fits.of rfl
  replace hb5 : s2.2 < (a1.length : Int) := by simpa [ieq, ilt, ile] using hb5
  rw [if_pos hb5] at hx2o
  refine VW.skip ?_
  refine hK4 _ ?_
  refine VW.sqc fun K6 hK6 hCK6 => ?_
  refine VW.block ?_
  -- region 4
  obtain ⟨v7, hv7, hx2o⟩ := bind_some hx2o
  obtain ⟨hv7a, hv7b, hv7c, hv7d⟩ := idx_some hv7
  refine VW.ws tau_ok Sound.none [some 13, some 14, some 15, some 6, some 7] [(2, .val (.ptr [i64 a0_0, dI a0_1])), (5, .ref 5 [] true (dI s2.1)), (6, .val (i64 s2.2)), (7, .val (i64 v7)), (9, .val (dI a1)), (10, .val (i64 (a1.length : Int))), (11, .val (i64 s2.2))] rfl ?_ ?_
  · simp [hv7a, hv7b, hv7c, hv7d] <;> simp [ieq, ilt, ile]
  -- region 5
  obtain ⟨v8, hv8, hx2o⟩ := bind_some hx2o
  obtain ⟨v9, hv9, hx2o⟩ := bind_some hx2o
  obtain ⟨hv9a, hv9b, hv9c, hv9d⟩ := idx_some hv9
  obtain ⟨v10, hv10, hx2o⟩ := bind_some hx2o
  obtain ⟨hc11, hx2o⟩ := chk_some hx2o
  have hc11s := hc11
  try simp at hc11s
  refine VW.wdr tau_ok ((Sound.none.add 18 (i_Space_field_ok hv8) rfl).add 26 (i_field_num_ok hv10) rfl) try_mixed [some 16, some 17, some 18, some 19, some 20, some 21, some 22, some 23, some 24, some 25, some 26, some 27, some 28, some 5] [(2, .val (.ptr [i64 a0_0, dI a0_1])), (5, .ref 5 [] true (dI (s2.1 ++ [v10]))), (9, .val (dI a1)), (10, .val (i64 (a1.length : Int))), (11, .val (i64 s2.2))] 12 rfl (by kernel_rfl) (by rfl) ?_ ?_
  · simp [hv9a, hv9b, hv9c, hv9d, hc11, hc11s] <;> simp [ieq, ilt, ile]
  refine hK6 _ ?_
  -- region 6
  refine VW.wr tau_ok Sound.none [some 29, some 11] [(2, .val (.ptr [i64 a0_0, dI a0_1])), (5, .ref 5 [] true (dI (s2.1 ++ [v10]))), (9, .val (dI a1)), (10, .val (i64 (a1.length : Int))), (11, .val (i64 (w64 (s2.2 + 1))))] rfl ?_ ?_
  · simp <;> simp [ieq, ilt, ile]
  cases hx2o
  exact ⟨_, rfl, Fits.of rfl⟩

theorem i_field_dot_ok {a0 : Int} {a1 : List Int} {a2 : List Int} {r : Int} (h : i_field_dot a0 a1 a2 = some r) :
    VCall Try.prog 251 [i64 a0, dI a1, dI a2] [.sc (i64 r)] := by
  unfold i_field_dot at h
  refine VCall.enter Try.call251 Try.func251 rfl 29 Try.ntmps251 (by simp) [.tmp 6] rfl ?_
  show VW _ _ _ (mk [(0, .val (i64 a0)), (1, .val (dI a1)), (2, .val (dI a2))]) _
  -- region 0
  refine VW.ws tau_ok Sound.none [some 6] [(0, .val (i64 a0)), (1, .val (dI a1)), (2, .val (dI a2))] rfl ?_ ?_
  · simp <;> simp [ieq, ilt, ile]
  -- region 1
  refine VW.ws tau_ok Sound.none [some 7] [(0, .val (i64 a0)), (1, .val (dI a1)), (2, .val (dI a2)), (7, .val (i64 0))] rfl ?_ ?_
  · simp <;> simp [ieq, ilt, ile]
  refine VW.sqc fun K1 hK1 hCK1 => ?_
  -- region 2
  refine VW.ws tau_ok Sound.none [some 10, some 11, some 12] [(0, .val (i64 a0)), (2, .val (dI a2)), (7, .val (i64 0)), (10, .val (dI a1)), (11, .val (i64 (a1.length : Int))), (12, .val (i64 0))] rfl ?_ ?_
  · simp <;> simp [ieq, ilt, ile]
  obtain ⟨x2, hx2, h⟩ := bind_some h
  refine VW.tlE [(0, .val (i64 a0)), (7, .val (i64 x2))] (hCK1) ?_ ?_
  · clear hx2
    refine hK1 _ ?_
    -- region 7
    obtain ⟨v9, hv9, h⟩ := bind_some h
    refine VW.ws tau_ok (Sound.none.add 28 (i_field_num_ok hv9) rfl) [some 26, some 27, some 28, some 6] [(6, .val (i64 v9))] rfl ?_ ?_
    · simp <;> simp [ieq, ilt, ile]
    cases h
    refine VW.ret ?_
    simp [Post, PostM, PostC, PostC2, Nx, Bk]
  refine VW.block ?_
  refine VW.loopF (i_field_dot_L0 a1 a2) (fun s2 => [(0, .val (i64 a0)), (2, .val (dI a2)), (7, .val (i64 s2.1)), (10, .val (dI a1)), (11, .val (i64 (a1.length : Int))), (12, .val (i64 s2.2))]) hx2 (Fits.of rfl) ?_
  clear hx2
  intro s2 ox2 hx2o hx2b
  unfold i_field_dot_L0 at hx2o
  -- region 3
  refine VW.ws tau_ok Sound.none [some 13] [(0, .val (i64 a0)), (2, .val (dI a2)), (7, .val (i64 s2.1)), (10, .val (dI a1)), (11, .val (i64 (a1.length : Int))), (12, .val (i64 s2.2)), (13, .val (.bool (ilt s2.2 (a1.length : Int))))] rfl ?_ ?_
  · simp <;> simp [ieq, ilt, ile]
  refine VW.sqc fun K4 hK4 hCK4 => ?_
  refine VW.cond rfl (fun hb5 => ?_) (fun hb5 => ?_)
  rotate_left
  ·
    replace hb5 : ¬ (s2.2 < (a1.length : Int)) := by simpa [ieq, ilt, ile] using hb5
    rw [if_neg hb5] at hx2o
    refine VW.exit ?_
    cases hx2o
    have hq := hx2b _ rfl
    subst hq
    exact Fits.of rfl
  replace hb5 : s2.2 < (a1.length : Int) := by simpa [ieq, ilt, ile] using hb5
  rw [if_pos hb5] at hx2o
  refine VW.skip ?_
  refine hK4 _ ?_
  refine VW.sqc fun K6 hK6 hCK6 => ?_
  refine VW.block ?_
  -- region 4
  obtain ⟨v7, hv7, hx2o⟩ := bind_some hx2o
  obtain ⟨hv7a, hv7b, hv7c, hv7d⟩ := idx_some hv7
  refine VW.ws tau_ok Sound.none [some 14, some 15, some 16, some 8, some 9] [(0, .val (i64 a0)), (2, .val (dI a2)), (7, .val (i64 s2.1)), (8, .val (i64 s2.2)), (9, .val (i64 v7)), (10, .val (dI a1)), (11, .val (i64 (a1.length : Int))), (12, .val (i64 s2.2))] rfl ?_ ?_
  · simp [hv7a, hv7b, hv7c, hv7d] <;> simp [ieq, ilt, ile]
  -- region 5
  obtain ⟨v8, hv8, hx2o⟩ := bind_some hx2o
  obtain ⟨hv8a, hv8b, hv8c, hv8d⟩ := idx_some hv8
  refine VW.wr tau_ok Sound.none [some 17, some 18, some 19, some 20, some 21, some 22, some 23, some 24, some 7] [(0, .val (i64 a0)), (2, .val (dI a2)), (7, .val (i64 (w64 (s2.1 + (w64 (v7 * v8)))))), (10, .val (dI a1)), (11, .val (i64 (a1.length : Int))), (12, .val (i64 s2.2))] rfl ?_ ?_
  · simp [hv8a, hv8b, hv8c, hv8d] <;> simp [ieq, ilt, ile]
  refine hK6 _ ?_
  -- region 6
  refine VW.wr tau_ok Sound.none [some 25, some 12] [(0, .val (i64 a0)), (2, .val (dI a2)), (7, .val (i64 (w64 (s2.1 + (w64 (v7 * v8)))))), (10, .val (dI a1)), (11, .val (i64 (a1.length : Int))), (12, .val (i64 (w64 (s2.2 + 1))))] rfl ?_ ?_
  · simp <;> simp [ieq, ilt, ile]
  cases hx2o
  exact ⟨_, rfl, Fits.of rfl⟩

theorem i_Space_pair_ok {a0_0 : Int} {a0_1 : List Int} {a1 : List Int} {a2 : List Int} {r : Int} (h : i_Space_pair a0_0 a0_1 a1 a2 = some r) :
    VCall Try.prog 223 [.agg [i64 a0_0, dI a0_1], dI a1, dI a2] [.sc (i64 r)] := by
  unfold i_Space_pair at h
  refine VCall.enter Try.call223 Try.func223 rfl 14 Try.ntmps223 (by simp) [.tmp 6] rfl ?_
  show VW _ _ _ (mk [(0, .val (.agg [i64 a0_0, dI a0_1])), (1, .val (dI a1)), (2, .val (dI a2))]) _
  -- region 0
  refine VW.ws tau_ok Sound.none [some 3, some 6] [(1, .val (dI a1)), (2, .val (dI a2)), (3, .val (.ptr [i64 a0_0, dI a0_1]))] rfl ?_ ?_
  · simp <;> simp [ieq, ilt, ile]
  -- region 1
  obtain ⟨v1, hv1, h⟩ := bind_some h
  obtain ⟨v2, hv2, h⟩ := bind_some h
  obtain ⟨v3, hv3, h⟩ := bind_some h
  refine VW.wds tau_ok (((Sound.none.add 8 (i_Space_field_ok hv1) rfl).add 11 (i_Space_weighted_ok hv2) rfl).add 13 (i_field_dot_ok hv3) rfl) try_mixed [some 7, some 8, some 9, some 10, some 11, some 12, some 13, some 6] [(6, .val (i64 v3))] 8 rfl (by kernel_rfl) (by rfl) ?_ ?_
  · simp <;> simp [ieq, ilt, ile]
  cases h
  refine VW.ret ?_
  simp [Post, PostM, PostC, PostC2, Nx, Bk]

theorem i_isIsometry_ok {a0_0 : Int} {a0_1 : List Int} {a1_0 : Int} {a1_1 : List Int} {a2 : List (List Int)} {r : Bool} (h : i_isIsometry a0_0 a0_1 a1_0 a1_1 a2 = some r) :
    VCall Try.prog 174 [.agg [i64 a0_0, dI a0_1], .agg [i64 a1_0, dI a1_1], dM a2] [.sc (.bool r)] := by
  unfold i_isIsometry at h
  refine VCall.enter Try.call174 Try.func174 rfl 87 Try.ntmps174 (by simp) [.tmp 6] rfl ?_
  show VW _ _ _ (mk [(0, .val (.agg [i64 a0_0, dI a0_1])), (1, .val (.agg [i64 a1_0, dI a1_1])), (2, .val (dM a2))]) _
  -- region 0
  refine VW.ws tau_ok Sound.none [some 3, some 4, some 6] [(2, .val (dM a2)), (3, .val (.ptr [i64 a0_0, dI a0_1])), (4, .val (.ptr [i64 a1_0, dI a1_1]))] rfl ?_ ?_
  · simp <;> simp [ieq, ilt, ile]
  refine VW.sqc fun K1 hK1 hCK1 => ?_
  -- region 1
  obtain ⟨x16, hx16, h⟩ := bind_some h
  refine VW.cut [(2, .val (dM a2)), (3, .val (.ptr [i64 a0_0, dI a0_1])), (4, .val (.ptr [i64 a1_0, dI a1_1])), (54, .val (.bool x16))] ?_ fun hy => ?_
  rotate_left
  · clear h
    by_cases hp2 : ¬ a0_0 = a1_0
    · rw [if_pos hp2] at hx16
      have hp2b : ieq a0_0 a1_0 = false := by simpa [ieq, ilt, ile] using hp2
      have hp2s := hp2b
      try simp at hp2s
      cases hx16
      refine VW.wds tau_ok Sound.none try_mixed [some 13, some 14, some 15, some 16, some 17, some 18, some 19, some 20, some 21, some 22, some 23, some 24, some 25, some 26, some 27, some 28, some 29, some 30, some 31, some 32, some 33, some 34, some 35, some 36, some 37, some 38, some 39, some 40, some 41, some 42, some 43, some 44, some 45, some 46, some 47, some 48, some 49, some 50, some 51, some 52, some 53, some 54] _ 42 rfl (by kernel_rfl) (by rfl) ?_ hy
      simp [hp2b, hp2s] <;> simp [ieq, ilt, ile]
    · rw [if_neg hp2] at hx16
      have hp2b : ieq a0_0 a1_0 = true := by simpa [ieq, ilt, ile] using hp2
      have hp2s := hp2b
      try simp at hp2s
      obtain ⟨v3, hv3, hx16⟩ := bind_some hx16
      obtain ⟨v4, hv4, hx16⟩ := bind_some hx16
      by_cases hp5 : ¬ v3 = v4
      · rw [if_pos hp5] at hx16
        have hp5b : ieq v3 v4 = false := by simpa [ieq, ilt, ile] using hp5
        have hp5s := hp5b
        try simp at hp5s
        cases hx16
        refine VW.wds tau_ok ((Sound.none.add 20 (i_Space_dim_ok hv3) rfl).add 22 (i_Space_dim_ok hv4) rfl) try_mixed [some 13, some 14, some 15, some 16, some 17, some 18, some 19, some 20, some 21, some 22, some 23, some 24, some 25, some 26, some 27, some 28, some 29, some 30, some 31, some 32, some 33, some 34, some 35, some 36, some 37, some 38, some 39, some 40, some 41, some 42, some 43, some 44, some 45, some 46, some 47, some 48, some 49, some 50, some 51, some 52, some 53, some 54] _ 42 rfl (by kernel_rfl) (by rfl) ?_ hy
        simp [hp2b, hp2s, hp5b, hp5s] <;> simp [ieq, ilt, ile]
      · rw [if_neg hp5] at hx16
        have hp5b : ieq v3 v4 = true := by simpa [ieq, ilt, ile] using hp5
        have hp5s := hp5b
        try simp at hp5s
        obtain ⟨v6, hv6, hx16⟩ := bind_some hx16
        obtain ⟨v7, hv7, hx16⟩ := bind_some hx16
        by_cases hp8 : v7 = false
        · rw [if_pos hp8] at hx16
          have hp8b : v7 = false := by simpa [ieq, ilt, ile] using hp8
          have hp8s := hp8b
          try simp at hp8s
          cases hx16
          refine VW.wds tau_ok ((((Sound.none.add 20 (i_Space_dim_ok hv3) rfl).add 22 (i_Space_dim_ok hv4) rfl).add 27 (i_Space_field_ok hv6) rfl).add 29 (i_field_isMatrix_ok hv7) rfl) try_mixed [some 13, some 14, some 15, some 16, some 17, some 18, some 19, some 20, some 21, some 22, some 23, some 24, some 25, some 26, some 27, some 28, some 29, some 30, some 31, some 32, some 33, some 34, some 35, some 36, some 37, some 38, some 39, some 40, some 41, some 42, some 43, some 44, some 45, some 46, some 47, some 48, some 49, some 50, some 51, some 52, some 53, some 54] _ 42 rfl (by kernel_rfl) (by rfl) ?_ hy
          simp [hp2b, hp2s, hp5b, hp5s, hp8b, hp8s] <;> simp [ieq, ilt, ile]
        · rw [if_neg hp8] at hx16
          have hp8b : v7 = true := by simpa [ieq, ilt, ile] using hp8
          have hp8s := hp8b
          try simp at hp8s
          obtain ⟨v9, hv9, hx16⟩ := bind_some hx16
          by_cases hp10 : ¬ (a2.length : Int) = v9
          · rw [if_pos hp10] at hx16
            have hp10b : ieq (a2.length : Int) v9 = false := by simpa [ieq, ilt, ile] using hp10
            have hp10s := hp10b
            try simp at hp10s
            cases hx16
            refine VW.wds tau_ok (((((Sound.none.add 20 (i_Space_dim_ok hv3) rfl).add 22 (i_Space_dim_ok hv4) rfl).add 27 (i_Space_field_ok hv6) rfl).add 29 (i_field_isMatrix_ok hv7) rfl).add 36 (i_Space_dim_ok hv9) rfl) try_mixed [some 13, some 14, some 15, some 16, some 17, some 18, some 19, some 20, some 21, some 22, some 23, some 24, some 25, some 26, some 27, some 28, some 29, some 30, some 31, some 32, some 33, some 34, some 35, some 36, some 37, some 38, some 39, some 40, some 41, some 42, some 43, some 44, some 45, some 46, some 47, some 48, some 49, some 50, some 51, some 52, some 53, some 54] _ 42 rfl (by kernel_rfl) (by rfl) ?_ hy
            simp [hp2b, hp2s, hp5b, hp5s, hp8b, hp8s, hp10b, hp10s] <;> simp [ieq, ilt, ile]
          · rw [if_neg hp10] at hx16
            have hp10b : ieq (a2.length : Int) v9 = true := by simpa [ieq, ilt, ile] using hp10
            have hp10s := hp10b
            try simp at hp10s
            obtain ⟨v11, hv11, hx16⟩ := bind_some hx16
            obtain ⟨hv11a, hv11b, hv11c, hv11d⟩ := idx_some hv11
            replace hv11b : 0 < a2.length := hv11b
            replace hv11c : a2[0]? = some v11 := hv11c
            replace hv11d : ∀ h, a2[0]'h = v11 := hv11d
            obtain ⟨v12, hv12, hx16⟩ := bind_some hx16
            by_cases hp13 : ¬ (v11.length : Int) = v12
            · rw [if_pos hp13] at hx16
              have hp13b : ieq (v11.length : Int) v12 = false := by simpa [ieq, ilt, ile] using hp13
              have hp13s := hp13b
              try simp at hp13s
              cases hx16
              refine VW.wds tau_ok ((((((Sound.none.add 20 (i_Space_dim_ok hv3) rfl).add 22 (i_Space_dim_ok hv4) rfl).add 27 (i_Space_field_ok hv6) rfl).add 29 (i_field_isMatrix_ok hv7) rfl).add 36 (i_Space_dim_ok hv9) rfl).add 45 (i_Space_dim_ok hv12) rfl) try_mixed [some 13, some 14, some 15, some 16, some 17, some 18, some 19, some 20, some 21, some 22, some 23, some 24, some 25, some 26, some 27, some 28, some 29, some 30, some 31, some 32, some 33, some 34, some 35, some 36, some 37, some 38, some 39, some 40, some 41, some 42, some 43, some 44, some 45, some 46, some 47, some 48, some 49, some 50, some 51, some 52, some 53, some 54] _ 42 rfl (by kernel_rfl) (by rfl) ?_ hy
              simp [hp2b, hp2s, hp5b, hp5s, hp8b, hp8s, hp10b, hp10s, hv11a, hv11b, hv11c, hv11d, hp13b, hp13s] <;> simp [ieq, ilt, ile]
            · rw [if_neg hp13] at hx16
              have hp13b : ieq (v11.length : Int) v12 = true := by simpa [ieq, ilt, ile] using hp13
              have hp13s := hp13b
              try simp at hp13s
              obtain ⟨v14, hv14, hx16⟩ := bind_some hx16
              obtain ⟨v15, hv15, hx16⟩ := bind_some hx16
              cases hx16
              refine VW.wds tau_ok ((((((((Sound.none.add 20 (i_Space_dim_ok hv3) rfl).add 22 (i_Space_dim_ok hv4) rfl).add 27 (i_Space_field_ok hv6) rfl).add 29 (i_field_isMatrix_ok hv7) rfl).add 36 (i_Space_dim_ok hv9) rfl).add 45 (i_Space_dim_ok hv12) rfl).add 50 (i_Space_field_ok hv14) rfl).add 52 (i_field_determinant_ok hv15) rfl) try_mixed [some 13, some 14, some 15, some 16, some 17, some 18, some 19, some 20, some 21, some 22, some 23, some 24, some 25, some 26, some 27, some 28, some 29, some 30, some 31, some 32, some 33, some 34, some 35, some 36, some 37, some 38, some 39, some 40, some 41, some 42, some 43, some 44, some 45, some 46, some 47, some 48, some 49, some 50, some 51, some 52, some 53, some 54] _ 42 rfl (by kernel_rfl) (by rfl) ?_ hy
              simp [hp2b, hp2s, hp5b, hp5s, hp8b, hp8s, hp10b, hp10s, hv11a, hv11b, hv11c, hv11d, hp13b, hp13s] <;> simp [ieq, ilt, ile]
  refine VW.cond rfl (fun hb17 => ?_) (fun hb17 => ?_)
  ·
    replace hb17 : x16 = true := by simpa [ieq, ilt, ile] using hb17
    rw [if_pos hb17] at h
    -- region 2
    refine VW.ws tau_ok Sound.none [some 6] [(6, .val (.bool false))] rfl ?_ ?_
    · simp <;> simp [ieq, ilt, ile]
    cases h
    refine VW.ret ?_
    simp [Post, PostM, PostC, PostC2, Nx, Bk]
  replace hb17 : ¬ (x16 = true) := by simpa [ieq, ilt, ile] using hb17
  rw [if_neg hb17] at h
  refine VW.skip ?_
  refine hK1 _ ?_
  -- region 3
  obtain ⟨v18, hv18, h⟩ := bind_some h
  refine VW.ws tau_ok (Sound.none.add 56 (i_transpose_ok hv18) rfl) [some 55, some 56, some 7] [(3, .val (.ptr [i64 a0_0, dI a0_1])), (4, .val (.ptr [i64 a1_0, dI a1_1])), (7, .ref 7 [] true (dM v18))] rfl ?_ ?_
  · simp <;> simp [ieq, ilt, ile]
  refine VW.sqc fun K19 hK19 hCK19 => ?_
  -- region 4
  refine VW.ws tau_ok Sound.none [some 57, some 58, some 59] [(3, .val (.ptr [i64 a0_0, dI a0_1])), (4, .val (.ptr [i64 a1_0, dI a1_1])), (7, .ref 7 [] true (dM v18)), (57, .ref 7 [] true (dM v18)), (58, .val (i64 (v18.length : Int))), (59, .val (i64 0))] rfl ?_ ?_
  · simp <;> simp [ieq, ilt, ile]
  obtain ⟨x20, hx20, h⟩ := bind_some h
  refine VW.tlO (fun y22 => []) x20 (hCK19) ?_ ?_
  · clear hx20
    rintro y22 rfl
    dsimp only at h
    refine hK19 _ ?_
    -- region 17
    refine VW.ws tau_ok Sound.none [some 6] [(6, .val (.bool true))] rfl ?_ ?_
    · simp <;> simp [ieq, ilt, ile]
    cases h
    refine VW.ret ?_
    simp [Post, PostM, PostC, PostC2, Nx, Bk]
  refine VW.block ?_
  refine VW.loopF (i_isIsometry_L0 a0_1 a1_0 a1_1 v18) (fun s20 => [(3, .val (.ptr [i64 a0_0, dI a0_1])), (4, .val (.ptr [i64 a1_0, dI a1_1])), (7, .ref 7 [] true (dM v18)), (57, .ref 7 [] true (dM v18)), (58, .val (i64 (v18.length : Int))), (59, .val (i64 s20))]) hx20 (Fits.of rfl) ?_
  clear hx20
  intro s20 ox20 hx20o hx20b
  unfold i_isIsometry_L0 at hx20o
  -- region 5
  refine VW.ws tau_ok Sound.none [some 60] [(3, .val (.ptr [i64 a0_0, dI a0_1])), (4, .val (.ptr [i64 a1_0, dI a1_1])), (7, .ref 7 [] true (dM v18)), (57, .ref 7 [] true (dM v18)), (58, .val (i64 (v18.length : Int))), (59, .val (i64 s20)), (60, .val (.bool (ilt s20 (v18.length : Int))))] rfl ?_ ?_
  · simp <;> simp [ieq, ilt, ile]
  refine VW.sqc fun K23 hK23 hCK23 => ?_
  refine VW.cond rfl (fun hb24 => ?_) (fun hb24 => ?_)
  rotate_left
  ·
    replace hb24 : ¬ (s20 < (v18.length : Int)) := by simpa [ieq, ilt, ile] using hb24
    rw [if_neg hb24] at hx20o
    refine VW.exit ?_
    cases hx20o
    have hq := hx20b _ rfl
    subst hq
    exact ⟨_, rfl, Fits.of rfl⟩
  replace hb24 : s20 < (v18.length : Int) := by simpa [ieq, ilt, ile] using hb24
  rw [if_pos hb24] at hx20o
  refine VW.skip ?_
  refine hK23 _ ?_
  refine VW.sqc fun K25 hK25 hCK25 => ?_
  refine VW.block ?_
  -- region 6
  obtain ⟨v26, hv26, hx20o⟩ := bind_some hx20o
  obtain ⟨hv26a, hv26b, hv26c, hv26d⟩ := idx_some hv26
  refine VW.ws tau_ok Sound.none [some 61, some 62, some 63, some 8, some 9] [(3, .val (.ptr [i64 a0_0, dI a0_1])), (4, .val (.ptr [i64 a1_0, dI a1_1])), (7, .ref 7 [] true (dM v18)), (8, .val (i64 s20)), (9, .ref 7 [s20.toNat] true (dI v26)), (57, .ref 7 [] true (dM v18)), (58, .val (i64 (v18.length : Int))), (59, .val (i64 s20))] rfl ?_ ?_
  · simp [hv26a, hv26b, hv26c, hv26d] <;> simp [ieq, ilt, ile]
  -- region 7
  refine VW.ws tau_ok Sound.none [some 64, some 65, some 66] [(3, .val (.ptr [i64 a0_0, dI a0_1])), (4, .val (.ptr [i64 a1_0, dI a1_1])), (7, .ref 7 [] true (dM v18)), (8, .val (i64 s20)), (9, .ref 7 [s20.toNat] true (dI v26)), (57, .ref 7 [] true (dM v18)), (58, .val (i64 (v18.length : Int))), (59, .val (i64 s20)), (64, .ref 7 [] true (dM v18)), (65, .val (i64 (v18.length : Int))), (66, .val (i64 0))] rfl ?_ ?_
  · simp <;> simp [ieq, ilt, ile]
  obtain ⟨x27, hx27, hx20o⟩ := bind_some hx20o
  refine VW.tlO (fun y29 => [(3, .val (.ptr [i64 a0_0, dI a0_1])), (4, .val (.ptr [i64 a1_0, dI a1_1])), (7, .ref 7 [] true (dM v18)), (57, .ref 7 [] true (dM v18)), (58, .val (i64 (v18.length : Int))), (59, .val (i64 s20))]) x27 (hCK25) ?_ ?_
  · clear hx27
    rintro y29 rfl
    dsimp only at hx20o
    refine hK25 _ ?_
    -- region 16
    refine VW.wr tau_ok Sound.none [some 86, some 59] [(3, .val (.ptr [i64 a0_0, dI a0_1])), (4, .val (.ptr [i64 a1_0, dI a1_1])), (7, .ref 7 [] true (dM v18)), (57, .ref 7 [] true (dM v18)), (58, .val (i64 (v18.length : Int))), (59, .val (i64 (w64 (s20 + 1))))] rfl ?_ ?_
    · simp <;> simp [ieq, ilt, ile]
    cases hx20o
    exact ⟨_, rfl, Fits.of rfl⟩
  refine VW.block ?_
  refine VW.loopF (i_isIsometry_L1 a0_1 a1_0 a1_1 v18 s20 v26) (fun s27 => [(3, .val (.ptr [i64 a0_0, dI a0_1])), (4, .val (.ptr [i64 a1_0, dI a1_1])), (7, .ref 7 [] true (dM v18)), (8, .val (i64 s20)), (9, .ref 7 [s20.toNat] true (dI v26)), (57, .ref 7 [] true (dM v18)), (58, .val (i64 (v18.length : Int))), (59, .val (i64 s20)), (64, .ref 7 [] true (dM v18)), (65, .val (i64 (v18.length : Int))), (66, .val (i64 s27))]) hx27 (Fits.of rfl) ?_
  clear hx27
  intro s27 ox27 hx27o hx27b
  unfold i_isIsometry_L1 at hx27o
  -- region 8
  refine VW.ws tau_ok Sound.none [some 67] [(3, .val (.ptr [i64 a0_0, dI a0_1])), (4, .val (.ptr [i64 a1_0, dI a1_1])), (7, .ref 7 [] true (dM v18)), (8, .val (i64 s20)), (9, .ref 7 [s20.toNat] true (dI v26)), (57, .ref 7 [] true (dM v18)), (58, .val (i64 (v18.length : Int))), (59, .val (i64 s20)), (64, .ref 7 [] true (dM v18)), (65, .val (i64 (v18.length : Int))), (66, .val (i64 s27)), (67, .val (.bool (ilt s27 (v18.length : Int))))] rfl ?_ ?_
  · simp <;> simp [ieq, ilt, ile]
  refine VW.sqc fun K30 hK30 hCK30 => ?_
  refine VW.cond rfl (fun hb31 => ?_) (fun hb31 => ?_)
  rotate_left
  ·
    replace hb31 : ¬ (s27 < (v18.length : Int)) := by simpa [ieq, ilt, ile] using hb31
    rw [if_neg hb31] at hx27o
    refine VW.exit ?_
    cases hx27o
    have hq := hx27b _ rfl
    subst hq
    exact ⟨_, rfl, Fits.of rfl⟩
  replace hb31 : s27 < (v18.length : Int) := by simpa [ieq, ilt, ile] using hb31
  rw [if_pos hb31] at hx27o
  refine VW.skip ?_
  refine hK30 _ ?_
  refine VW.sqc fun K32 hK32 hCK32 => ?_
  refine VW.block ?_
  -- region 9
  obtain ⟨v33, hv33, hx27o⟩ := bind_some hx27o
  obtain ⟨hv33a, hv33b, hv33c, hv33d⟩ := idx_some hv33
  refine VW.ws tau_ok Sound.none [some 68, some 69, some 70, some 10, some 11] [(3, .val (.ptr [i64 a0_0, dI a0_1])), (4, .val (.ptr [i64 a1_0, dI a1_1])), (7, .ref 7 [] true (dM v18)), (8, .val (i64 s20)), (9, .ref 7 [s20.toNat] true (dI v26)), (10, .val (i64 s27)), (11, .ref 7 [s27.toNat] true (dI v33)), (57, .ref 7 [] true (dM v18)), (58, .val (i64 (v18.length : Int))), (59, .val (i64 s20)), (64, .ref 7 [] true (dM v18)), (65, .val (i64 (v18.length : Int))), (66, .val (i64 s27))] rfl ?_ ?_
  · simp [hv33a, hv33b, hv33c, hv33d] <;> simp [ieq, ilt, ile]
  -- region 10
  refine VW.ws tau_ok Sound.none [some 12] [(3, .val (.ptr [i64 a0_0, dI a0_1])), (4, .val (.ptr [i64 a1_0, dI a1_1])), (7, .ref 7 [] true (dM v18)), (8, .val (i64 s20)), (9, .ref 7 [s20.toNat] true (dI v26)), (10, .val (i64 s27)), (11, .ref 7 [s27.toNat] true (dI v33)), (12, .val (i64 0)), (57, .ref 7 [] true (dM v18)), (58, .val (i64 (v18.length : Int))), (59, .val (i64 s20)), (64, .ref 7 [] true (dM v18)), (65, .val (i64 (v18.length : Int))), (66, .val (i64 s27))] rfl ?_ ?_
  · simp <;> simp [ieq, ilt, ile]
  refine VW.sqc fun K34 hK34 hCK34 => ?_
  -- region 11
  refine VW.ws tau_ok Sound.none [some 71, some 72, some 73] [(3, .val (.ptr [i64 a0_0, dI a0_1])), (4, .val (.ptr [i64 a1_0, dI a1_1])), (7, .ref 7 [] true (dM v18)), (8, .val (i64 s20)), (9, .ref 7 [s20.toNat] true (dI v26)), (11, .ref 7 [s27.toNat] true (dI v33)), (12, .val (i64 0)), (57, .ref 7 [] true (dM v18)), (58, .val (i64 (v18.length : Int))), (59, .val (i64 s20)), (64, .ref 7 [] true (dM v18)), (65, .val (i64 (v18.length : Int))), (66, .val (i64 s27)), (73, .val (.bool (ieq s20 s27)))] rfl ?_ ?_
  · simp <;> simp [ieq, ilt, ile]
  obtain ⟨x35, hx35, hx27o⟩ := bind_some hx27o
  refine VW.tlE [(3, .val (.ptr [i64 a0_0, dI a0_1])), (4, .val (.ptr [i64 a1_0, dI a1_1])), (7, .ref 7 [] true (dM v18)), (8, .val (i64 s20)), (9, .ref 7 [s20.toNat] true (dI v26)), (11, .ref 7 [s27.toNat] true (dI v33)), (12, .val (i64 x35)), (57, .ref 7 [] true (dM v18)), (58, .val (i64 (v18.length : Int))), (59, .val (i64 s20)), (64, .ref 7 [] true (dM v18)), (65, .val (i64 (v18.length : Int))), (66, .val (i64 s27))] (hCK34) ?_ ?_
  · clear hx35
    refine hK34 _ ?_
    -- region 13
    obtain ⟨v39, hv39, hx27o⟩ := bind_some hx27o
    refine VW.ws tau_ok (Sound.none.add 82 (i_Space_pair_ok hv39) rfl) [some 79, some 80, some 81, some 82, some 83, some 84] [(3, .val (.ptr [i64 a0_0, dI a0_1])), (4, .val (.ptr [i64 a1_0, dI a1_1])), (7, .ref 7 [] true (dM v18)), (8, .val (i64 s20)), (9, .ref 7 [s20.toNat] true (dI v26)), (57, .ref 7 [] true (dM v18)), (58, .val (i64 (v18.length : Int))), (59, .val (i64 s20)), (64, .ref 7 [] true (dM v18)), (65, .val (i64 (v18.length : Int))), (66, .val (i64 s27)), (84, .val (.bool (!(ieq v39 x35))))] rfl ?_ ?_
    · simp <;> simp [ieq, ilt, ile]
    refine VW.cond rfl (fun hb40 => ?_) (fun hb40 => ?_)
    rotate_left
    ·
      replace hb40 : ¬ (¬ v39 = x35) := by simpa [ieq, ilt, ile] using hb40
      rw [if_neg hb40] at hx27o
      refine VW.skip ?_
      refine hK32 _ ?_
      -- region 15
      refine VW.wr tau_ok Sound.none [some 85, some 66] [(3, .val (.ptr [i64 a0_0, dI a0_1])), (4, .val (.ptr [i64 a1_0, dI a1_1])), (7, .ref 7 [] true (dM v18)), (8, .val (i64 s20)), (9, .ref 7 [s20.toNat] true (dI v26)), (57, .ref 7 [] true (dM v18)), (58, .val (i64 (v18.length : Int))), (59, .val (i64 s20)), (64, .ref 7 [] true (dM v18)), (65, .val (i64 (v18.length : Int))), (66, .val (i64 (w64 (s27 + 1))))] rfl ?_ ?_
      · simp <;> simp [ieq, ilt, ile]
      cases hx27o
      exact ⟨_, rfl, Fits.of rfl⟩
    replace hb40 : ¬ v39 = x35 := by simpa [ieq, ilt, ile] using hb40
    rw [if_pos hb40] at hx27o
    -- region 14
    refine VW.ws tau_ok Sound.none [some 6] [(6, .val (.bool false))] rfl ?_ ?_
    · simp <;> simp [ieq, ilt, ile]
    cases hx27o
    have hq := hx27b _ rfl
    subst hq
    dsimp only at hx20o
    cases hx20o
    have hq := hx20b _ rfl
    subst hq
    dsimp only at h
    cases h
    refine VW.ret ?_
    simp [Post, PostM, PostC, PostC2, Nx, Bk]
  refine VW.cond rfl (fun hb37 => ?_) (fun hb37 => ?_)
  rotate_left
  ·
    replace hb37 : ¬ (s20 = s27) := by simpa [ieq, ilt, ile] using hb37
    rw [if_neg hb37] at hx35
    refine VW.skip ?_
    cases hx35
    exact Fits.of rfl
  replace hb37 : s20 = s27 := by simpa [ieq, ilt, ile] using hb37
  rw [if_pos hb37] at hx35
  -- region 12
  obtain ⟨v38, hv38, hx35⟩ := bind_some hx35
  obtain ⟨hv38a, hv38b, hv38c, hv38d⟩ := idx_some hv38
  refine VW.wr tau_ok Sound.none [some 74, some 75, some 76, some 77, some 78, some 12] [(3, .val (.ptr [i64 a0_0, dI a0_1])), (4, .val (.ptr [i64 a1_0, dI a1_1])), (7, .ref 7 [] true (dM v18)), (8, .val (i64 s20)), (9, .ref 7 [s20.toNat] true (dI v26)), (11, .ref 7 [s27.toNat] true (dI v33)), (12, .val (i64 v38)), (57, .ref 7 [] true (dM v18)), (58, .val (i64 (v18.length : Int))), (59, .val (i64 s20)), (64, .ref 7 [] true (dM v18)), (65, .val (i64 (v18.length : Int))), (66, .val (i64 s27))] rfl ?_ ?_
  · simp [hv38a, hv38b, hv38c, hv38d] <;> simp [ieq, ilt, ile]
  cases hx35
  exact Fits.of rfl

theorem i_checkOrthogonal_ok {a0_0 : Int} {a0_1 : List Int} {a1 : List (List Int)} {r : Int} (h : i_checkOrthogonal a0_0 a0_1 a1 = some r) :
    VCall Try.prog 91 [.agg [i64 a0_0, dI a0_1], dM a1] [.sc (i64 r)] := by
  unfold i_checkOrthogonal at h
  refine VCall.enter Try.call91 Try.func91 rfl 19 Try.ntmps91 (by simp) [.tmp 4] rfl ?_
  show VW _ _ _ (mk [(0, .val (.agg [i64 a0_0, dI a0_1])), (1, .val (dM a1))]) _
  -- region 0
  refine VW.ws tau_ok Sound.none [some 2, some 4] [(1, .val (dM a1)), (2, .val (.ptr [i64 a0_0, dI a0_1]))] rfl ?_ ?_
  · simp <;> simp [ieq, ilt, ile]
  refine VW.sqc fun K1 hK1 hCK1 => ?_
  refine VW.block ?_
  -- region 1
  obtain ⟨v2, hv2, h⟩ := bind_some h
  refine VW.ws tau_ok (Sound.none.add 7 (i_IsSpace_ok hv2) rfl) [some 6, some 7, some 8, some 5] [(1, .val (dM a1)), (2, .val (.ptr [i64 a0_0, dI a0_1])), (5, .val (.bool (!v2)))] rfl ?_ ?_
  · simp <;> simp [ieq, ilt, ile]
  refine VW.cond rfl (fun hb3 => ?_) (fun hb3 => ?_)
  ·
    replace hb3 : v2 = false := by simpa [ieq, ilt, ile] using hb3
    rw [if_pos hb3] at h
    -- region 2
    refine VW.ws tau_ok Sound.none [some 4] [(4, .val (i64 1))] rfl ?_ ?_
    · simp <;> simp [ieq, ilt, ile]
    cases h
    refine VW.ret ?_
    simp [Post, PostM, PostC, PostC2, Nx, Bk]
  replace hb3 : ¬ (v2 = false) := by simpa [ieq, ilt, ile] using hb3
  rw [if_neg hb3] at h
  -- region 3
  obtain ⟨v4, hv4, h⟩ := bind_some h
  refine VW.ws tau_ok (Sound.none.add 11 (i_Space_regular_ok hv4) rfl) [some 10, some 11, some 12, some 9] [(1, .val (dM a1)), (2, .val (.ptr [i64 a0_0, dI a0_1])), (9, .val (.bool (!v4)))] rfl ?_ ?_
  · simp <;> simp [ieq, ilt, ile]
  refine VW.cond rfl (fun hb5 => ?_) (fun hb5 => ?_)
  ·
    replace hb5 : v4 = false := by simpa [ieq, ilt, ile] using hb5
    rw [if_pos hb5] at h
    -- region 4
    refine VW.ws tau_ok Sound.none [some 4] [(4, .val (i64 5))] rfl ?_ ?_
    · simp <;> simp [ieq, ilt, ile]
    cases h
    refine VW.ret ?_
    simp [Post, PostM, PostC, PostC2, Nx, Bk]
  replace hb5 : ¬ (v4 = false) := by simpa [ieq, ilt, ile] using hb5
  rw [if_neg hb5] at h
  -- region 5
  obtain ⟨v6, hv6, h⟩ := bind_some h
  refine VW.ws tau_ok (Sound.none.add 17 (i_isIsometry_ok hv6) rfl) [some 14, some 15, some 16, some 17, some 18, some 13] [(13, .val (.bool (!v6)))] rfl ?_ ?_
  · simp <;> simp [ieq, ilt, ile]
  refine VW.cond rfl (fun hb7 => ?_) (fun hb7 => ?_)
  ·
    replace hb7 : v6 = false := by simpa [ieq, ilt, ile] using hb7
    rw [if_pos hb7] at h
    -- region 6
    refine VW.ws tau_ok Sound.none [some 4] [(4, .val (i64 2))] rfl ?_ ?_
    · simp <;> simp [ieq, ilt, ile]
    cases h
    refine VW.ret ?_
    simp [Post, PostM, PostC, PostC2, Nx, Bk]
  replace hb7 : ¬ (v6 = false) := by simpa [ieq, ilt, ile] using hb7
  rw [if_neg hb7] at h
  refine VW.skip ?_
  refine hK1 _ ?_
  -- region 7
  refine VW.ws tau_ok Sound.none [some 4] [(4, .val (i64 0))] rfl ?_ ?_
  · simp <;> simp [ieq, ilt, ile]
  cases h
  refine VW.ret ?_
  simp [Post, PostM, PostC, PostC2, Nx, Bk]

theorem i_unit_ok {a0 : Int} {r : List (List Int)} (h : i_unit a0 = some r) :
    VCall Try.prog 151 [i64 a0] [.own true (dM r)] := by
  unfold i_unit at h
  refine VCall.enter Try.call151 Try.func151 rfl 22 Try.ntmps151 (by simp) [.tmp 2] rfl ?_
  show VW _ _ _ (mk [(0, .val (i64 a0))]) _
  -- region 0
  refine VW.ws tau_ok Sound.none [some 2] [(0, .val (i64 a0))] rfl ?_ ?_
  · simp <;> simp [ieq, ilt, ile]
  -- region 1
  refine VW.ws tau_ok Sound.none [some 6, some 3] [(0, .val (i64 a0)), (3, .ref 3 [] true (dM []))] rfl ?_ ?_
  · simp <;> simp [ieq, ilt, ile]
  refine VW.sqc fun K1 hK1 hCK1 => ?_
  -- region 2
  refine VW.ws tau_ok Sound.none [some 7, some 8] [(0, .val (i64 a0)), (3, .ref 3 [] true (dM [])), (7, .val (i64 a0)), (8, .val (i64 0))] rfl ?_ ?_
  · simp <;> simp [ieq, ilt, ile]
  obtain ⟨x2, hx2, h⟩ := bind_some h
  refine VW.tlE [(3, .ref 3 [] true (dM x2))] (hCK1) ?_ ?_
  · clear hx2
    refine hK1 _ ?_
    -- region 9
    refine VW.ws tau_ok Sound.none [some 21, some 2] [(2, .ref 2 [] true (dM x2))] rfl ?_ ?_
    · simp <;> simp [ieq, ilt, ile]
    cases h
    refine VW.ret ?_
    simp [Post, PostM, PostC, PostC2, Nx, Bk]
  refine VW.block ?_
  refine VW.loopF (i_unit_L0 a0) (fun s2 => [(0, .val (i64 a0)), (3, .ref 3 [] true (dM s2.1)), (7, .val (i64 a0)), (8, .val (i64 s2.2))]) hx2 (Fits.of rfl) ?_
  clear hx2
  intro s2 ox2 hx2o hx2b
  unfold i_unit_L0 at hx2o
  -- region 3
  refine VW.ws tau_ok Sound.none [some 9] [(0, .val (i64 a0)), (3, .ref 3 [] true (dM s2.1)), (7, .val (i64 a0)), (8, .val (i64 s2.2)), (9, .val (.bool (ilt s2.2 a0)))] rfl ?_ ?_
  · simp <;> simp [ieq, ilt, ile]
  refine VW.sqc fun K4 hK4 hCK4 => ?_
  refine VW.cond rfl (fun hb5 => ?_) (fun hb5 => ?_)
  rotate_left
  ·
    replace hb5 : ¬ (s2.2 < a0) := by simpa [ieq, ilt, ile] using hb5
    rw [if_neg hb5] at hx2o
    refine VW.exit ?_
    cases hx2o
    have hq := hx2b _ rfl
    subst hq
    exact Fits.of rfl
  replace hb5 : s2.2 < a0 := by simpa [ieq, ilt, ile] using hb5
  rw [if_pos hb5] at hx2o
  refine VW.skip ?_
  refine hK4 _ ?_
  refine VW.sqc fun K6 hK6 hCK6 => ?_
  refine VW.block ?_
  -- region 4
  refine VW.ws tau_ok Sound.none [some 10, some 4] [(0, .val (i64 a0)), (3, .ref 3 [] true (dM s2.1)), (4, .val (i64 s2.2)), (7, .val (i64 a0)), (8, .val (i64 s2.2))] rfl ?_ ?_
  · simp <;> simp [ieq, ilt, ile]
  -- region 5
  obtain ⟨hc7, hx2o⟩ := chk_some hx2o
  have hc7s := hc7
  try simp at hc7s
  refine VW.ws tau_ok Sound.none [some 11, some 12, some 5] [(0, .val (i64 a0)), (3, .ref 3 [] true (dM s2.1)), (4, .val (i64 s2.2)), (5, .ref 5 [] true (dI (List.replicate a0.toNat 0))), (7, .val (i64 a0)), (8, .val (i64 s2.2))] rfl ?_ ?_
  · simp [hc7, hc7s] <;> simp [ieq, ilt, ile]
  obtain ⟨l8, hl8, hx2o⟩ := bind_some hx2o
  rw [Option.some.inj hl8]
  -- region 6
  obtain ⟨v9, hv9, hx2o⟩ := bind_some hx2o
  obtain ⟨hv9a, hv9b, hv9c, hv9d⟩ := idx_some hv9
  refine VW.ws tau_ok Sound.none [some 13, some 14, some 15, none] [(0, .val (i64 a0)), (3, .ref 3 [] true (dM s2.1)), (5, .ref 5 [] true (dI (l8.set s2.2.toNat 1))), (7, .val (i64 a0)), (8, .val (i64 s2.2))] rfl ?_ ?_
  · simp [hv9a, hv9b, hv9c, hv9d] <;> simp [ieq, ilt, ile]
  -- region 7
  obtain ⟨hc10, hx2o⟩ := chk_some hx2o
  have hc10s := hc10
  try simp at hc10s
  refine VW.wr tau_ok Sound.none [some 16, some 17, some 18, some 19, some 3] [(0, .val (i64 a0)), (3, .ref 3 [] true (dM (s2.1 ++ [l8.set s2.2.toNat 1]))), (7, .val (i64 a0)), (8, .val (i64 s2.2))] rfl ?_ ?_
  · simp [hc10, hc10s] <;> simp [ieq, ilt, ile]
  refine hK6 _ ?_
  -- region 8
  refine VW.wr tau_ok Sound.none [some 20, some 8] [(0, .val (i64 a0)), (3, .ref 3 [] true (dM (s2.1 ++ [l8.set s2.2.toNat 1]))), (7, .val (i64 a0)), (8, .val (i64 (w64 (s2.2 + 1))))] rfl ?_ ?_
  · simp <;> simp [ieq, ilt, ile]
  cases hx2o
  exact ⟨_, rfl, Fits.of rfl⟩

theorem i_lead_ok {a0 : List Int} {r : Int} (h : i_lead a0 = some r) :
    VCall Try.prog 235 [dI a0] [.sc (i64 r)] := by
  unfold i_lead at h
  refine VCall.enter Try.call235 Try.func235 rfl 18 Try.ntmps235 (by simp) [.tmp 2] rfl ?_
  show VW _ _ _ (mk [(0, .val (dI a0))]) _
  -- region 0
  refine VW.ws tau_ok Sound.none [some 2] [(0, .val (dI a0))] rfl ?_ ?_
  · simp <;> simp [ieq, ilt, ile]
  -- region 1
  refine VW.ws tau_ok Sound.none [some 3] [(0, .val (dI a0)), (3, .val (i64 0))] rfl ?_ ?_
  · simp <;> simp [ieq, ilt, ile]
  refine VW.sqc fun K1 hK1 hCK1 => ?_
  obtain ⟨x2, hx2, h⟩ := bind_some h
  refine VW.tlE [(3, .val (i64 x2))] (hCK1) ?_ ?_
  · clear hx2
    refine hK1 _ ?_
    -- region 4
    refine VW.ws tau_ok Sound.none [some 17, some 2] [(2, .val (i64 x2))] rfl ?_ ?_
    · simp <;> simp [ieq, ilt, ile]
    cases h
    refine VW.ret ?_
    simp [Post, PostM, PostC, PostC2, Nx, Bk]
  refine VW.block ?_
  refine VW.loopF (i_lead_L0 a0) (fun s2 => [(0, .val (dI a0)), (3, .val (i64 s2))]) hx2 (Fits.of rfl) ?_
  clear hx2
  intro s2 ox2 hx2o hx2b
  unfold i_lead_L0 at hx2o
  refine VW.sqc fun K4 hK4 hCK4 => ?_
  -- region 2
  obtain ⟨x7, hx7, hx2o⟩ := bind_some hx2o
  refine VW.cut [(0, .val (dI a0)), (3, .val (i64 s2)), (14, .val (.bool x7))] ?_ fun hy => ?_
  rotate_left
  · clear hx2o
    by_cases hp5 : s2 < (a0.length : Int)
    · rw [if_pos hp5] at hx7
      have hp5b : ilt s2 (a0.length : Int) = true := by simpa [ieq, ilt, ile] using hp5
      have hp5s := hp5b
      try simp at hp5s
      obtain ⟨v6, hv6, hx7⟩ := bind_some hx7
      obtain ⟨hv6a, hv6b, hv6c, hv6d⟩ := idx_some hv6
      cases hx7
      refine VW.ws tau_ok Sound.none [some 4, some 5, some 6, some 7, some 8, some 9, some 10, some 11, some 12, some 13, some 14] _ rfl ?_ hy
      simp [hp5b, hp5s, hv6a, hv6b, hv6c, hv6d] <;> simp [ieq, ilt, ile]
    · rw [if_neg hp5] at hx7
      have hp5b : ilt s2 (a0.length : Int) = false := by simpa [ieq, ilt, ile] using hp5
      have hp5s := hp5b
      try simp at hp5s
      cases hx7
      refine VW.ws tau_ok Sound.none [some 4, some 5, some 6, some 7, some 8, some 9, some 10, some 11, some 12, some 13, some 14] _ rfl ?_ hy
      simp [hp5b, hp5s] <;> simp [ieq, ilt, ile]
  refine VW.cond rfl (fun hb8 => ?_) (fun hb8 => ?_)
  rotate_left
  ·
    replace hb8 : ¬ (x7 = true) := by simpa [ieq, ilt, ile] using hb8
    rw [if_neg hb8] at hx2o
    refine VW.exit ?_
    cases hx2o
    have hq := hx2b _ rfl
    subst hq
    exact Fits.of rfl
  replace hb8 : x7 = true := by simpa [ieq, ilt, ile] using hb8
  rw [if_pos hb8] at hx2o
  refine VW.skip ?_
  refine hK4 _ ?_
  refine VW.block ?_
  -- region 3
  refine VW.wr tau_ok Sound.none [some 15, some 16, some 3] [(0, .val (dI a0)), (3, .val (i64 (w64 (s2 + 1))))] rfl ?_ ?_
  · simp <;> simp [ieq, ilt, ile]
  cases hx2o
  exact ⟨_, rfl, Fits.of rfl⟩

theorem i_isZero_ok {a0 : List Int} {r : Bool} (h : i_isZero a0 = some r) :
    VCall Try.prog 177 [dI a0] [.sc (.bool r)] := by
  unfold i_isZero at h
  refine VCall.enter Try.call177 Try.func177 rfl 8 Try.ntmps177 (by simp) [.tmp 2] rfl ?_
  show VW _ _ _ (mk [(0, .val (dI a0))]) _
  -- region 0
  refine VW.ws tau_ok Sound.none [some 2] [(0, .val (dI a0))] rfl ?_ ?_
  · simp <;> simp [ieq, ilt, ile]
  -- region 1
  obtain ⟨v1, hv1, h⟩ := bind_some h
  refine VW.ws tau_ok (Sound.none.add 4 (i_lead_ok hv1) rfl) [some 3, some 4, some 5, some 6, some 7, some 2] [(2, .val (.bool (ieq v1 (a0.length : Int))))] rfl ?_ ?_
  · simp <;> simp [ieq, ilt, ile]
  cases h
  refine VW.ret ?_
  simp [Post, PostM, PostC, PostC2, Nx, Bk]

theorem i_Space_norm_ok {a0_0 : Int} {a0_1 : List Int} {a1 : List Int} {r : Int} (h : i_Space_norm a0_0 a0_1 a1 = some r) :
    VCall Try.prog 178 [.agg [i64 a0_0, dI a0_1], dI a1] [.sc (i64 r)] := by
  unfold i_Space_norm at h
  refine VCall.enter Try.call178 Try.func178 rfl 9 Try.ntmps178 (by simp) [.tmp 4] rfl ?_
  show VW _ _ _ (mk [(0, .val (.agg [i64 a0_0, dI a0_1])), (1, .val (dI a1))]) _
  -- region 0
  refine VW.ws tau_ok Sound.none [some 2, some 4] [(1, .val (dI a1)), (2, .val (.ptr [i64 a0_0, dI a0_1]))] rfl ?_ ?_
  · simp <;> simp [ieq, ilt, ile]
  -- region 1
  obtain ⟨v1, hv1, h⟩ := bind_some h
  refine VW.ws tau_ok (Sound.none.add 8 (i_Space_pair_ok hv1) rfl) [some 5, some 6, some 7, some 8, some 4] [(4, .val (i64 v1))] rfl ?_ ?_
  · simp <;> simp [ieq, ilt, ile]
  cases h
  refine VW.ret ?_
  simp [Post, PostM, PostC, PostC2, Nx, Bk]

theorem i_Space_reflected_ok {a0_0 : Int} {a0_1 : List Int} {a1 : List Int} {a2 : List Int} {r : List Int} (h : i_Space_reflected a0_0 a0_1 a1 a2 = some r) :
    VCall Try.prog 238 [.agg [i64 a0_0, dI a0_1], dI a1, dI a2] [.own true (dI r)] := by
  unfold i_Space_reflected at h
  refine VCall.enter Try.call238 Try.func238 rfl 24 Try.ntmps238 (by simp) [.tmp 6] rfl ?_
  show VW _ _ _ (mk [(0, .val (.agg [i64 a0_0, dI a0_1])), (1, .val (dI a1)), (2, .val (dI a2))]) _
  -- region 0
  refine VW.ws tau_ok Sound.none [some 3, some 6] [(1, .val (dI a1)), (2, .val (dI a2)), (3, .val (.ptr [i64 a0_0, dI a0_1]))] rfl ?_ ?_
  · simp <;> simp [ieq, ilt, ile]
  -- region 1
  obtain ⟨v1, hv1, h⟩ := bind_some h
  obtain ⟨v2, hv2, h⟩ := bind_some h
  obtain ⟨v3, hv3, h⟩ := bind_some h
  obtain ⟨v4, hv4, h⟩ := bind_some h
  obtain ⟨v5, hv5, h⟩ := bind_some h
  obtain ⟨v6, hv6, h⟩ := bind_some h
  refine VW.wds tau_ok ((((((Sound.none.add 8 (i_Space_field_ok hv1) rfl).add 14 (i_Space_pair_ok hv2) rfl).add 17 (i_Space_field_ok hv3) rfl).add 20 (i_Space_norm_ok hv4) rfl).add 21 (i_field_inv_ok hv5) rfl).add 23 (i_field_plus_ok hv6) rfl) try_mixed [some 7, some 8, some 9, some 10, some 11, some 12, some 13, some 14, some 15, some 16, some 17, some 18, some 19, some 20, some 21, some 22, some 23, some 6] [(6, .ref 6 [] true (dI v6))] 17 rfl (by kernel_rfl) (by rfl) ?_ ?_
  · simp <;> simp [ieq, ilt, ile]
  cases h
  refine VW.ret ?_
  simp [Post, PostM, PostC, PostC2, Nx, Bk]

theorem i_Space_reflection_c1_ok {a0 : List Int} {a1_0 : Int} {a1_1 : List Int} {a2_0 : List Int} {r : List Int} (h : i_Space_reflection_c1 a0 a1_0 a1_1 a2_0 = some r) :
    VCall Try.prog 237 [dI a0, .ptr [i64 a1_0, dI a1_1], .ptr [dI a2_0]] [.own true (dI r)] := by
  unfold i_Space_reflection_c1 at h
  refine VCall.enter Try.call237 Try.func237 rfl 9 Try.ntmps237 (by simp) [.tmp 4] rfl ?_
  show VW _ _ _ (mk [(0, .val (dI a0)), (1, .val (.ptr [i64 a1_0, dI a1_1])), (2, .val (.ptr [dI a2_0]))]) _
  -- region 0
  refine VW.ws tau_ok Sound.none [some 4] [(0, .val (dI a0)), (1, .val (.ptr [i64 a1_0, dI a1_1])), (2, .val (.ptr [dI a2_0]))] rfl ?_ ?_
  · simp <;> simp [ieq, ilt, ile]
  -- region 1
  obtain ⟨v1, hv1, h⟩ := bind_some h
  refine VW.ws tau_ok (Sound.none.add 8 (i_Space_reflected_ok hv1) rfl) [some 5, some 6, some 7, some 8, some 4] [(4, .ref 4 [] true (dI v1))] rfl ?_ ?_
  · simp <;> simp [ieq, ilt, ile]
  cases h
  refine VW.ret ?_
  simp [Post, PostM, PostC, PostC2, Nx, Bk]

theorem i_Space_matrixBy_of_i_Space_reflection_c1_ok {a0_0 : Int} {a0_1 : List Int} {a1_0_0 : Int} {a1_0_1 : List Int} {a1_1_0 : List Int} {r : List (List Int)} (h : i_Space_matrixBy_of_i_Space_reflection_c1 a0_0 a0_1 a1_0_0 a1_0_1 a1_1_0 = some r) :
    VCall Try.prog 236 [.agg [i64 a0_0, dI a0_1], .fn 237 [.ptr [i64 a1_0_0, dI a1_0_1], .ptr [dI a1_1_0]]] [.own true (dM r)] := by
  unfold i_Space_matrixBy_of_i_Space_reflection_c1 at h
  refine VCall.enter Try.call236 Try.func236 rfl 26 Try.ntmps236 (by simp) [.tmp 4] rfl ?_
  show VW _ _ _ (mk [(0, .val (.agg [i64 a0_0, dI a0_1])), (1, .val (.fn 237 [.ptr [i64 a1_0_0, dI a1_0_1], .ptr [dI a1_1_0]]))]) _
  -- region 0
  refine VW.ws tau_ok Sound.none [some 2, some 4] [(1, .val (.fn 237 [.ptr [i64 a1_0_0, dI a1_0_1], .ptr [dI a1_1_0]])), (2, .val (.ptr [i64 a0_0, dI a0_1]))] rfl ?_ ?_
  · simp <;> simp [ieq, ilt, ile]
  -- region 1
  refine VW.ws tau_ok Sound.none [some 8, some 5] [(1, .val (.fn 237 [.ptr [i64 a1_0_0, dI a1_0_1], .ptr [dI a1_1_0]])), (2, .val (.ptr [i64 a0_0, dI a0_1])), (5, .ref 5 [] true (dM []))] rfl ?_ ?_
  · simp <;> simp [ieq, ilt, ile]
  refine VW.sqc fun K1 hK1 hCK1 => ?_
  -- region 2
  obtain ⟨v2, hv2, h⟩ := bind_some h
  obtain ⟨v3, hv3, h⟩ := bind_some h
  refine VW.ws tau_ok ((Sound.none.add 10 (i_Space_dim_ok hv2) rfl).add 11 (i_unit_ok hv3) rfl) [some 9, some 10, some 11, some 12, some 13] [(1, .val (.fn 237 [.ptr [i64 a1_0_0, dI a1_0_1], .ptr [dI a1_1_0]])), (5, .ref 5 [] true (dM [])), (11, .ref 11 [] true (dM v3)), (12, .val (i64 (v3.length : Int))), (13, .val (i64 0))] rfl ?_ ?_
  · simp <;> simp [ieq, ilt, ile]
  obtain ⟨x4, hx4, h⟩ := bind_some h
  refine VW.tlE [(5, .ref 5 [] true (dM x4))] (hCK1) ?_ ?_
  · clear hx4
    refine hK1 _ ?_
    -- region 7
    obtain ⟨v12, hv12, h⟩ := bind_some h
    refine VW.ws tau_ok (Sound.none.add 25 (i_transpose_ok hv12) rfl) [some 24, some 25, some 4] [(4, .ref 4 [] true (dM v12))] rfl ?_ ?_
    · simp <;> simp [ieq, ilt, ile]
    cases h
    refine VW.ret ?_
    simp [Post, PostM, PostC, PostC2, Nx, Bk]
  refine VW.block ?_
  refine VW.loopF (i_Space_matrixBy_of_i_Space_reflection_c1_L0 a1_0_0 a1_0_1 a1_1_0 v3) (fun s4 => [(1, .val (.fn 237 [.ptr [i64 a1_0_0, dI a1_0_1], .ptr [dI a1_1_0]])), (5, .ref 5 [] true (dM s4.1)), (11, .ref 11 [] true (dM v3)), (12, .val (i64 (v3.length : Int))), (13, .val (i64 s4.2))]) hx4 (Fits.of rfl) ?_
  clear hx4
  intro s4 ox4 hx4o hx4b
  unfold i_Space_matrixBy_of_i_Space_reflection_c1_L0 at hx4o
  -- region 3
  refine VW.ws tau_ok Sound.none [some 14] [(1, .val (.fn 237 [.ptr [i64 a1_0_0, dI a1_0_1], .ptr [dI a1_1_0]])), (5, .ref 5 [] true (dM s4.1)), (11, .ref 11 [] true (dM v3)), (12, .val (i64 (v3.length : Int))), (13, .val (i64 s4.2)), (14, .val (.bool (ilt s4.2 (v3.length : Int))))] rfl ?_ ?_
  · simp <;> simp [ieq, ilt, ile]
  refine VW.sqc fun K6 hK6 hCK6 => ?_
  refine VW.cond rfl (fun hb7 => ?_) (fun hb7 => ?_)
  rotate_left
  ·
    replace hb7 : ¬ (s4.2 < (v3.length : Int)) := by simpa [ieq, ilt, ile] using hb7
    rw [if_neg hb7] at hx4o
    refine VW.exit ?_
    cases hx4o
    have hq := hx4b _ rfl
    subst hq
    exact Fits.of rfl
  replace hb7 : s4.2 < (v3.length : Int) := by simpa [ieq, ilt, ile] using hb7
  rw [if_pos hb7] at hx4o
  refine VW.skip ?_
  refine hK6 _ ?_
  refine VW.sqc fun K8 hK8 hCK8 => ?_
  refine VW.block ?_
  -- region 4
  obtain ⟨v9, hv9, hx4o⟩ := bind_some hx4o
  obtain ⟨hv9a, hv9b, hv9c, hv9d⟩ := idx_some hv9
  refine VW.ws tau_ok Sound.none [some 15, some 16, some 7] [(1, .val (.fn 237 [.ptr [i64 a1_0_0, dI a1_0_1], .ptr [dI a1_1_0]])), (5, .ref 5 [] true (dM s4.1)), (7, .ref 11 [s4.2.toNat] true (dI v9)), (11, .ref 11 [] true (dM v3)), (12, .val (i64 (v3.length : Int))), (13, .val (i64 s4.2))] rfl ?_ ?_
  · simp [hv9a, hv9b, hv9c, hv9d] <;> simp [ieq, ilt, ile]
  -- region 5
  obtain ⟨v10, hv10, hx4o⟩ := bind_some hx4o
  obtain ⟨hc11, hx4o⟩ := chk_some hx4o
  have hc11s := hc11
  try simp at hc11s
  refine VW.wr tau_ok (Sound.none.add 20 (i_Space_reflection_c1_ok hv10) rfl) [some 17, some 18, some 19, some 20, some 21, some 22, some 5] [(1, .val (.fn 237 [.ptr [i64 a1_0_0, dI a1_0_1], .ptr [dI a1_1_0]])), (5, .ref 5 [] true (dM (s4.1 ++ [v10]))), (11, .ref 11 [] true (dM v3)), (12, .val (i64 (v3.length : Int))), (13, .val (i64 s4.2))] rfl ?_ ?_
  · simp [hc11, hc11s] <;> simp [ieq, ilt, ile]
  refine hK8 _ ?_
  -- region 6
  refine VW.wr tau_ok Sound.none [some 23, some 13] [(1, .val (.fn 237 [.ptr [i64 a1_0_0, dI a1_0_1], .ptr [dI a1_1_0]])), (5, .ref 5 [] true (dM (s4.1 ++ [v10]))), (11, .ref 11 [] true (dM v3)), (12, .val (i64 (v3.length : Int))), (13, .val (i64 (w64 (s4.2 + 1))))] rfl ?_ ?_
  · simp <;> simp [ieq, ilt, ile]
  cases hx4o
  exact ⟨_, rfl, Fits.of rfl⟩

theorem i_Space_reflection_ok {a0_0 : Int} {a0_1 : List Int} {a1 : List Int} {r : List (List Int)} (h : i_Space_reflection a0_0 a0_1 a1 = some r) :
    VCall Try.prog 179 [.agg [i64 a0_0, dI a0_1], dI a1] [.own true (dM r)] := by
  unfold i_Space_reflection at h
  refine VCall.enter Try.call179 Try.func179 rfl 8 Try.ntmps179 (by simp) [.tmp 4] rfl ?_
  show VW _ _ _ (mk [(0, .val (.agg [i64 a0_0, dI a0_1])), (1, .val (dI a1))]) _
  -- region 0
  refine VW.ws tau_ok Sound.none [some 2, some 3, some 4] [(2, .val (.ptr [i64 a0_0, dI a0_1])), (3, .val (.ptr [dI a1]))] rfl ?_ ?_
  · simp <;> simp [ieq, ilt, ile]
  -- region 1
  obtain ⟨v1, hv1, h⟩ := bind_some h
  refine VW.ws tau_ok (Sound.none.add 7 (i_Space_matrixBy_of_i_Space_reflection_c1_ok hv1) rfl) [some 5, some 6, some 7, some 4] [(4, .ref 4 [] true (dM v1))] rfl ?_ ?_
  · simp <;> simp [ieq, ilt, ile]
  cases h
  refine VW.ret ?_
  simp [Post, PostM, PostC, PostC2, Nx, Bk]

theorem i_field_apply_ok {a0 : Int} {a1 : List (List Int)} {a2 : List Int} {r : List Int} (h : i_field_apply a0 a1 a2 = some r) :
    VCall Try.prog 213 [i64 a0, dM a1, dI a2] [.own true (dI r)] := by
  unfold i_field_apply at h
  refine VCall.enter Try.call213 Try.func213 rfl 26 Try.ntmps213 (by simp) [.tmp 6] rfl ?_
  show VW _ _ _ (mk [(0, .val (i64 a0)), (1, .val (dM a1)), (2, .val (dI a2))]) _
  -- region 0
  refine VW.ws tau_ok Sound.none [some 6] [(0, .val (i64 a0)), (1, .val (dM a1)), (2, .val (dI a2))] rfl ?_ ?_
  · simp <;> simp [ieq, ilt, ile]
  -- region 1
  refine VW.ws tau_ok Sound.none [some 10, some 7] [(0, .val (i64 a0)), (1, .val (dM a1)), (2, .val (dI a2)), (7, .ref 7 [] true (dI []))] rfl ?_ ?_
  · simp <;> simp [ieq, ilt, ile]
  refine VW.sqc fun K1 hK1 hCK1 => ?_
  -- region 2
  refine VW.ws tau_ok Sound.none [some 11, some 12, some 13] [(0, .val (i64 a0)), (2, .val (dI a2)), (7, .ref 7 [] true (dI [])), (11, .val (dM a1)), (12, .val (i64 (a1.length : Int))), (13, .val (i64 0))] rfl ?_ ?_
  · simp <;> simp [ieq, ilt, ile]
  obtain ⟨x2, hx2, h⟩ := bind_some h
  refine VW.tlE [(7, .ref 7 [] true (dI x2))] (hCK1) ?_ ?_
  · clear hx2
    refine hK1 _ ?_
    -- region 7
    refine VW.ws tau_ok Sound.none [some 25, some 6] [(6, .ref 6 [] true (dI x2))] rfl ?_ ?_
    · simp <;> simp [ieq, ilt, ile]
    cases h
    refine VW.ret ?_
    simp [Post, PostM, PostC, PostC2, Nx, Bk]
  refine VW.block ?_
  refine VW.loopF (i_field_apply_L0 a0 a1 a2) (fun s2 => [(0, .val (i64 a0)), (2, .val (dI a2)), (7, .ref 7 [] true (dI s2.1)), (11, .val (dM a1)), (12, .val (i64 (a1.length : Int))), (13, .val (i64 s2.2))]) hx2 (Fits.of rfl) ?_
  clear hx2
  intro s2 ox2 hx2o hx2b
  unfold i_field_apply_L0 at hx2o
  -- region 3
  refine VW.ws tau_ok Sound.none [some 14] [(0, .val (i64 a0)), (2, .val (dI a2)), (7, .ref 7 [] true (dI s2.1)), (11, .val (dM a1)), (12, .val (i64 (a1.length : Int))), (13, .val (i64 s2.2)), (14, .val (.bool (ilt s2.2 (a1.length : Int))))] rfl ?_ ?_
  · simp <;> simp [ieq, ilt, ile]
  refine VW.sqc fun K4 hK4 hCK4 => ?_
  refine VW.cond rfl (fun hb5 => ?_) (fun hb5 => ?_)
  rotate_left
  ·
    replace hb5 : ¬ (s2.2 < (a1.length : Int)) := by simpa [ieq, ilt, ile] using hb5
    rw [if_neg hb5] at hx2o
    refine VW.exit ?_
    cases hx2o
    have hq := hx2b _ rfl
    subst hq
    exact Fits.of rfl
  replace hb5 : s2.2 < (a1.length : Int) := by simpa [ieq, ilt, ile] using hb5
  rw [if_pos hb5] at hx2o
  refine VW.skip ?_
  refine hK4 _ ?_
  refine VW.sqc fun K6 hK6 hCK6 => ?_
  refine VW.block ?_
  -- region 4
  obtain ⟨v7, hv7, hx2o⟩ := bind_some hx2o
  obtain ⟨hv7a, hv7b, hv7c, hv7d⟩ := idx_some hv7
  refine VW.ws tau_ok Sound.none [some 15, some 16, some 9] [(0, .val (i64 a0)), (2, .val (dI a2)), (7, .ref 7 [] true (dI s2.1)), (9, .val (dI v7)), (11, .val (dM a1)), (12, .val (i64 (a1.length : Int))), (13, .val (i64 s2.2))] rfl ?_ ?_
  · simp [hv7a, hv7b, hv7c, hv7d] <;> simp [ieq, ilt, ile]
  -- region 5
  obtain ⟨v8, hv8, hx2o⟩ := bind_some hx2o
  obtain ⟨hc9, hx2o⟩ := chk_some hx2o
  have hc9s := hc9
  try simp at hc9s
  refine VW.wr tau_ok (Sound.none.add 21 (i_field_dot_ok hv8) rfl) [some 17, some 18, some 19, some 20, some 21, some 22, some 23, some 7] [(0, .val (i64 a0)), (2, .val (dI a2)), (7, .ref 7 [] true (dI (s2.1 ++ [v8]))), (11, .val (dM a1)), (12, .val (i64 (a1.length : Int))), (13, .val (i64 s2.2))] rfl ?_ ?_
  · simp [hc9, hc9s] <;> simp [ieq, ilt, ile]
  refine hK6 _ ?_
  -- region 6
  refine VW.wr tau_ok Sound.none [some 24, some 13] [(0, .val (i64 a0)), (2, .val (dI a2)), (7, .ref 7 [] true (dI (s2.1 ++ [v8]))), (11, .val (dM a1)), (12, .val (i64 (a1.length : Int))), (13, .val (i64 (w64 (s2.2 + 1))))] rfl ?_ ?_
  · simp <;> simp [ieq, ilt, ile]
  cases hx2o
  exact ⟨_, rfl, Fits.of rfl⟩

theorem i_field_times_ok {a0 : Int} {a1 : List (List Int)} {a2 : List (List Int)} {r : List (List Int)} (h : i_field_times a0 a1 a2 = some r) :
    VCall Try.prog 153 [i64 a0, dM a1, dM a2] [.own true (dM r)] := by
  unfold i_field_times at h
  refine VCall.enter Try.call153 Try.func153 rfl 29 Try.ntmps153 (by simp) [.tmp 6] rfl ?_
  show VW _ _ _ (mk [(0, .val (i64 a0)), (1, .val (dM a1)), (2, .val (dM a2))]) _
  -- region 0
  refine VW.ws tau_ok Sound.none [some 6] [(0, .val (i64 a0)), (1, .val (dM a1)), (2, .val (dM a2))] rfl ?_ ?_
  · simp <;> simp [ieq, ilt, ile]
  -- region 1
  obtain ⟨v1, hv1, h⟩ := bind_some h
  refine VW.ws tau_ok (Sound.none.add 12 (i_transpose_ok hv1) rfl) [some 11, some 12, some 13, some 7, some 8] [(0, .val (i64 a0)), (1, .val (dM a1)), (7, .ref 7 [] true (dM v1)), (8, .ref 8 [] true (dM []))] rfl ?_ ?_
  · simp <;> simp [ieq, ilt, ile]
  refine VW.sqc fun K2 hK2 hCK2 => ?_
  -- region 2
  refine VW.ws tau_ok Sound.none [some 14, some 15, some 16] [(0, .val (i64 a0)), (7, .ref 7 [] true (dM v1)), (8, .ref 8 [] true (dM [])), (14, .val (dM a1)), (15, .val (i64 (a1.length : Int))), (16, .val (i64 0))] rfl ?_ ?_
  · simp <;> simp [ieq, ilt, ile]
  obtain ⟨x3, hx3, h⟩ := bind_some h
  refine VW.tlE [(8, .ref 8 [] true (dM x3))] (hCK2) ?_ ?_
  · clear hx3
    refine hK2 _ ?_
    -- region 7
    refine VW.ws tau_ok Sound.none [some 28, some 6] [(6, .ref 6 [] true (dM x3))] rfl ?_ ?_
    · simp <;> simp [ieq, ilt, ile]
    cases h
    refine VW.ret ?_
    simp [Post, PostM, PostC, PostC2, Nx, Bk]
  refine VW.block ?_
  refine VW.loopF (i_field_times_L0 a0 a1 v1) (fun s3 => [(0, .val (i64 a0)), (7, .ref 7 [] true (dM v1)), (8, .ref 8 [] true (dM s3.1)), (14, .val (dM a1)), (15, .val (i64 (a1.length : Int))), (16, .val (i64 s3.2))]) hx3 (Fits.of rfl) ?_
  clear hx3
  intro s3 ox3 hx3o hx3b
  unfold i_field_times_L0 at hx3o
  -- region 3
  refine VW.ws tau_ok Sound.none [some 17] [(0, .val (i64 a0)), (7, .ref 7 [] true (dM v1)), (8, .ref 8 [] true (dM s3.1)), (14, .val (dM a1)), (15, .val (i64 (a1.length : Int))), (16, .val (i64 s3.2)), (17, .val (.bool (ilt s3.2 (a1.length : Int))))] rfl ?_ ?_
  · simp <;> simp [ieq, ilt, ile]
  refine VW.sqc fun K5 hK5 hCK5 => ?_
  refine VW.cond rfl (fun hb6 => ?_) (fun hb6 => ?_)
  rotate_left
  ·
    replace hb6 : ¬ (s3.2 < (a1.length : Int)) := by simpa [ieq, ilt, ile] using hb6
    rw [if_neg hb6] at hx3o
    refine VW.exit ?_
    cases hx3o
    have hq := hx3b _ rfl
    subst hq
    exact Fits.of rfl
  replace hb6 : s3.2 < (a1.length : Int) := by simpa [ieq, ilt, ile] using hb6
  rw [if_pos hb6] at hx3o
  refine VW.skip ?_
  refine hK5 _ ?_
  refine VW.sqc fun K7 hK7 hCK7 => ?_
  refine VW.block ?_
  -- region 4
  obtain ⟨v8, hv8, hx3o⟩ := bind_some hx3o
  obtain ⟨hv8a, hv8b, hv8c, hv8d⟩ := idx_some hv8
  refine VW.ws tau_ok Sound.none [some 18, some 19, some 10] [(0, .val (i64 a0)), (7, .ref 7 [] true (dM v1)), (8, .ref 8 [] true (dM s3.1)), (10, .val (dI v8)), (14, .val (dM a1)), (15, .val (i64 (a1.length : Int))), (16, .val (i64 s3.2))] rfl ?_ ?_
  · simp [hv8a, hv8b, hv8c, hv8d] <;> simp [ieq, ilt, ile]
  -- region 5
  obtain ⟨v9, hv9, hx3o⟩ := bind_some hx3o
  obtain ⟨hc10, hx3o⟩ := chk_some hx3o
  have hc10s := hc10
  try simp at hc10s
  refine VW.wr tau_ok (Sound.none.add 24 (i_field_apply_ok hv9) rfl) [some 20, some 21, some 22, some 23, some 24, some 25, some 26, some 8] [(0, .val (i64 a0)), (7, .ref 7 [] true (dM v1)), (8, .ref 8 [] true (dM (s3.1 ++ [v9]))), (14, .val (dM a1)), (15, .val (i64 (a1.length : Int))), (16, .val (i64 s3.2))] rfl ?_ ?_
  · simp [hc10, hc10s] <;> simp [ieq, ilt, ile]
  refine hK7 _ ?_
  -- region 6
  refine VW.wr tau_ok Sound.none [some 27, some 16] [(0, .val (i64 a0)), (7, .ref 7 [] true (dM v1)), (8, .ref 8 [] true (dM (s3.1 ++ [v9]))), (14, .val (dM a1)), (15, .val (i64 (a1.length : Int))), (16, .val (i64 (w64 (s3.2 + 1))))] rfl ?_ ?_
  · simp <;> simp [ieq, ilt, ile]
  cases hx3o
  exact ⟨_, rfl, Fits.of rfl⟩

theorem i_Space_decomposition_ok {a0_0 : Int} {a0_1 : List Int} {a1 : List (List Int)} {r : List (List Int)} (h : i_Space_decomposition a0_0 a0_1 a1 = some r) :
    VCall Try.prog 92 [.agg [i64 a0_0, dI a0_1], dM a1] [.own true (dM r)] := by
  unfold i_Space_decomposition at h
  refine VCall.enter Try.call92 Try.func92 rfl 75 Try.ntmps92 (by simp) [.tmp 4] rfl ?_
  show VW _ _ _ (mk [(0, .val (.agg [i64 a0_0, dI a0_1])), (1, .val (dM a1))]) _
  -- region 0
  refine VW.ws tau_ok Sound.none [some 2, some 4] [(1, .val (dM a1)), (2, .val (.ptr [i64 a0_0, dI a0_1]))] rfl ?_ ?_
  · simp <;> simp [ieq, ilt, ile]
  -- region 1
  refine VW.ws tau_ok Sound.none [some 11, some 5] [(1, .val (dM a1)), (2, .val (.ptr [i64 a0_0, dI a0_1])), (5, .ref 5 [] true (dM []))] rfl ?_ ?_
  · simp <;> simp [ieq, ilt, ile]
  refine VW.sqc fun K1 hK1 hCK1 => ?_
  -- region 2
  obtain ⟨v2, hv2, h⟩ := bind_some h
  obtain ⟨v3, hv3, h⟩ := bind_some h
  refine VW.ws tau_ok ((Sound.none.add 13 (i_Space_dim_ok hv2) rfl).add 14 (i_unit_ok hv3) rfl) [some 12, some 13, some 14, some 15, some 16] [(1, .val (dM a1)), (2, .val (.ptr [i64 a0_0, dI a0_1])), (5, .ref 5 [] true (dM [])), (14, .ref 14 [] true (dM v3)), (15, .val (i64 (v3.length : Int))), (16, .val (i64 0))] rfl ?_ ?_
  · simp <;> simp [ieq, ilt, ile]
  obtain ⟨x4, hx4, h⟩ := bind_some h
  refine VW.tlE [(5, .ref 5 [] true (dM x4))] (hCK1) ?_ ?_
  · clear hx4
    refine hK1 _ ?_
    -- region 15
    refine VW.ws tau_ok Sound.none [some 74, some 4] [(4, .ref 4 [] true (dM x4))] rfl ?_ ?_
    · simp <;> simp [ieq, ilt, ile]
    cases h
    refine VW.ret ?_
    simp [Post, PostM, PostC, PostC2, Nx, Bk]
  refine VW.block ?_
  refine VW.loopF (i_Space_decomposition_L0 a0_0 a0_1 v3) (fun s4 => [(1, .val (dM s4.1)), (2, .val (.ptr [i64 a0_0, dI a0_1])), (5, .ref 5 [] true (dM s4.2.1)), (14, .ref 14 [] true (.list (lg (fun x => dI x) s4.2.2.toNat v3))), (15, .val (i64 (v3.length : Int))), (16, .val (i64 s4.2.2))]) hx4 (Fits.gone (s := 14) _ rfl (by simp) (gone_first _ _ _) (Fits.of rfl)) ?_
  clear hx4
  intro s4 ox4 hx4o hx4b
  unfold i_Space_decomposition_L0 at hx4o
  -- region 3
  refine VW.ws tau_ok Sound.none [some 17] [(1, .val (dM s4.1)), (2, .val (.ptr [i64 a0_0, dI a0_1])), (5, .ref 5 [] true (dM s4.2.1)), (14, .ref 14 [] true (.list (lg (fun x => dI x) s4.2.2.toNat v3))), (15, .val (i64 (v3.length : Int))), (16, .val (i64 s4.2.2)), (17, .val (.bool (ilt s4.2.2 (v3.length : Int))))] rfl ?_ ?_
  · simp <;> simp [ieq, ilt, ile]
  refine VW.sqc fun K6 hK6 hCK6 => ?_
  refine VW.cond rfl (fun hb7 => ?_) (fun hb7 => ?_)
  rotate_left
  ·
    replace hb7 : ¬ (s4.2.2 < (v3.length : Int)) := by simpa [ieq, ilt, ile] using hb7
    rw [if_neg hb7] at hx4o
    refine VW.exit ?_
    cases hx4o
    have hq := hx4b _ rfl
    subst hq
    exact Fits.of rfl
  replace hb7 : s4.2.2 < (v3.length : Int) := by simpa [ieq, ilt, ile] using hb7
  rw [if_pos hb7] at hx4o
  refine VW.skip ?_
  refine hK6 _ ?_
  refine VW.sqc fun K8 hK8 hCK8 => ?_
  obtain ⟨x9, hx9, hx4o⟩ := bind_some hx4o
  have hlg := bind_idx hx9
  refine VW.len (s := 14) rfl fun hlen14 => ?_
  have hlen14 : v3.length ≤ maxLen := by simpa [lg_length] using hlen14
  refine VW.tlE [(1, .val (dM x9.1)), (2, .val (.ptr [i64 a0_0, dI a0_1])), (5, .ref 5 [] true (dM x9.2)), (14, .ref 14 [] true (.list ((lg (fun x => dI x) s4.2.2.toNat v3).set s4.2.2.toNat .gone))), (15, .val (i64 (v3.length : Int))), (16, .val (i64 s4.2.2))] (hCK8) ?_ ?_
  · clear hx9
    refine hK8 _ ?_
    -- region 14
    refine VW.wr tau_ok Sound.none [some 73, some 16] [(1, .val (dM x9.1)), (2, .val (.ptr [i64 a0_0, dI a0_1])), (5, .ref 5 [] true (dM x9.2)), (14, .ref 14 [] true (.list ((lg (fun x => dI x) s4.2.2.toNat v3).set s4.2.2.toNat .gone))), (15, .val (i64 (v3.length : Int))), (16, .val (i64 (w64 (s4.2.2 + 1))))] rfl ?_ ?_
    · simp <;> simp [ieq, ilt, ile]
    cases hx4o
    exact ⟨_, rfl, Fits.gone (s := 14) _ rfl (by simp) (gone_next _ _ (lg_lt hlg.1 hlg.2 hlen14)) (Fits.of rfl)⟩
  refine VW.block ?_
  -- region 4
  obtain ⟨v11, hv11, hx9⟩ := bind_some hx9
  obtain ⟨hv11a, hv11b, hv11c, hv11d⟩ := idx_some hv11
  have hv11g := lg_some (fun x => dI x) _ hv11c
  have hv11h := lg_get (fun x => dI x) _ hv11c
  refine VW.ws tau_ok Sound.none [some 18, some 19, some 20, some 6, some 7] [(1, .val (dM s4.1)), (2, .val (.ptr [i64 a0_0, dI a0_1])), (5, .ref 5 [] true (dM s4.2.1)), (6, .val (i64 s4.2.2)), (7, .ref 14 [s4.2.2.toNat] true (dI v11)), (14, .ref 14 [] true (.list (lg (fun x => dI x) s4.2.2.toNat v3))), (15, .val (i64 (v3.length : Int))), (16, .val (i64 s4.2.2))] rfl ?_ ?_
  · simp [hv11a, hv11b, hv11c, hv11d, lg_length, hv11g, hv11h] <;> simp [ieq, ilt, ile]
  refine VW.fits (fl' := [(1, .val (dM s4.1)), (2, .val (.ptr [i64 a0_0, dI a0_1])), (5, .ref 5 [] true (dM s4.2.1)), (6, .val (i64 s4.2.2)), (7, .ref 7 [] true (dI v11)), (14, .ref 14 [] true (.list ((lg (fun x => dI x) s4.2.2.toNat v3).set s4.2.2.toNat .gone))), (15, .val (i64 (v3.length : Int))), (16, .val (i64 s4.2.2))]) (Fits.detach (s := 7) (z := 14) 7 rfl rfl (by decide) (by decide) (Fits.of rfl)) ?_
  -- region 5
  obtain ⟨v12, hv12, hx9⟩ := bind_some hx9
  obtain ⟨v13, hv13, hx9⟩ := bind_some hx9
  obtain ⟨hv13a, hv13b, hv13c, hv13d⟩ := idx_some hv13
  refine VW.ws tau_ok (Sound.none.add 22 (i_transpose_ok hv12) rfl) [some 21, some 22, some 23, some 24, some 25, some 8] [(1, .val (dM s4.1)), (2, .val (.ptr [i64 a0_0, dI a0_1])), (5, .ref 5 [] true (dM s4.2.1)), (7, .ref 7 [] true (dI v11)), (8, .ref 22 [s4.2.2.toNat] true (dI v13)), (14, .ref 14 [] true (.list ((lg (fun x => dI x) s4.2.2.toNat v3).set s4.2.2.toNat .gone))), (15, .val (i64 (v3.length : Int))), (16, .val (i64 s4.2.2))] rfl ?_ ?_
  · simp [hv13a, hv13b, hv13c, hv13d] <;> simp [ieq, ilt, ile]
  -- region 6
  obtain ⟨v14, hv14, hx9⟩ := bind_some hx9
  obtain ⟨v15, hv15, hx9⟩ := bind_some hx9
  refine VW.ws tau_ok ((Sound.none.add 27 (i_Space_field_ok hv14) rfl).add 30 (i_field_plus_ok hv15) rfl) [some 26, some 27, some 28, some 29, some 30, some 9] [(1, .val (dM s4.1)), (2, .val (.ptr [i64 a0_0, dI a0_1])), (5, .ref 5 [] true (dM s4.2.1)), (7, .ref 7 [] true (dI v11)), (8, .ref 22 [s4.2.2.toNat] true (dI v13)), (9, .ref 9 [] true (dI v15)), (14, .ref 14 [] true (.list ((lg (fun x => dI x) s4.2.2.toNat v3).set s4.2.2.toNat .gone))), (15, .val (i64 (v3.length : Int))), (16, .val (i64 s4.2.2))] rfl ?_ ?_
  · simp <;> simp [ieq, ilt, ile]
  refine VW.block ?_
  -- region 10
  obtain ⟨v16, hv16, hx9⟩ := bind_some hx9
  refine VW.ws tau_ok (Sound.none.add 56 (i_isZero_ok hv16) rfl) [some 55, some 56, some 54] [(1, .val (dM s4.1)), (2, .val (.ptr [i64 a0_0, dI a0_1])), (5, .ref 5 [] true (dM s4.2.1)), (7, .ref 7 [] true (dI v11)), (8, .ref 22 [s4.2.2.toNat] true (dI v13)), (9, .ref 9 [] true (dI v15)), (14, .ref 14 [] true (.list ((lg (fun x => dI x) s4.2.2.toNat v3).set s4.2.2.toNat .gone))), (15, .val (i64 (v3.length : Int))), (16, .val (i64 s4.2.2)), (54, .val (.bool v16))] rfl ?_ ?_
  · simp <;> simp [ieq, ilt, ile]
  refine VW.cond rfl (fun hb17 => ?_) (fun hb17 => ?_)
  ·
    replace hb17 : v16 = true := by simpa [ieq, ilt, ile] using hb17
    rw [if_pos hb17] at hx9
    refine VW.exit ?_
    cases hx9
    exact Fits.of rfl
  replace hb17 : ¬ (v16 = true) := by simpa [ieq, ilt, ile] using hb17
  rw [if_neg hb17] at hx9
  -- region 11
  obtain ⟨v18, hv18, hx9⟩ := bind_some hx9
  refine VW.ws tau_ok (Sound.none.add 60 (i_Space_norm_ok hv18) rfl) [some 58, some 59, some 60, some 61, some 57] [(1, .val (dM s4.1)), (2, .val (.ptr [i64 a0_0, dI a0_1])), (5, .ref 5 [] true (dM s4.2.1)), (7, .ref 7 [] true (dI v11)), (8, .ref 22 [s4.2.2.toNat] true (dI v13)), (9, .ref 9 [] true (dI v15)), (14, .ref 14 [] true (.list ((lg (fun x => dI x) s4.2.2.toNat v3).set s4.2.2.toNat .gone))), (15, .val (i64 (v3.length : Int))), (16, .val (i64 s4.2.2)), (57, .val (.bool (!(ieq v18 0))))] rfl ?_ ?_
  · simp <;> simp [ieq, ilt, ile]
  refine VW.cond rfl (fun hb19 => ?_) (fun hb19 => ?_)
  ·
    replace hb19 : ¬ v18 = 0 := by simpa [ieq, ilt, ile] using hb19
    rw [if_pos hb19] at hx9
    -- region 12
    obtain ⟨hc20, hx9⟩ := chk_some hx9
    refine VW.end3 tau_ok Sound.none [some 62, some 63, some 64, some 65, some 5] 2 [(1, .val (dM s4.1)), (2, .val (.ptr [i64 a0_0, dI a0_1])), (5, .ref 5 [] true (dM s4.2.1)), (7, .ref 7 [] true (dI v11)), (8, .ref 22 [s4.2.2.toNat] true (dI v13)), (9, .ref 9 [] true (dI v15)), (14, .ref 14 [] true (.list ((lg (fun x => dI x) s4.2.2.toNat v3).set s4.2.2.toNat .gone))), (15, .val (i64 (v3.length : Int))), (16, .val (i64 s4.2.2)), (57, .val (.bool (!(ieq v18 0)))), (62, .ref 5 [] true (dM s4.2.1)), (63, .ref 9 [] true (dI v15))] _ [(1, .val (dM s4.1)), (2, .val (.ptr [i64 a0_0, dI a0_1])), (5, .ref 5 [] true (dM s4.2.1)), (7, .ref 7 [] true (dI v11)), (8, .ref 22 [s4.2.2.toNat] true (dI v13)), (9, .ref 64 [0] true (dI v15)), (14, .ref 14 [] true (.list ((lg (fun x => dI x) s4.2.2.toNat v3).set s4.2.2.toNat .gone))), (15, .val (i64 (v3.length : Int))), (16, .val (i64 s4.2.2)), (57, .val (.bool (!(ieq v18 0)))), (62, .ref 5 [] true (dM s4.2.1)), (63, .ref 64 [0] true (dI v15)), (64, .ref 64 [] true (dM [v15]))] _ [(1, .val (dM s4.1)), (2, .val (.ptr [i64 a0_0, dI a0_1])), (7, .ref 7 [] true (dI v11)), (8, .ref 22 [s4.2.2.toNat] true (dI v13)), (9, .ref 65 [(0 + s4.2.1.length)] true (dI v15)), (14, .ref 14 [] true (.list ((lg (fun x => dI x) s4.2.2.toNat v3).set s4.2.2.toNat .gone))), (15, .val (i64 (v3.length : Int))), (16, .val (i64 s4.2.2)), (57, .val (.bool (!(ieq v18 0)))), (63, .ref 65 [(0 + s4.2.1.length)] true (dI v15)), (65, .ref 65 [] true (dM (s4.2.1 ++ [v15])))] _ [(1, .val (dM s4.1)), (2, .val (.ptr [i64 a0_0, dI a0_1])), (5, .ref 5 [] true (dM (s4.2.1 ++ [v15]))), (9, .ref 5 [(0 + s4.2.1.length)] true (dI v15)), (14, .ref 14 [] true (.list ((lg (fun x => dI x) s4.2.2.toNat v3).set s4.2.2.toNat .gone))), (15, .val (i64 (v3.length : Int))), (16, .val (i64 s4.2.2))] _ _ _ rfl rfl rfl rfl rfl ?_ (step_build1 tau_ok rfl rfl (by simp) rfl rfl rfl rfl) ?_ (step_appR tau_ok rfl rfl (by simp) rfl rfl rfl rfl (by decide) (by simp) (by simp [D.one]) (by simpa using hc20)) ?_ (step_asnR rfl rfl (by simp) rfl (by decide)) ?_ ?_
    · simp
    · simp [rrVV, kmap, VV.on]
    · simp [rrVV, kmap, VV.on]
    · simp [rrVV, kmap, VV.on]
    -- region 13
    obtain ⟨v21, hv21, hx9⟩ := bind_some hx9
    obtain ⟨v22, hv22, hx9⟩ := bind_some hx9
    obtain ⟨v23, hv23, hx9⟩ := bind_some hx9
    refine VW.wdr tau_ok (((Sound.none.add 67 (i_Space_field_ok hv21) rfl).add 70 (i_Space_reflection_ok hv22) rfl).add 72 (i_field_times_ok hv23) rfl) try_mixed [some 66, some 67, some 68, some 69, some 70, some 71, some 72, some 1] [(1, .ref 1 [] true (dM v23)), (2, .val (.ptr [i64 a0_0, dI a0_1])), (5, .ref 5 [] true (dM (s4.2.1 ++ [v15]))), (14, .ref 14 [] true (.list ((lg (fun x => dI x) s4.2.2.toNat v3).set s4.2.2.toNat .gone))), (15, .val (i64 (v3.length : Int))), (16, .val (i64 s4.2.2))] 7 rfl (by kernel_rfl) (by rfl) ?_ ?_
    · simp <;> simp [ieq, ilt, ile]
    cases hx9
    exact Fits.freeze (s := 1) rfl (by simp) (Fits.of rfl)
  replace hb19 : ¬ (¬ v18 = 0) := by simpa [ieq, ilt, ile] using hb19
  rw [if_neg hb19] at hx9
  -- region 7
  obtain ⟨v24, hv24, hx9⟩ := bind_some hx9
  obtain ⟨v25, hv25, hx9⟩ := bind_some hx9
  refine VW.ws tau_ok ((Sound.none.add 32 (i_Space_field_ok hv24) rfl).add 35 (i_field_plus_ok hv25) rfl) [some 31, some 32, some 33, some 34, some 35, some 10] [(1, .val (dM s4.1)), (2, .val (.ptr [i64 a0_0, dI a0_1])), (5, .ref 5 [] true (dM s4.2.1)), (7, .ref 7 [] true (dI v11)), (10, .ref 10 [] true (dI v25)), (14, .ref 14 [] true (.list ((lg (fun x => dI x) s4.2.2.toNat v3).set s4.2.2.toNat .gone))), (15, .val (i64 (v3.length : Int))), (16, .val (i64 s4.2.2))] rfl ?_ ?_
  · simp <;> simp [ieq, ilt, ile]
  -- region 8
  obtain ⟨hc26, hx9⟩ := chk_some hx9
  refine VW.end3 tau_ok Sound.none [some 36, some 37, some 38, some 39, some 40, some 5] 3 [(1, .val (dM s4.1)), (2, .val (.ptr [i64 a0_0, dI a0_1])), (5, .ref 5 [] true (dM s4.2.1)), (7, .ref 7 [] true (dI v11)), (10, .ref 10 [] true (dI v25)), (14, .ref 14 [] true (.list ((lg (fun x => dI x) s4.2.2.toNat v3).set s4.2.2.toNat .gone))), (15, .val (i64 (v3.length : Int))), (16, .val (i64 s4.2.2)), (36, .ref 5 [] true (dM s4.2.1)), (37, .ref 10 [] true (dI v25)), (38, .ref 7 [] true (dI v11))] _ [(1, .val (dM s4.1)), (2, .val (.ptr [i64 a0_0, dI a0_1])), (5, .ref 5 [] true (dM s4.2.1)), (7, .ref 39 [1] true (dI v11)), (10, .ref 39 [0] true (dI v25)), (14, .ref 14 [] true (.list ((lg (fun x => dI x) s4.2.2.toNat v3).set s4.2.2.toNat .gone))), (15, .val (i64 (v3.length : Int))), (16, .val (i64 s4.2.2)), (36, .ref 5 [] true (dM s4.2.1)), (37, .ref 39 [0] true (dI v25)), (38, .ref 39 [1] true (dI v11)), (39, .ref 39 [] true (dM [v25, v11]))] _ [(1, .val (dM s4.1)), (2, .val (.ptr [i64 a0_0, dI a0_1])), (7, .ref 40 [(1 + s4.2.1.length)] true (dI v11)), (10, .ref 40 [(0 + s4.2.1.length)] true (dI v25)), (14, .ref 14 [] true (.list ((lg (fun x => dI x) s4.2.2.toNat v3).set s4.2.2.toNat .gone))), (15, .val (i64 (v3.length : Int))), (16, .val (i64 s4.2.2)), (37, .ref 40 [(0 + s4.2.1.length)] true (dI v25)), (38, .ref 40 [(1 + s4.2.1.length)] true (dI v11)), (40, .ref 40 [] true (dM (s4.2.1 ++ [v25, v11])))] _ [(1, .val (dM s4.1)), (2, .val (.ptr [i64 a0_0, dI a0_1])), (5, .ref 5 [] true (dM (s4.2.1 ++ [v25, v11]))), (7, .ref 5 [(1 + s4.2.1.length)] true (dI v11)), (10, .ref 5 [(0 + s4.2.1.length)] true (dI v25)), (14, .ref 14 [] true (.list ((lg (fun x => dI x) s4.2.2.toNat v3).set s4.2.2.toNat .gone))), (15, .val (i64 (v3.length : Int))), (16, .val (i64 s4.2.2))] _ _ _ rfl rfl rfl rfl rfl ?_ (step_build2 tau_ok rfl rfl (by simp) rfl rfl (by decide) rfl rfl rfl rfl) ?_ (step_appR tau_ok rfl rfl (by simp) rfl rfl rfl rfl (by decide) (by simp) (by simp [D.one]) (by simpa using hc26)) ?_ (step_asnR rfl rfl (by simp) rfl (by decide)) ?_ ?_
  · simp
  · simp [rrVV, kmap, VV.on]
  · simp [rrVV, kmap, VV.on]
  · simp [rrVV, kmap, VV.on]
  -- region 9
  obtain ⟨v27, hv27, hx9⟩ := bind_some hx9
  obtain ⟨v28, hv28, hx9⟩ := bind_some hx9
  obtain ⟨v29, hv29, hx9⟩ := bind_some hx9
  obtain ⟨v30, hv30, hx9⟩ := bind_some hx9
  obtain ⟨v31, hv31, hx9⟩ := bind_some hx9
  obtain ⟨v32, hv32, hx9⟩ := bind_some hx9
  refine VW.wdr tau_ok ((((((Sound.none.add 42 (i_Space_field_ok hv27) rfl).add 45 (i_Space_reflection_ok hv28) rfl).add 47 (i_Space_field_ok hv29) rfl).add 50 (i_Space_reflection_ok hv30) rfl).add 52 (i_field_times_ok hv31) rfl).add 53 (i_field_times_ok hv32) rfl) try_mixed [some 41, some 42, some 43, some 44, some 45, some 46, some 47, some 48, some 49, some 50, some 51, some 52, some 53, some 1] [(1, .ref 1 [] true (dM v32)), (2, .val (.ptr [i64 a0_0, dI a0_1])), (5, .ref 5 [] true (dM (s4.2.1 ++ [v25, v11]))), (14, .ref 14 [] true (.list ((lg (fun x => dI x) s4.2.2.toNat v3).set s4.2.2.toNat .gone))), (15, .val (i64 (v3.length : Int))), (16, .val (i64 s4.2.2))] 13 rfl (by kernel_rfl) (by rfl) ?_ ?_
  · simp <;> simp [ieq, ilt, ile]
  cases hx9
  exact Fits.freeze (s := 1) rfl (by simp) (Fits.of rfl)

theorem i_DecomposeOrthogonal_ok {a0_0 : Int} {a0_1 : List Int} {a1 : List (List Int)} {r : (List (List Int)) × Int} (h : i_DecomposeOrthogonal a0_0 a0_1 a1 = some r) :
    VCall Try.prog 20 [.agg [i64 a0_0, dI a0_1], dM a1] [.own true (dM r.1), .sc (i64 r.2)] := by
  unfold i_DecomposeOrthogonal at h
  refine VCall.enter Try.call20 Try.func20 rfl 16 Try.ntmps20 (by simp) [.tmp 4, .tmp 5] rfl ?_
  show VW _ _ _ (mk [(0, .val (.agg [i64 a0_0, dI a0_1])), (1, .val (dM a1))]) _
  -- region 0
  refine VW.ws tau_ok Sound.none [some 2, some 4, some 5] [(1, .val (dM a1)), (2, .val (.ptr [i64 a0_0, dI a0_1]))] rfl ?_ ?_
  · simp <;> simp [ieq, ilt, ile]
  refine VW.sqc fun K1 hK1 hCK1 => ?_
  -- region 1
  obtain ⟨v2, hv2, h⟩ := bind_some h
  refine VW.ws tau_ok (Sound.none.add 9 (i_checkOrthogonal_ok hv2) rfl) [some 7, some 8, some 9, some 6] [(1, .val (dM a1)), (2, .val (.ptr [i64 a0_0, dI a0_1])), (6, .val (i64 v2))] rfl ?_ ?_
  · simp <;> simp [ieq, ilt, ile]
  -- region 2
  refine VW.ws tau_ok Sound.none [some 10, some 11] [(1, .val (dM a1)), (2, .val (.ptr [i64 a0_0, dI a0_1])), (6, .val (i64 v2)), (11, .val (.bool (!(ieq v2 0))))] rfl ?_ ?_
  · simp <;> simp [ieq, ilt, ile]
  refine VW.cond rfl (fun hb3 => ?_) (fun hb3 => ?_)
  ·
    replace hb3 : ¬ v2 = 0 := by simpa [ieq, ilt, ile] using hb3
    rw [if_pos hb3] at h
    -- region 3
    refine VW.ws tau_ok Sound.none [some 12, some 4, some 5] [(4, .ref 4 [] true (.list [])), (5, .val (i64 v2))] rfl ?_ ?_
    · simp <;> simp [ieq, ilt, ile]
    cases h
    refine VW.ret ?_
    simp [Post, PostM, PostC, PostC2, Nx, Bk]
  replace hb3 : ¬ (¬ v2 = 0) := by simpa [ieq, ilt, ile] using hb3
  rw [if_neg hb3] at h
  refine VW.skip ?_
  refine hK1 _ ?_
  -- region 4
  obtain ⟨v4, hv4, h⟩ := bind_some h
  refine VW.ws tau_ok (Sound.none.add 15 (i_Space_decomposition_ok hv4) rfl) [some 13, some 14, some 15, some 4, some 5] [(4, .ref 4 [] true (dM v4)), (5, .val (i64 0))] rfl ?_ ?_
  · simp <;> simp [ieq, ilt, ile]
  cases h
  refine VW.ret ?_
  simp [Post, PostM, PostC, PostC2, Nx, Bk]

theorem l_eqInt64S_ok {a0 : List Int} {a1 : List Int} {r : Bool} (h : l_eqInt64S a0 a1 = some r) :
    VCall Try.prog 48 [dI a0, dI a1] [.sc (.bool r)] := by
  unfold l_eqInt64S at h
  refine VCall.enter Try.call48 Try.func48 rfl 26 Try.ntmps48 (by simp) [.tmp 4] rfl ?_
  show VW _ _ _ (mk [(0, .val (dI a0)), (1, .val (dI a1))]) _
  -- region 0
  refine VW.ws tau_ok Sound.none [some 4] [(0, .val (dI a0)), (1, .val (dI a1))] rfl ?_ ?_
  · simp <;> simp [ieq, ilt, ile]
  refine VW.sqc fun K1 hK1 hCK1 => ?_
  -- region 1
  refine VW.ws tau_ok Sound.none [some 6, some 7, some 8, some 9, some 10] [(0, .val (dI a0)), (1, .val (dI a1)), (10, .val (.bool (!(ieq (a0.length : Int) (a1.length : Int)))))] rfl ?_ ?_
  · simp <;> simp [ieq, ilt, ile]
  refine VW.cond rfl (fun hb2 => ?_) (fun hb2 => ?_)
  ·
    replace hb2 : ¬ (a0.length : Int) = (a1.length : Int) := by simpa [ieq, ilt, ile] using hb2
    rw [if_pos hb2] at h
    -- region 2
    refine VW.ws tau_ok Sound.none [some 4] [(4, .val (.bool false))] rfl ?_ ?_
    · simp <;> simp [ieq, ilt, ile]
    cases h
    refine VW.ret ?_
    simp [Post, PostM, PostC, PostC2, Nx, Bk]
  replace hb2 : ¬ (¬ (a0.length : Int) = (a1.length : Int)) := by simpa [ieq, ilt, ile] using hb2
  rw [if_neg hb2] at h
  refine VW.skip ?_
  refine hK1 _ ?_
  refine VW.sqc fun K3 hK3 hCK3 => ?_
  -- region 3
  refine VW.ws tau_ok Sound.none [some 5] [(0, .val (dI a0)), (1, .val (dI a1)), (5, .val (i64 0))] rfl ?_ ?_
  · simp <;> simp [ieq, ilt, ile]
  obtain ⟨x4, hx4, h⟩ := bind_some h
  refine VW.tlO (fun y6 => []) x4 (hCK3) ?_ ?_
  · clear hx4
    rintro y6 rfl
    dsimp only at h
    refine hK3 _ ?_
    -- region 8
    refine VW.ws tau_ok Sound.none [some 4] [(4, .val (.bool true))] rfl ?_ ?_
    · simp <;> simp [ieq, ilt, ile]
    cases h
    refine VW.ret ?_
    simp [Post, PostM, PostC, PostC2, Nx, Bk]
  refine VW.block ?_
  refine VW.loopF (l_eqInt64S_L0 a0 a1) (fun s4 => [(0, .val (dI a0)), (1, .val (dI a1)), (5, .val (i64 s4))]) hx4 (Fits.of rfl) ?_
  clear hx4
  intro s4 ox4 hx4o hx4b
  unfold l_eqInt64S_L0 at hx4o
  refine VW.sqc fun K7 hK7 hCK7 => ?_
  -- region 4
  refine VW.ws tau_ok Sound.none [some 11, some 12, some 13, some 14] [(0, .val (dI a0)), (1, .val (dI a1)), (5, .val (i64 s4)), (14, .val (.bool (ilt s4 (a0.length : Int))))] rfl ?_ ?_
  · simp <;> simp [ieq, ilt, ile]
  refine VW.cond rfl (fun hb8 => ?_) (fun hb8 => ?_)
  rotate_left
  ·
    replace hb8 : ¬ (s4 < (a0.length : Int)) := by simpa [ieq, ilt, ile] using hb8
    rw [if_neg hb8] at hx4o
    refine VW.exit ?_
    cases hx4o
    have hq := hx4b _ rfl
    subst hq
    exact ⟨_, rfl, Fits.of rfl⟩
  replace hb8 : s4 < (a0.length : Int) := by simpa [ieq, ilt, ile] using hb8
  rw [if_pos hb8] at hx4o
  refine VW.skip ?_
  refine hK7 _ ?_
  refine VW.sqc fun K9 hK9 hCK9 => ?_
  refine VW.block ?_
  -- region 6
  obtain ⟨v10, hv10, hx4o⟩ := bind_some hx4o
  obtain ⟨hv10a, hv10b, hv10c, hv10d⟩ := idx_some hv10
  obtain ⟨v11, hv11, hx4o⟩ := bind_some hx4o
  obtain ⟨hv11a, hv11b, hv11c, hv11d⟩ := idx_some hv11
  refine VW.wds tau_ok Sound.none try_mixed [some 17, some 18, some 19, some 20, some 21, some 22, some 23, some 24, some 25] [(0, .val (dI a0)), (1, .val (dI a1)), (5, .val (i64 s4)), (25, .val (.bool (!(ieq v10 v11))))] 9 rfl (by kernel_rfl) (by rfl) ?_ ?_
  · simp [hv10a, hv10b, hv10c, hv10d, hv11a, hv11b, hv11c, hv11d] <;> simp [ieq, ilt, ile]
  refine VW.cond rfl (fun hb12 => ?_) (fun hb12 => ?_)
  rotate_left
  ·
    replace hb12 : ¬ (¬ v10 = v11) := by simpa [ieq, ilt, ile] using hb12
    rw [if_neg hb12] at hx4o
    refine VW.skip ?_
    refine hK9 _ ?_
    -- region 5
    refine VW.wr tau_ok Sound.none [some 15, some 16, some 5] [(0, .val (dI a0)), (1, .val (dI a1)), (5, .val (i64 (w64 (s4 + 1))))] rfl ?_ ?_
    · simp <;> simp [ieq, ilt, ile]
    cases hx4o
    exact ⟨_, rfl, Fits.of rfl⟩
  replace hb12 : ¬ v10 = v11 := by simpa [ieq, ilt, ile] using hb12
  rw [if_pos hb12] at hx4o
  -- region 7
  refine VW.ws tau_ok Sound.none [some 4] [(4, .val (.bool false))] rfl ?_ ?_
  · simp <;> simp [ieq, ilt, ile]
  cases hx4o
  have hq := hx4b _ rfl
  subst hq
  dsimp only at h
  cases h
  refine VW.ret ?_
  simp [Post, PostM, PostC, PostC2, Nx, Bk]

theorem l_eqInt64SS_ok {a0 : List (List Int)} {a1 : List (List Int)} {r : Bool} (h : l_eqInt64SS a0 a1 = some r) :
    VCall Try.prog 21 [dM a0, dM a1] [.sc (.bool r)] := by
  unfold l_eqInt64SS at h
  refine VCall.enter Try.call21 Try.func21 rfl 27 Try.ntmps21 (by simp) [.tmp 4] rfl ?_
  show VW _ _ _ (mk [(0, .val (dM a0)), (1, .val (dM a1))]) _
  -- region 0
  refine VW.ws tau_ok Sound.none [some 4] [(0, .val (dM a0)), (1, .val (dM a1))] rfl ?_ ?_
  · simp <;> simp [ieq, ilt, ile]
  refine VW.sqc fun K1 hK1 hCK1 => ?_
  -- region 1
  refine VW.ws tau_ok Sound.none [some 6, some 7, some 8, some 9, some 10] [(0, .val (dM a0)), (1, .val (dM a1)), (10, .val (.bool (!(ieq (a0.length : Int) (a1.length : Int)))))] rfl ?_ ?_
  · simp <;> simp [ieq, ilt, ile]
  refine VW.cond rfl (fun hb2 => ?_) (fun hb2 => ?_)
  ·
    replace hb2 : ¬ (a0.length : Int) = (a1.length : Int) := by simpa [ieq, ilt, ile] using hb2
    rw [if_pos hb2] at h
    -- region 2
    refine VW.ws tau_ok Sound.none [some 4] [(4, .val (.bool false))] rfl ?_ ?_
    · simp <;> simp [ieq, ilt, ile]
    cases h
    refine VW.ret ?_
    simp [Post, PostM, PostC, PostC2, Nx, Bk]
  replace hb2 : ¬ (¬ (a0.length : Int) = (a1.length : Int)) := by simpa [ieq, ilt, ile] using hb2
  rw [if_neg hb2] at h
  refine VW.skip ?_
  refine hK1 _ ?_
  refine VW.sqc fun K3 hK3 hCK3 => ?_
  -- region 3
  refine VW.ws tau_ok Sound.none [some 5] [(0, .val (dM a0)), (1, .val (dM a1)), (5, .val (i64 0))] rfl ?_ ?_
  · simp <;> simp [ieq, ilt, ile]
  obtain ⟨x4, hx4, h⟩ := bind_some h
  refine VW.tlO (fun y6 => []) x4 (hCK3) ?_ ?_
  · clear hx4
    rintro y6 rfl
    dsimp only at h
    refine hK3 _ ?_
    -- region 8
    refine VW.ws tau_ok Sound.none [some 4] [(4, .val (.bool true))] rfl ?_ ?_
    · simp <;> simp [ieq, ilt, ile]
    cases h
    refine VW.ret ?_
    simp [Post, PostM, PostC, PostC2, Nx, Bk]
  refine VW.block ?_
  refine VW.loopF (l_eqInt64SS_L0 a0 a1) (fun s4 => [(0, .val (dM a0)), (1, .val (dM a1)), (5, .val (i64 s4))]) hx4 (Fits.of rfl) ?_
  clear hx4
  intro s4 ox4 hx4o hx4b
  unfold l_eqInt64SS_L0 at hx4o
  refine VW.sqc fun K7 hK7 hCK7 => ?_
  -- region 4
  refine VW.ws tau_ok Sound.none [some 11, some 12, some 13, some 14] [(0, .val (dM a0)), (1, .val (dM a1)), (5, .val (i64 s4)), (14, .val (.bool (ilt s4 (a0.length : Int))))] rfl ?_ ?_
  · simp <;> simp [ieq, ilt, ile]
  refine VW.cond rfl (fun hb8 => ?_) (fun hb8 => ?_)
  rotate_left
  ·
    replace hb8 : ¬ (s4 < (a0.length : Int)) := by simpa [ieq, ilt, ile] using hb8
    rw [if_neg hb8] at hx4o
    refine VW.exit ?_
    cases hx4o
    have hq := hx4b _ rfl
    subst hq
    exact ⟨_, rfl, Fits.of rfl⟩
  replace hb8 : s4 < (a0.length : Int) := by simpa [ieq, ilt, ile] using hb8
  rw [if_pos hb8] at hx4o
  refine VW.skip ?_
  refine hK7 _ ?_
  refine VW.sqc fun K9 hK9 hCK9 => ?_
  refine VW.block ?_
  -- region 6
  obtain ⟨v10, hv10, hx4o⟩ := bind_some hx4o
  obtain ⟨hv10a, hv10b, hv10c, hv10d⟩ := idx_some hv10
  obtain ⟨v11, hv11, hx4o⟩ := bind_some hx4o
  obtain ⟨hv11a, hv11b, hv11c, hv11d⟩ := idx_some hv11
  obtain ⟨v12, hv12, hx4o⟩ := bind_some hx4o
  refine VW.wds tau_ok (Sound.none.add 25 (l_eqInt64S_ok hv12) rfl) try_mixed [some 17, some 18, some 19, some 20, some 21, some 22, some 23, some 24, some 25, some 26] [(0, .val (dM a0)), (1, .val (dM a1)), (5, .val (i64 s4)), (26, .val (.bool (!v12)))] 10 rfl (by kernel_rfl) (by rfl) ?_ ?_
  · simp [hv10a, hv10b, hv10c, hv10d, hv11a, hv11b, hv11c, hv11d] <;> simp [ieq, ilt, ile]
  refine VW.cond rfl (fun hb13 => ?_) (fun hb13 => ?_)
  rotate_left
  ·
    replace hb13 : ¬ (v12 = false) := by simpa [ieq, ilt, ile] using hb13
    rw [if_neg hb13] at hx4o
    refine VW.skip ?_
    refine hK9 _ ?_
    -- region 5
    refine VW.wr tau_ok Sound.none [some 15, some 16, some 5] [(0, .val (dM a0)), (1, .val (dM a1)), (5, .val (i64 (w64 (s4 + 1))))] rfl ?_ ?_
    · simp <;> simp [ieq, ilt, ile]
    cases hx4o
    exact ⟨_, rfl, Fits.of rfl⟩
  replace hb13 : v12 = false := by simpa [ieq, ilt, ile] using hb13
  rw [if_pos hb13] at hx4o
  -- region 7
  refine VW.ws tau_ok Sound.none [some 4] [(4, .val (.bool false))] rfl ?_ ?_
  · simp <;> simp [ieq, ilt, ile]
  cases hx4o
  have hq := hx4b _ rfl
  subst hq
  dsimp only at h
  cases h
  refine VW.ret ?_
  simp [Post, PostM, PostC, PostC2, Nx, Bk]

theorem l_eqSpace_ok {a0_0 : Int} {a0_1 : List Int} {a1_0 : Int} {a1_1 : List Int} {r : Bool} (h : l_eqSpace a0_0 a0_1 a1_0 a1_1 = some r) :
    VCall Try.prog 22 [.agg [i64 a0_0, dI a0_1], .agg [i64 a1_0, dI a1_1]] [.sc (.bool r)] := by
  unfold l_eqSpace at h
  refine VCall.enter Try.call22 Try.func22 rfl 16 Try.ntmps22 (by simp) [.tmp 4] rfl ?_
  show VW _ _ _ (mk [(0, .val (.agg [i64 a0_0, dI a0_1])), (1, .val (.agg [i64 a1_0, dI a1_1]))]) _
  -- region 0
  refine VW.ws tau_ok Sound.none [some 2, some 3, some 4] [(2, .val (.ptr [i64 a0_0, dI a0_1])), (3, .val (.ptr [i64 a1_0, dI a1_1]))] rfl ?_ ?_
  · simp <;> simp [ieq, ilt, ile]
  refine VW.sqc fun K1 hK1 hCK1 => ?_
  -- region 1
  refine VW.ws tau_ok Sound.none [some 5, some 6, some 7, some 8, some 9] [(2, .val (.ptr [i64 a0_0, dI a0_1])), (3, .val (.ptr [i64 a1_0, dI a1_1])), (9, .val (.bool (!(ieq a0_0 a1_0))))] rfl ?_ ?_
  · simp <;> simp [ieq, ilt, ile]
  refine VW.cond rfl (fun hb2 => ?_) (fun hb2 => ?_)
  ·
    replace hb2 : ¬ a0_0 = a1_0 := by simpa [ieq, ilt, ile] using hb2
    rw [if_pos hb2] at h
    -- region 2
    refine VW.ws tau_ok Sound.none [some 4] [(4, .val (.bool false))] rfl ?_ ?_
    · simp <;> simp [ieq, ilt, ile]
    cases h
    refine VW.ret ?_
    simp [Post, PostM, PostC, PostC2, Nx, Bk]
  replace hb2 : ¬ (¬ a0_0 = a1_0) := by simpa [ieq, ilt, ile] using hb2
  rw [if_neg hb2] at h
  refine VW.skip ?_
  refine hK1 _ ?_
  refine VW.sqc fun K3 hK3 hCK3 => ?_
  -- region 3
  obtain ⟨v4, hv4, h⟩ := bind_some h
  refine VW.ws tau_ok (Sound.none.add 14 (l_eqInt64S_ok hv4) rfl) [some 10, some 11, some 12, some 13, some 14, some 15] [(15, .val (.bool (!v4)))] rfl ?_ ?_
  · simp <;> simp [ieq, ilt, ile]
  refine VW.cond rfl (fun hb5 => ?_) (fun hb5 => ?_)
  ·
    replace hb5 : v4 = false := by simpa [ieq, ilt, ile] using hb5
    rw [if_pos hb5] at h
    -- region 4
    refine VW.ws tau_ok Sound.none [some 4] [(4, .val (.bool false))] rfl ?_ ?_
    · simp <;> simp [ieq, ilt, ile]
    cases h
    refine VW.ret ?_
    simp [Post, PostM, PostC, PostC2, Nx, Bk]
  replace hb5 : ¬ (v4 = false) := by simpa [ieq, ilt, ile] using hb5
  rw [if_neg hb5] at h
  refine VW.skip ?_
  refine hK3 _ ?_
  -- region 5
  refine VW.ws tau_ok Sound.none [some 4] [(4, .val (.bool true))] rfl ?_ ?_
  · simp <;> simp [ieq, ilt, ile]
  cases h
  refine VW.ret ?_
  simp [Post, PostM, PostC, PostC2, Nx, Bk]

theorem l_markInt64S_ok {a0 : List Int} {a1 : Int} {r : Int × (List Int)} (h : l_markInt64S a0 a1 = some r) :
    VMut Try.prog 49 (dI a0) [i64 a1] (i64 r.1) (dI r.2) := by
  unfold l_markInt64S at h
  refine VMut.enter Try.call49 Try.func49 rfl 19 Try.ntmps49 (by simp) [.tmp 4] rfl ?_
  show VW _ _ _ (mk [(0, .ref 0 [] true (dI a0)), (1, .val (i64 a1))]) _
  -- region 0
  refine VW.ws tau_ok Sound.none [some 4] [(0, .ref 0 [] true (dI a0)), (1, .val (i64 a1))] rfl ?_ ?_
  · simp <;> simp [ieq, ilt, ile]
  refine VW.sqc fun K1 hK1 hCK1 => ?_
  -- region 1
  refine VW.ws tau_ok Sound.none [some 5] [(0, .ref 0 [] true (dI a0)), (1, .val (i64 a1)), (5, .val (i64 0))] rfl ?_ ?_
  · simp <;> simp [ieq, ilt, ile]
  obtain ⟨x2, hx2, h⟩ := bind_some h
  refine VW.tlE [(0, .ref 0 [] true (dI x2.1)), (1, .val (i64 x2.2))] (hCK1) ?_ ?_
  · clear hx2
    refine hK1 _ ?_
    -- region 6
    refine VW.ws tau_ok Sound.none [some 18, some 4] [(0, .ref 0 [] true (dI x2.1)), (4, .val (i64 x2.2))] rfl ?_ ?_
    · simp <;> simp [ieq, ilt, ile]
    cases h
    refine VW.ret ?_
    simp [Post, PostM, PostC, PostC2, Nx, Bk]
  refine VW.block ?_
  refine VW.loopF l_markInt64S_L0 (fun s2 => [(0, .ref 0 [] true (dI s2.1)), (1, .val (i64 s2.2.1)), (5, .val (i64 s2.2.2))]) hx2 (Fits.of rfl) ?_
  clear hx2
  intro s2 ox2 hx2o hx2b
  unfold l_markInt64S_L0 at hx2o
  refine VW.sqc fun K4 hK4 hCK4 => ?_
  -- region 2
  refine VW.ws tau_ok Sound.none [some 6, some 7, some 8, some 9] [(0, .ref 0 [] true (dI s2.1)), (1, .val (i64 s2.2.1)), (5, .val (i64 s2.2.2)), (9, .val (.bool (ilt s2.2.2 (s2.1.length : Int))))] rfl ?_ ?_
  · simp <;> simp [ieq, ilt, ile]
  refine VW.cond rfl (fun hb5 => ?_) (fun hb5 => ?_)
  rotate_left
  ·
    replace hb5 : ¬ (s2.2.2 < (s2.1.length : Int)) := by simpa [ieq, ilt, ile] using hb5
    rw [if_neg hb5] at hx2o
    refine VW.exit ?_
    cases hx2o
    have hq := hx2b _ rfl
    subst hq
    exact Fits.of rfl
  replace hb5 : s2.2.2 < (s2.1.length : Int) := by simpa [ieq, ilt, ile] using hb5
  rw [if_pos hb5] at hx2o
  refine VW.skip ?_
  refine hK4 _ ?_
  refine VW.sqc fun K6 hK6 hCK6 => ?_
  refine VW.block ?_
  -- region 4
  obtain ⟨v7, hv7, hx2o⟩ := bind_some hx2o
  obtain ⟨hv7a, hv7b, hv7c, hv7d⟩ := idx_some hv7
  refine VW.ws tau_ok Sound.none [some 12, some 13, some 14, some 15, none] [(0, .ref 0 [] true (dI (s2.1.set s2.2.2.toNat s2.2.1))), (1, .val (i64 s2.2.1)), (5, .val (i64 s2.2.2))] rfl ?_ ?_
  · simp [hv7a, hv7b, hv7c, hv7d] <;> simp [ieq, ilt, ile]
  -- region 5
  refine VW.wr tau_ok Sound.none [some 16, some 17, some 1] [(0, .ref 0 [] true (dI (s2.1.set s2.2.2.toNat s2.2.1))), (1, .val (i64 (w64 (s2.2.1 + 1)))), (5, .val (i64 s2.2.2))] rfl ?_ ?_
  · simp <;> simp [ieq, ilt, ile]
  refine hK6 _ ?_
  -- region 3
  refine VW.wr tau_ok Sound.none [some 10, some 11, some 5] [(0, .ref 0 [] true (dI (s2.1.set s2.2.2.toNat s2.2.1))), (1, .val (i64 (w64 (s2.2.1 + 1)))), (5, .val (i64 (w64 (s2.2.2 + 1))))] rfl ?_ ?_
  · simp <;> simp [ieq, ilt, ile]
  cases hx2o
  exact ⟨_, rfl, Fits.of rfl⟩

theorem l_markSpace_ok {a0_0 : Int} {a0_1 : List Int} {a1 : Int} {r : Int} (h : l_markSpace a0_0 a0_1 a1 = some r) :
    VSpoil Try.prog 23 (.agg [i64 a0_0, dI a0_1]) [i64 a1] (i64 r) := by
  unfold l_markSpace at h
  refine VSpoil.enter Try.call23 Try.func23 rfl 10 Try.ntmps23 (by simp) 4 rfl ?_
  show VW _ _ _ (mk [(0, .ref 0 [] true (.agg [i64 a0_0, dI a0_1])), (1, .val (i64 a1))]) _
  -- region 0
  refine VW.ws tau_ok Sound.none [some 2, some 4] [(1, .val (i64 a1)), (2, .al 0 [i64 a0_0, dI a0_1])] rfl ?_ ?_
  · simp <;> simp [ieq, ilt, ile]
  -- region 1
  obtain ⟨v1, hv1, h⟩ := bind_some h
  refine VW.ws tau_ok (Sound.none.mutc 8 (l_markInt64S_ok hv1)) [some 5, some 6, some 7, some 8, some 1] [(1, .val (i64 v1.1))] rfl ?_ ?_
  · simp <;> simp [ieq, ilt, ile]
  -- region 2
  refine VW.ws tau_ok Sound.none [some 9, some 4] [(4, .val (i64 v1.1))] rfl ?_ ?_
  · simp <;> simp [ieq, ilt, ile]
  cases h
  refine VW.ret ?_
  simp [Post, PostM, PostC, PostC2, Nx, Bk]
end Go.Vam
