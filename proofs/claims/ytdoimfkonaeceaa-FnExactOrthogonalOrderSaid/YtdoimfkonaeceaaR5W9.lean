import Derived.Test.YtdoimfkonaeceaaR5T
import Derived.Test.YtdoimfkonaeceaaFnD
import Derived.Test.YtdoimfkonaeceaaR5W2
import Derived.Test.YtdoimfkonaeceaaR5W7
import Derived.Test.YtdoimfkonaeceaaR5W8
namespace Go.Vam
open Go Go.RowKit Go.Proofs
set_option maxRecDepth 100000
set_option linter.unusedSimpArgs false
set_option linter.unusedVariables false

theorem s_l03Pair_ok {a0_0 : Int} {a0_1 : List Int} {a1 : List Int} {a2 : List Int} {r : Int} (h : s_l03Pair a0_0 a0_1 a1 a2 = some r) :
    VCall Try.prog 116 [.agg [i64 a0_0, dI a0_1], dI a1, dI a2] [.sc (i64 r)] := by
  unfold s_l03Pair at h
  refine VCall.enter Try.call116 Try.func116 rfl 39 Try.ntmps116 (by simp) [.tmp 6] rfl ?_
  show VW _ _ _ (mk [(0, .val (.agg [i64 a0_0, dI a0_1])), (1, .val (dI a1)), (2, .val (dI a2))]) _
  -- region 0
  refine VW.ws tau_ok Sound.none [some 3, some 6] [(1, .val (dI a1)), (2, .val (dI a2)), (3, .val (.ptr [i64 a0_0, dI a0_1]))] rfl ?_ ?_
  · simp <;> simp [ieq, ilt, ile]
  -- region 1
  refine VW.ws tau_ok Sound.none [some 7] [(1, .val (dI a1)), (2, .val (dI a2)), (3, .val (.ptr [i64 a0_0, dI a0_1])), (7, .val (i64 0))] rfl ?_ ?_
  · simp <;> simp [ieq, ilt, ile]
  refine VW.sqc fun K1 hK1 hCK1 => ?_
  -- region 2
  refine VW.ws tau_ok Sound.none [some 8] [(1, .val (dI a1)), (2, .val (dI a2)), (3, .val (.ptr [i64 a0_0, dI a0_1])), (7, .val (i64 0)), (8, .val (i64 0))] rfl ?_ ?_
  · simp <;> simp [ieq, ilt, ile]
  obtain ⟨x2, hx2, h⟩ := bind_some h
  refine VW.tlE [(7, .val (i64 x2))] (hCK1) ?_ ?_
  · clear hx2
    refine hK1 _ ?_
    -- region 6
    refine VW.ws tau_ok Sound.none [some 38, some 6] [(6, .val (i64 x2))] rfl ?_ ?_
    · simp <;> simp [ieq, ilt, ile]
    cases h
    refine VW.ret ?_
    simp [Post, PostM, PostC, PostC2, Nx, Bk]
  refine VW.block ?_
  refine VW.loopF (s_l03Pair_L0 a0_0 a0_1 a1 a2) (fun s2 => [(1, .val (dI a1)), (2, .val (dI a2)), (3, .val (.ptr [i64 a0_0, dI a0_1])), (7, .val (i64 s2.1)), (8, .val (i64 s2.2))]) hx2 (Fits.of rfl) ?_
  clear hx2
  intro s2 ox2 hx2o hx2b
  unfold s_l03Pair_L0 at hx2o
  refine VW.sqc fun K4 hK4 hCK4 => ?_
  -- region 3
  refine VW.ws tau_ok Sound.none [some 9, some 10, some 11, some 12] [(1, .val (dI a1)), (2, .val (dI a2)), (3, .val (.ptr [i64 a0_0, dI a0_1])), (7, .val (i64 s2.1)), (8, .val (i64 s2.2)), (12, .val (.bool (ilt s2.2 (a1.length : Int))))] rfl ?_ ?_
  · simp <;> simp [ieq, ilt, ile]
  refine VW.cond rfl (fun hb5 => ?_) (fun hb5 => ?_)
  rotate_left
  ·
    replace hb5 : ¬ (s2.2 < (a1.length : Int)) := by simpa [ieq, ilt, ile] using hb5
    rw [if_neg hb5] at hx2o
    refine VW.exit ?_
    cases hx2o
    have hq := hx2b _ rfl
    subst hq
    exact Fits.of rfl
  replace hb5 : s2.2 < (a1.length : Int) := by simpa [ieq, ilt, ile] using hb5
  rw [if_pos hb5] at hx2o
  refine VW.skip ?_
  refine hK4 _ ?_
  refine VW.sqc fun K6 hK6 hCK6 => ?_
  refine VW.block ?_
  -- region 5
  obtain ⟨v7, hv7, hx2o⟩ := bind_some hx2o
  obtain ⟨hv7a, hv7b, hv7c, hv7d⟩ := idx_some hv7
  obtain ⟨v8, hv8, hx2o⟩ := bind_some hx2o
  obtain ⟨hv8a, hv8b, hv8c, hv8d⟩ := idx_some hv8
  obtain ⟨hc9, hx2o⟩ := chk_some hx2o
  have hc9s := hc9
  try simp at hc9s
  obtain ⟨v10, hv10, hx2o⟩ := bind_some hx2o
  obtain ⟨hv10a, hv10b, hv10c, hv10d⟩ := idx_some hv10
  obtain ⟨hc11, hx2o⟩ := chk_some hx2o
  have hc11s := hc11
  try simp at hc11s
  refine VW.wdr tau_ok Sound.none try_mixed [some 15, some 16, some 17, some 18, some 19, some 20, some 21, some 22, some 23, some 24, some 25, some 26, some 27, some 28, some 29, some 30, some 31, some 32, some 33, some 34, some 35, some 36, some 37, some 7] [(1, .val (dI a1)), (2, .val (dI a2)), (3, .val (.ptr [i64 a0_0, dI a0_1])), (7, .val (i64 ((w64 (s2.1 + (w64 (((w64 (v7 * v8)).tmod a0_0) * v10)))).tmod a0_0))), (8, .val (i64 s2.2))] 24 rfl (by kernel_rfl) (by rfl) ?_ ?_
  · simp [hv7a, hv7b, hv7c, hv7d, hv8a, hv8b, hv8c, hv8d, hc9, hc9s, hv10a, hv10b, hv10c, hv10d, hc11, hc11s] <;> simp [ieq, ilt, ile]
  refine hK6 _ ?_
  -- region 4
  refine VW.wr tau_ok Sound.none [some 13, some 14, some 8] [(1, .val (dI a1)), (2, .val (dI a2)), (3, .val (.ptr [i64 a0_0, dI a0_1])), (7, .val (i64 ((w64 (s2.1 + (w64 (((w64 (v7 * v8)).tmod a0_0) * v10)))).tmod a0_0))), (8, .val (i64 (w64 (s2.2 + 1))))] rfl ?_ ?_
  · simp <;> simp [ieq, ilt, ile]
  cases hx2o
  exact ⟨_, rfl, Fits.of rfl⟩

theorem s_l03Isometry_ok {a0_0 : Int} {a0_1 : List Int} {a1_0 : Int} {a1_1 : List Int} {a2 : List (List Int)} {r : Bool} (h : s_l03Isometry a0_0 a0_1 a1_0 a1_1 a2 = some r) :
    VCall Try.prog 293 [.agg [i64 a0_0, dI a0_1], .agg [i64 a1_0, dI a1_1], dM a2] [.sc (.bool r)] := by
  unfold s_l03Isometry at h
  refine VCall.enter Try.call293 Try.func293 rfl 87 Try.ntmps293 (by simp) [.tmp 6] rfl ?_
  show VW _ _ _ (mk [(0, .val (.agg [i64 a0_0, dI a0_1])), (1, .val (.agg [i64 a1_0, dI a1_1])), (2, .val (dM a2))]) _
  -- region 0
  refine VW.ws tau_ok Sound.none [some 3, some 4, some 6] [(2, .val (dM a2)), (3, .val (.ptr [i64 a0_0, dI a0_1])), (4, .val (.ptr [i64 a1_0, dI a1_1]))] rfl ?_ ?_
  · simp <;> simp [ieq, ilt, ile]
  -- region 1
  refine VW.ws tau_ok Sound.none [some 12, some 13, some 14, some 7] [(2, .val (dM a2)), (3, .val (.ptr [i64 a0_0, dI a0_1])), (4, .val (.ptr [i64 a1_0, dI a1_1])), (7, .val (i64 (a0_1.length : Int)))] rfl ?_ ?_
  · simp <;> simp [ieq, ilt, ile]
  refine VW.sqc fun K1 hK1 hCK1 => ?_
  -- region 2
  obtain ⟨x10, hx10, h⟩ := bind_some h
  refine VW.cut [(2, .val (dM a2)), (3, .val (.ptr [i64 a0_0, dI a0_1])), (4, .val (.ptr [i64 a1_0, dI a1_1])), (7, .val (i64 (a0_1.length : Int))), (54, .val (.bool x10))] ?_ fun hy => ?_
  rotate_left
  · clear h
    by_cases hp2 : ¬ a0_0 = a1_0
    · rw [if_pos hp2] at hx10
      have hp2b : ieq a0_0 a1_0 = false := by simpa [ieq, ilt, ile] using hp2
      have hp2s := hp2b
      try simp at hp2s
      cases hx10
      refine VW.ws tau_ok Sound.none [some 15, some 16, some 17, some 18, some 19, some 20, some 21, some 22, some 23, some 24, some 25, some 26, some 27, some 28, some 29, some 30, some 31, some 32, some 33, some 34, some 35, some 36, some 37, some 38, some 39, some 40, some 41, some 42, some 43, some 44, some 45, some 46, some 47, some 48, some 49, some 50, some 51, some 52, some 53, some 54] _ rfl ?_ hy
      simp [hp2b, hp2s] <;> simp [ieq, ilt, ile]
    · rw [if_neg hp2] at hx10
      have hp2b : ieq a0_0 a1_0 = true := by simpa [ieq, ilt, ile] using hp2
      have hp2s := hp2b
      try simp at hp2s
      by_cases hp3 : ¬ (a1_1.length : Int) = (a0_1.length : Int)
      · rw [if_pos hp3] at hx10
        have hp3b : ieq (a1_1.length : Int) (a0_1.length : Int) = false := by simpa [ieq, ilt, ile] using hp3
        have hp3s := hp3b
        try simp at hp3s
        cases hx10
        refine VW.ws tau_ok Sound.none [some 15, some 16, some 17, some 18, some 19, some 20, some 21, some 22, some 23, some 24, some 25, some 26, some 27, some 28, some 29, some 30, some 31, some 32, some 33, some 34, some 35, some 36, some 37, some 38, some 39, some 40, some 41, some 42, some 43, some 44, some 45, some 46, some 47, some 48, some 49, some 50, some 51, some 52, some 53, some 54] _ rfl ?_ hy
        simp [hp2b, hp2s, hp3b, hp3s] <;> simp [ieq, ilt, ile]
      · rw [if_neg hp3] at hx10
        have hp3b : ieq (a1_1.length : Int) (a0_1.length : Int) = true := by simpa [ieq, ilt, ile] using hp3
        have hp3s := hp3b
        try simp at hp3s
        by_cases hp4 : ¬ (a2.length : Int) = (a0_1.length : Int)
        · rw [if_pos hp4] at hx10
          have hp4b : ieq (a2.length : Int) (a0_1.length : Int) = false := by simpa [ieq, ilt, ile] using hp4
          have hp4s := hp4b
          try simp at hp4s
          cases hx10
          refine VW.ws tau_ok Sound.none [some 15, some 16, some 17, some 18, some 19, some 20, some 21, some 22, some 23, some 24, some 25, some 26, some 27, some 28, some 29, some 30, some 31, some 32, some 33, some 34, some 35, some 36, some 37, some 38, some 39, some 40, some 41, some 42, some 43, some 44, some 45, some 46, some 47, some 48, some 49, some 50, some 51, some 52, some 53, some 54] _ rfl ?_ hy
          simp [hp2b, hp2s, hp3b, hp3s, hp4b, hp4s] <;> simp [ieq, ilt, ile]
        · rw [if_neg hp4] at hx10
          have hp4b : ieq (a2.length : Int) (a0_1.length : Int) = true := by simpa [ieq, ilt, ile] using hp4
          have hp4s := hp4b
          try simp at hp4s
          obtain ⟨v5, hv5, hx10⟩ := bind_some hx10
          by_cases hp6 : v5 = false
          · rw [if_pos hp6] at hx10
            have hp6b : v5 = false := by simpa [ieq, ilt, ile] using hp6
            have hp6s := hp6b
            try simp at hp6s
            cases hx10
            refine VW.ws tau_ok (Sound.none.add 37 (s_l02Is_ok hv5) rfl) [some 15, some 16, some 17, some 18, some 19, some 20, some 21, some 22, some 23, some 24, some 25, some 26, some 27, some 28, some 29, some 30, some 31, some 32, some 33, some 34, some 35, some 36, some 37, some 38, some 39, some 40, some 41, some 42, some 43, some 44, some 45, some 46, some 47, some 48, some 49, some 50, some 51, some 52, some 53, some 54] _ rfl ?_ hy
            simp [hp2b, hp2s, hp3b, hp3s, hp4b, hp4s, hp6b, hp6s] <;> simp [ieq, ilt, ile]
          · rw [if_neg hp6] at hx10
            have hp6b : v5 = true := by simpa [ieq, ilt, ile] using hp6
            have hp6s := hp6b
            try simp at hp6s
            obtain ⟨v7, hv7, hx10⟩ := bind_some hx10
            obtain ⟨hv7a, hv7b, hv7c, hv7d⟩ := idx_some hv7
            replace hv7b : 0 < a2.length := hv7b
            replace hv7c : a2[0]? = some v7 := hv7c
            replace hv7d : ∀ h, a2[0]'h = v7 := hv7d
            by_cases hp8 : ¬ (v7.length : Int) = (a0_1.length : Int)
            · rw [if_pos hp8] at hx10
              have hp8b : ieq (v7.length : Int) (a0_1.length : Int) = false := by simpa [ieq, ilt, ile] using hp8
              have hp8s := hp8b
              try simp at hp8s
              cases hx10
              refine VW.ws tau_ok (Sound.none.add 37 (s_l02Is_ok hv5) rfl) [some 15, some 16, some 17, some 18, some 19, some 20, some 21, some 22, some 23, some 24, some 25, some 26, some 27, some 28, some 29, some 30, some 31, some 32, some 33, some 34, some 35, some 36, some 37, some 38, some 39, some 40, some 41, some 42, some 43, some 44, some 45, some 46, some 47, some 48, some 49, some 50, some 51, some 52, some 53, some 54] _ rfl ?_ hy
              simp [hp2b, hp2s, hp3b, hp3s, hp4b, hp4s, hp6b, hp6s, hv7a, hv7b, hv7c, hv7d, hp8b, hp8s] <;> simp [ieq, ilt, ile]
            · rw [if_neg hp8] at hx10
              have hp8b : ieq (v7.length : Int) (a0_1.length : Int) = true := by simpa [ieq, ilt, ile] using hp8
              have hp8s := hp8b
              try simp at hp8s
              obtain ⟨v9, hv9, hx10⟩ := bind_some hx10
              cases hx10
              refine VW.ws tau_ok ((Sound.none.add 37 (s_l02Is_ok hv5) rfl).add 52 (s_l02Det_ok hv9) rfl) [some 15, some 16, some 17, some 18, some 19, some 20, some 21, some 22, some 23, some 24, some 25, some 26, some 27, some 28, some 29, some 30, some 31, some 32, some 33, some 34, some 35, some 36, some 37, some 38, some 39, some 40, some 41, some 42, some 43, some 44, some 45, some 46, some 47, some 48, some 49, some 50, some 51, some 52, some 53, some 54] _ rfl ?_ hy
              simp [hp2b, hp2s, hp3b, hp3s, hp4b, hp4s, hp6b, hp6s, hv7a, hv7b, hv7c, hv7d, hp8b, hp8s] <;> simp [ieq, ilt, ile]
  refine VW.cond rfl (fun hb11 => ?_) (fun hb11 => ?_)
  ·
    replace hb11 : x10 = true := by simpa [ieq, ilt, ile] using hb11
    rw [if_pos hb11] at h
    -- region 3
    refine VW.ws tau_ok Sound.none [some 6] [(6, .val (.bool false))] rfl ?_ ?_
    · simp <;> simp [ieq, ilt, ile]
    cases h
    refine VW.ret ?_
    simp [Post, PostM, PostC, PostC2, Nx, Bk]
  replace hb11 : ¬ (x10 = true) := by simpa [ieq, ilt, ile] using hb11
  rw [if_neg hb11] at h
  refine VW.skip ?_
  refine hK1 _ ?_
  -- region 4
  obtain ⟨v12, hv12, h⟩ := bind_some h
  refine VW.ws tau_ok (Sound.none.add 56 (s_l02Turn_ok hv12) rfl) [some 55, some 56, some 8] [(3, .val (.ptr [i64 a0_0, dI a0_1])), (4, .val (.ptr [i64 a1_0, dI a1_1])), (7, .val (i64 (a0_1.length : Int))), (8, .ref 8 [] true (dM v12))] rfl ?_ ?_
  · simp <;> simp [ieq, ilt, ile]
  refine VW.sqc fun K13 hK13 hCK13 => ?_
  -- region 5
  refine VW.ws tau_ok Sound.none [some 9] [(3, .val (.ptr [i64 a0_0, dI a0_1])), (4, .val (.ptr [i64 a1_0, dI a1_1])), (7, .val (i64 (a0_1.length : Int))), (8, .ref 8 [] true (dM v12)), (9, .val (i64 0))] rfl ?_ ?_
  · simp <;> simp [ieq, ilt, ile]
  obtain ⟨x14, hx14, h⟩ := bind_some h
  refine VW.tlO (fun y16 => []) x14 (hCK13) ?_ ?_
  · clear hx14
    rintro y16 rfl
    dsimp only at h
    refine hK13 _ ?_
    -- region 16
    refine VW.ws tau_ok Sound.none [some 6] [(6, .val (.bool true))] rfl ?_ ?_
    · simp <;> simp [ieq, ilt, ile]
    cases h
    refine VW.ret ?_
    simp [Post, PostM, PostC, PostC2, Nx, Bk]
  refine VW.block ?_
  refine VW.loopF (s_l03Isometry_L0 a0_1 a1_0 a1_1 v12) (fun s14 => [(3, .val (.ptr [i64 a0_0, dI a0_1])), (4, .val (.ptr [i64 a1_0, dI a1_1])), (7, .val (i64 (a0_1.length : Int))), (8, .ref 8 [] true (dM v12)), (9, .val (i64 s14))]) hx14 (Fits.of rfl) ?_
  clear hx14
  intro s14 ox14 hx14o hx14b
  unfold s_l03Isometry_L0 at hx14o
  refine VW.sqc fun K17 hK17 hCK17 => ?_
  -- region 6
  refine VW.ws tau_ok Sound.none [some 57, some 58, some 59] [(3, .val (.ptr [i64 a0_0, dI a0_1])), (4, .val (.ptr [i64 a1_0, dI a1_1])), (7, .val (i64 (a0_1.length : Int))), (8, .ref 8 [] true (dM v12)), (9, .val (i64 s14)), (59, .val (.bool (ilt s14 (a0_1.length : Int))))] rfl ?_ ?_
  · simp <;> simp [ieq, ilt, ile]
  refine VW.cond rfl (fun hb18 => ?_) (fun hb18 => ?_)
  rotate_left
  ·
    replace hb18 : ¬ (s14 < (a0_1.length : Int)) := by simpa [ieq, ilt, ile] using hb18
    rw [if_neg hb18] at hx14o
    refine VW.exit ?_
    cases hx14o
    have hq := hx14b _ rfl
    subst hq
    exact ⟨_, rfl, Fits.of rfl⟩
  replace hb18 : s14 < (a0_1.length : Int) := by simpa [ieq, ilt, ile] using hb18
  rw [if_pos hb18] at hx14o
  refine VW.skip ?_
  refine hK17 _ ?_
  refine VW.sqc fun K19 hK19 hCK19 => ?_
  refine VW.block ?_
  -- region 8
  refine VW.ws tau_ok Sound.none [some 10] [(3, .val (.ptr [i64 a0_0, dI a0_1])), (4, .val (.ptr [i64 a1_0, dI a1_1])), (7, .val (i64 (a0_1.length : Int))), (8, .ref 8 [] true (dM v12)), (9, .val (i64 s14)), (10, .val (i64 0))] rfl ?_ ?_
  · simp <;> simp [ieq, ilt, ile]
  obtain ⟨x20, hx20, hx14o⟩ := bind_some hx14o
  refine VW.tlO (fun y22 => [(3, .val (.ptr [i64 a0_0, dI a0_1])), (4, .val (.ptr [i64 a1_0, dI a1_1])), (7, .val (i64 (a0_1.length : Int))), (8, .ref 8 [] true (dM v12)), (9, .val (i64 s14))]) x20 (hCK19) ?_ ?_
  · clear hx20
    rintro y22 rfl
    dsimp only at hx14o
    refine hK19 _ ?_
    -- region 7
    refine VW.wr tau_ok Sound.none [some 60, some 61, some 9] [(3, .val (.ptr [i64 a0_0, dI a0_1])), (4, .val (.ptr [i64 a1_0, dI a1_1])), (7, .val (i64 (a0_1.length : Int))), (8, .ref 8 [] true (dM v12)), (9, .val (i64 (w64 (s14 + 1))))] rfl ?_ ?_
    · simp <;> simp [ieq, ilt, ile]
    cases hx14o
    exact ⟨_, rfl, Fits.of rfl⟩
  refine VW.block ?_
  refine VW.loopF (s_l03Isometry_L1 a0_1 a1_0 a1_1 v12 s14) (fun s20 => [(3, .val (.ptr [i64 a0_0, dI a0_1])), (4, .val (.ptr [i64 a1_0, dI a1_1])), (7, .val (i64 (a0_1.length : Int))), (8, .ref 8 [] true (dM v12)), (9, .val (i64 s14)), (10, .val (i64 s20))]) hx20 (Fits.of rfl) ?_
  clear hx20
  intro s20 ox20 hx20o hx20b
  unfold s_l03Isometry_L1 at hx20o
  refine VW.sqc fun K23 hK23 hCK23 => ?_
  -- region 9
  refine VW.ws tau_ok Sound.none [some 62, some 63, some 64] [(3, .val (.ptr [i64 a0_0, dI a0_1])), (4, .val (.ptr [i64 a1_0, dI a1_1])), (7, .val (i64 (a0_1.length : Int))), (8, .ref 8 [] true (dM v12)), (9, .val (i64 s14)), (10, .val (i64 s20)), (64, .val (.bool (ile s20 s14)))] rfl ?_ ?_
  · simp <;> simp [ieq, ilt, ile]
  refine VW.cond rfl (fun hb24 => ?_) (fun hb24 => ?_)
  rotate_left
  ·
    replace hb24 : ¬ (s20 ≤ s14) := by simpa [ieq, ilt, ile] using hb24
    rw [if_neg hb24] at hx20o
    refine VW.exit ?_
    cases hx20o
    have hq := hx20b _ rfl
    subst hq
    exact ⟨_, rfl, Fits.of rfl⟩
  replace hb24 : s20 ≤ s14 := by simpa [ieq, ilt, ile] using hb24
  rw [if_pos hb24] at hx20o
  refine VW.skip ?_
  refine hK23 _ ?_
  refine VW.sqc fun K25 hK25 hCK25 => ?_
  refine VW.block ?_
  -- region 11
  refine VW.ws tau_ok Sound.none [some 11] [(3, .val (.ptr [i64 a0_0, dI a0_1])), (4, .val (.ptr [i64 a1_0, dI a1_1])), (7, .val (i64 (a0_1.length : Int))), (8, .ref 8 [] true (dM v12)), (9, .val (i64 s14)), (10, .val (i64 s20)), (11, .val (i64 0))] rfl ?_ ?_
  · simp <;> simp [ieq, ilt, ile]
  refine VW.sqc fun K26 hK26 hCK26 => ?_
  -- region 12
  refine VW.ws tau_ok Sound.none [some 67, some 68, some 69] [(3, .val (.ptr [i64 a0_0, dI a0_1])), (4, .val (.ptr [i64 a1_0, dI a1_1])), (7, .val (i64 (a0_1.length : Int))), (8, .ref 8 [] true (dM v12)), (9, .val (i64 s14)), (10, .val (i64 s20)), (11, .val (i64 0)), (69, .val (.bool (ieq s14 s20)))] rfl ?_ ?_
  · simp <;> simp [ieq, ilt, ile]
  obtain ⟨x27, hx27, hx20o⟩ := bind_some hx20o
  refine VW.tlE [(3, .val (.ptr [i64 a0_0, dI a0_1])), (4, .val (.ptr [i64 a1_0, dI a1_1])), (7, .val (i64 (a0_1.length : Int))), (8, .ref 8 [] true (dM v12)), (9, .val (i64 s14)), (10, .val (i64 s20)), (11, .val (i64 x27))] (hCK26) ?_ ?_
  · clear hx27
    refine hK26 _ ?_
    -- region 14
    obtain ⟨v31, hv31, hx20o⟩ := bind_some hx20o
    obtain ⟨hv31a, hv31b, hv31c, hv31d⟩ := idx_some hv31
    obtain ⟨v32, hv32, hx20o⟩ := bind_some hx20o
    obtain ⟨hv32a, hv32b, hv32c, hv32d⟩ := idx_some hv32
    obtain ⟨v33, hv33, hx20o⟩ := bind_some hx20o
    refine VW.wds tau_ok (Sound.none.add 84 (s_l03Pair_ok hv33) rfl) try_mixed [some 75, some 76, some 77, some 78, some 79, some 80, some 81, some 82, some 83, some 84, some 85, some 86] [(3, .val (.ptr [i64 a0_0, dI a0_1])), (4, .val (.ptr [i64 a1_0, dI a1_1])), (7, .val (i64 (a0_1.length : Int))), (8, .ref 8 [] true (dM v12)), (9, .val (i64 s14)), (10, .val (i64 s20)), (86, .val (.bool (!(ieq v33 x27))))] 12 rfl (by kernel_rfl) (by rfl) ?_ ?_
    · simp [hv31a, hv31b, hv31c, hv31d, hv32a, hv32b, hv32c, hv32d] <;> simp [ieq, ilt, ile]
    refine VW.cond rfl (fun hb34 => ?_) (fun hb34 => ?_)
    rotate_left
    ·
      replace hb34 : ¬ (¬ v33 = x27) := by simpa [ieq, ilt, ile] using hb34
      rw [if_neg hb34] at hx20o
      refine VW.skip ?_
      refine hK25 _ ?_
      -- region 10
      refine VW.wr tau_ok Sound.none [some 65, some 66, some 10] [(3, .val (.ptr [i64 a0_0, dI a0_1])), (4, .val (.ptr [i64 a1_0, dI a1_1])), (7, .val (i64 (a0_1.length : Int))), (8, .ref 8 [] true (dM v12)), (9, .val (i64 s14)), (10, .val (i64 (w64 (s20 + 1))))] rfl ?_ ?_
      · simp <;> simp [ieq, ilt, ile]
      cases hx20o
      exact ⟨_, rfl, Fits.of rfl⟩
    replace hb34 : ¬ v33 = x27 := by simpa [ieq, ilt, ile] using hb34
    rw [if_pos hb34] at hx20o
    -- region 15
    refine VW.ws tau_ok Sound.none [some 6] [(6, .val (.bool false))] rfl ?_ ?_
    · simp <;> simp [ieq, ilt, ile]
    cases hx20o
    have hq := hx20b _ rfl
    subst hq
    dsimp only at hx14o
    cases hx14o
    have hq := hx14b _ rfl
    subst hq
    dsimp only at h
    cases h
    refine VW.ret ?_
    simp [Post, PostM, PostC, PostC2, Nx, Bk]
  refine VW.cond rfl (fun hb29 => ?_) (fun hb29 => ?_)
  rotate_left
  ·
    replace hb29 : ¬ (s14 = s20) := by simpa [ieq, ilt, ile] using hb29
    rw [if_neg hb29] at hx27
    refine VW.skip ?_
    cases hx27
    exact Fits.of rfl
  replace hb29 : s14 = s20 := by simpa [ieq, ilt, ile] using hb29
  rw [if_pos hb29] at hx27
  -- region 13
  obtain ⟨v30, hv30, hx27⟩ := bind_some hx27
  obtain ⟨hv30a, hv30b, hv30c, hv30d⟩ := idx_some hv30
  refine VW.wr tau_ok Sound.none [some 70, some 71, some 72, some 73, some 74, some 11] [(3, .val (.ptr [i64 a0_0, dI a0_1])), (4, .val (.ptr [i64 a1_0, dI a1_1])), (7, .val (i64 (a0_1.length : Int))), (8, .ref 8 [] true (dM v12)), (9, .val (i64 s14)), (10, .val (i64 s20)), (11, .val (i64 v30))] rfl ?_ ?_
  · simp [hv30a, hv30b, hv30c, hv30d] <;> simp [ieq, ilt, ile]
  cases hx27
  exact Fits.of rfl

theorem s_l08Is_ok {a0_0 : Int} {a0_1 : List Int} {a1 : List (List Int)} {r : Bool} (h : s_l08Is a0_0 a0_1 a1 = some r) :
    VCall Try.prog 267 [.agg [i64 a0_0, dI a0_1], dM a1] [.sc (.bool r)] := by
  unfold s_l08Is at h
  refine VCall.enter Try.call267 Try.func267 rfl 9 Try.ntmps267 (by simp) [.tmp 4] rfl ?_
  show VW _ _ _ (mk [(0, .val (.agg [i64 a0_0, dI a0_1])), (1, .val (dM a1))]) _
  -- region 0
  refine VW.ws tau_ok Sound.none [some 2, some 4] [(1, .val (dM a1)), (2, .val (.ptr [i64 a0_0, dI a0_1]))] rfl ?_ ?_
  · simp <;> simp [ieq, ilt, ile]
  -- region 1
  obtain ⟨v1, hv1, h⟩ := bind_some h
  refine VW.ws tau_ok (Sound.none.add 8 (s_l03Isometry_ok hv1) rfl) [some 5, some 6, some 7, some 8, some 4] [(4, .val (.bool v1))] rfl ?_ ?_
  · simp <;> simp [ieq, ilt, ile]
  cases h
  refine VW.ret ?_
  simp [Post, PostM, PostC, PostC2, Nx, Bk]

theorem s_IsOrthogonal_ok {a0_0 : Int} {a0_1 : List Int} {a1 : List (List Int)} {r : Bool × Int} (h : s_IsOrthogonal a0_0 a0_1 a1 = some r) :
    VCall Try.prog 199 [.agg [i64 a0_0, dI a0_1], dM a1] [.sc (.bool r.1), .sc (i64 r.2)] := by
  unfold s_IsOrthogonal at h
  refine VCall.enter Try.call199 Try.func199 rfl 15 Try.ntmps199 (by simp) [.tmp 4, .tmp 5] rfl ?_
  show VW _ _ _ (mk [(0, .val (.agg [i64 a0_0, dI a0_1])), (1, .val (dM a1))]) _
  -- region 0
  refine VW.ws tau_ok Sound.none [some 2, some 4, some 5] [(1, .val (dM a1)), (2, .val (.ptr [i64 a0_0, dI a0_1]))] rfl ?_ ?_
  · simp <;> simp [ieq, ilt, ile]
  refine VW.sqc fun K1 hK1 hCK1 => ?_
  -- region 1
  obtain ⟨v2, hv2, h⟩ := bind_some h
  refine VW.ws tau_ok (Sound.none.add 7 (s_l03Is_ok hv2) rfl) [some 6, some 7, some 8] [(1, .val (dM a1)), (2, .val (.ptr [i64 a0_0, dI a0_1])), (8, .val (.bool (!v2)))] rfl ?_ ?_
  · simp <;> simp [ieq, ilt, ile]
  refine VW.cond rfl (fun hb3 => ?_) (fun hb3 => ?_)
  ·
    replace hb3 : v2 = false := by simpa [ieq, ilt, ile] using hb3
    rw [if_pos hb3] at h
    -- region 2
    refine VW.ws tau_ok Sound.none [some 4, some 5] [(4, .val (.bool false)), (5, .val (i64 1))] rfl ?_ ?_
    · simp <;> simp [ieq, ilt, ile]
    cases h
    refine VW.ret ?_
    simp [Post, PostM, PostC, PostC2, Nx, Bk]
  replace hb3 : ¬ (v2 = false) := by simpa [ieq, ilt, ile] using hb3
  rw [if_neg hb3] at h
  refine VW.skip ?_
  refine hK1 _ ?_
  refine VW.sqc fun K4 hK4 hCK4 => ?_
  -- region 3
  obtain ⟨v5, hv5, h⟩ := bind_some h
  refine VW.ws tau_ok (Sound.none.add 10 (s_l03Disc_ok hv5) rfl) [some 9, some 10, some 11] [(1, .val (dM a1)), (2, .val (.ptr [i64 a0_0, dI a0_1])), (11, .val (.bool (ieq v5 0)))] rfl ?_ ?_
  · simp <;> simp [ieq, ilt, ile]
  refine VW.cond rfl (fun hb6 => ?_) (fun hb6 => ?_)
  ·
    replace hb6 : v5 = 0 := by simpa [ieq, ilt, ile] using hb6
    rw [if_pos hb6] at h
    -- region 4
    refine VW.ws tau_ok Sound.none [some 4, some 5] [(4, .val (.bool false)), (5, .val (i64 5))] rfl ?_ ?_
    · simp <;> simp [ieq, ilt, ile]
    cases h
    refine VW.ret ?_
    simp [Post, PostM, PostC, PostC2, Nx, Bk]
  replace hb6 : ¬ (v5 = 0) := by simpa [ieq, ilt, ile] using hb6
  rw [if_neg hb6] at h
  refine VW.skip ?_
  refine hK4 _ ?_
  -- region 5
  obtain ⟨v7, hv7, h⟩ := bind_some h
  refine VW.ws tau_ok (Sound.none.add 14 (s_l08Is_ok hv7) rfl) [some 12, some 13, some 14, some 4, some 5] [(4, .val (.bool v7)), (5, .val (i64 0))] rfl ?_ ?_
  · simp <;> simp [ieq, ilt, ile]
  cases h
  refine VW.ret ?_
  simp [Post, PostM, PostC, PostC2, Nx, Bk]

theorem s_l08Code_ok {a0_0 : Int} {a0_1 : List Int} {a1 : List (List Int)} {r : Int} (h : s_l08Code a0_0 a0_1 a1 = some r) :
    VCall Try.prog 95 [.agg [i64 a0_0, dI a0_1], dM a1] [.sc (i64 r)] := by
  unfold s_l08Code at h
  refine VCall.enter Try.call95 Try.func95 rfl 20 Try.ntmps95 (by simp) [.tmp 4] rfl ?_
  show VW _ _ _ (mk [(0, .val (.agg [i64 a0_0, dI a0_1])), (1, .val (dM a1))]) _
  -- region 0
  refine VW.ws tau_ok Sound.none [some 2, some 4] [(1, .val (dM a1)), (2, .val (.ptr [i64 a0_0, dI a0_1]))] rfl ?_ ?_
  · simp <;> simp [ieq, ilt, ile]
  -- region 1
  obtain ⟨v1, hv1, h⟩ := bind_some h
  refine VW.ws tau_ok (Sound.none.add 10 (s_IsOrthogonal_ok hv1) rfl) [some 8, some 9, some 10, some 7, some 11, some 12, some 5, some 6] [(5, .val (.bool v1.1)), (6, .val (i64 v1.2))] rfl ?_ ?_
  · simp <;> simp [ieq, ilt, ile]
  refine VW.sqc fun K2 hK2 hCK2 => ?_
  -- region 2
  obtain ⟨x4, hx4, h⟩ := bind_some h
  refine VW.cut [(6, .val (i64 v1.2)), (18, .val (.bool x4))] ?_ fun hy => ?_
  rotate_left
  · clear h
    by_cases hp3 : v1.2 = 0
    · rw [if_pos hp3] at hx4
      have hp3b : ieq v1.2 0 = true := by simpa [ieq, ilt, ile] using hp3
      have hp3s := hp3b
      try simp at hp3s
      cases hx4
      refine VW.ws tau_ok Sound.none [some 13, some 14, some 15, some 16, some 17, some 18] _ rfl ?_ hy
      simp [hp3b, hp3s] <;> simp [ieq, ilt, ile]
    · rw [if_neg hp3] at hx4
      have hp3b : ieq v1.2 0 = false := by simpa [ieq, ilt, ile] using hp3
      have hp3s := hp3b
      try simp at hp3s
      cases hx4
      refine VW.ws tau_ok Sound.none [some 13, some 14, some 15, some 16, some 17, some 18] _ rfl ?_ hy
      simp [hp3b, hp3s] <;> simp [ieq, ilt, ile]
  obtain ⟨x5, hx5, h⟩ := bind_some h
  refine VW.tlE [(6, .val (i64 x5))] (hCK2) ?_ ?_
  · clear hx5
    refine hK2 _ ?_
    -- region 4
    refine VW.ws tau_ok Sound.none [some 19, some 4] [(4, .val (i64 x5))] rfl ?_ ?_
    · simp <;> simp [ieq, ilt, ile]
    cases h
    refine VW.ret ?_
    simp [Post, PostM, PostC, PostC2, Nx, Bk]
  refine VW.cond rfl (fun hb7 => ?_) (fun hb7 => ?_)
  rotate_left
  ·
    replace hb7 : ¬ (x4 = true) := by simpa [ieq, ilt, ile] using hb7
    rw [if_neg hb7] at hx5
    refine VW.skip ?_
    cases hx5
    exact Fits.of rfl
  replace hb7 : x4 = true := by simpa [ieq, ilt, ile] using hb7
  rw [if_pos hb7] at hx5
  -- region 3
  refine VW.wr tau_ok Sound.none [some 6] [(6, .val (i64 2))] rfl ?_ ?_
  · simp <;> simp [ieq, ilt, ile]
  cases hx5
  exact Fits.of rfl

theorem s_l02Unit_ok {a0 : Int} {r : List (List Int)} (h : s_l02Unit a0 = some r) :
    VCall Try.prog 96 [i64 a0] [.own true (dM r)] := by
  unfold s_l02Unit at h
  refine VCall.enter Try.call96 Try.func96 rfl 22 Try.ntmps96 (by simp) [.tmp 2] rfl ?_
  show VW _ _ _ (mk [(0, .val (i64 a0))]) _
  -- region 0
  refine VW.ws tau_ok Sound.none [some 2] [(0, .val (i64 a0))] rfl ?_ ?_
  · simp <;> simp [ieq, ilt, ile]
  -- region 1
  refine VW.ws tau_ok Sound.none [some 6, some 3] [(0, .val (i64 a0)), (3, .ref 3 [] true (dM []))] rfl ?_ ?_
  · simp <;> simp [ieq, ilt, ile]
  refine VW.sqc fun K1 hK1 hCK1 => ?_
  -- region 2
  refine VW.ws tau_ok Sound.none [some 4] [(0, .val (i64 a0)), (3, .ref 3 [] true (dM [])), (4, .val (i64 0))] rfl ?_ ?_
  · simp <;> simp [ieq, ilt, ile]
  obtain ⟨x2, hx2, h⟩ := bind_some h
  refine VW.tlE [(3, .ref 3 [] true (dM x2))] (hCK1) ?_ ?_
  · clear hx2
    refine hK1 _ ?_
    -- region 8
    refine VW.ws tau_ok Sound.none [some 21, some 2] [(2, .ref 2 [] true (dM x2))] rfl ?_ ?_
    · simp <;> simp [ieq, ilt, ile]
    cases h
    refine VW.ret ?_
    simp [Post, PostM, PostC, PostC2, Nx, Bk]
  refine VW.block ?_
  refine VW.loopF (s_l02Unit_L0 a0) (fun s2 => [(0, .val (i64 a0)), (3, .ref 3 [] true (dM s2.1)), (4, .val (i64 s2.2))]) hx2 (Fits.of rfl) ?_
  clear hx2
  intro s2 ox2 hx2o hx2b
  unfold s_l02Unit_L0 at hx2o
  refine VW.sqc fun K4 hK4 hCK4 => ?_
  -- region 3
  refine VW.ws tau_ok Sound.none [some 7, some 8, some 9] [(0, .val (i64 a0)), (3, .ref 3 [] true (dM s2.1)), (4, .val (i64 s2.2)), (9, .val (.bool (ilt s2.2 a0)))] rfl ?_ ?_
  · simp <;> simp [ieq, ilt, ile]
  refine VW.cond rfl (fun hb5 => ?_) (fun hb5 => ?_)
  rotate_left
  ·
    replace hb5 : ¬ (s2.2 < a0) := by simpa [ieq, ilt, ile] using hb5
    rw [if_neg hb5] at hx2o
    refine VW.exit ?_
    cases hx2o
    have hq := hx2b _ rfl
    subst hq
    exact Fits.of rfl
  replace hb5 : s2.2 < a0 := by simpa [ieq, ilt, ile] using hb5
  rw [if_pos hb5] at hx2o
  refine VW.skip ?_
  refine hK4 _ ?_
  refine VW.sqc fun K6 hK6 hCK6 => ?_
  refine VW.block ?_
  -- region 5
  obtain ⟨hc7, hx2o⟩ := chk_some hx2o
  have hc7s := hc7
  try simp at hc7s
  refine VW.ws tau_ok Sound.none [some 12, some 13, some 5] [(0, .val (i64 a0)), (3, .ref 3 [] true (dM s2.1)), (4, .val (i64 s2.2)), (5, .ref 5 [] true (dI (List.replicate a0.toNat 0)))] rfl ?_ ?_
  · simp [hc7, hc7s] <;> simp [ieq, ilt, ile]
  obtain ⟨l8, hl8, hx2o⟩ := bind_some hx2o
  rw [Option.some.inj hl8]
  -- region 6
  obtain ⟨v9, hv9, hx2o⟩ := bind_some hx2o
  obtain ⟨hv9a, hv9b, hv9c, hv9d⟩ := idx_some hv9
  refine VW.ws tau_ok Sound.none [some 14, some 15, some 16, none] [(0, .val (i64 a0)), (3, .ref 3 [] true (dM s2.1)), (4, .val (i64 s2.2)), (5, .ref 5 [] true (dI (l8.set s2.2.toNat 1)))] rfl ?_ ?_
  · simp [hv9a, hv9b, hv9c, hv9d] <;> simp [ieq, ilt, ile]
  -- region 7
  obtain ⟨hc10, hx2o⟩ := chk_some hx2o
  have hc10s := hc10
  try simp at hc10s
  refine VW.wr tau_ok Sound.none [some 17, some 18, some 19, some 20, some 3] [(0, .val (i64 a0)), (3, .ref 3 [] true (dM (s2.1 ++ [l8.set s2.2.toNat 1]))), (4, .val (i64 s2.2))] rfl ?_ ?_
  · simp [hc10, hc10s] <;> simp [ieq, ilt, ile]
  refine hK6 _ ?_
  -- region 4
  refine VW.wr tau_ok Sound.none [some 10, some 11, some 4] [(0, .val (i64 a0)), (3, .ref 3 [] true (dM (s2.1 ++ [l8.set s2.2.toNat 1]))), (4, .val (i64 (w64 (s2.2 + 1))))] rfl ?_ ?_
  · simp <;> simp [ieq, ilt, ile]
  cases hx2o
  exact ⟨_, rfl, Fits.of rfl⟩

theorem s_l01Same2_ok {a0 : List (List Int)} {a1 : List (List Int)} {r : Bool} (h : s_l01Same2 a0 a1 = some r) :
    VCall Try.prog 97 [dM a0, dM a1] [.sc (.bool r)] := by
  unfold s_l01Same2 at h
  refine VCall.enter Try.call97 Try.func97 rfl 27 Try.ntmps97 (by simp) [.tmp 4] rfl ?_
  show VW _ _ _ (mk [(0, .val (dM a0)), (1, .val (dM a1))]) _
  -- region 0
  refine VW.ws tau_ok Sound.none [some 4] [(0, .val (dM a0)), (1, .val (dM a1))] rfl ?_ ?_
  · simp <;> simp [ieq, ilt, ile]
  refine VW.sqc fun K1 hK1 hCK1 => ?_
  -- region 1
  refine VW.ws tau_ok Sound.none [some 6, some 7, some 8, some 9, some 10] [(0, .val (dM a0)), (1, .val (dM a1)), (10, .val (.bool (!(ieq (a0.length : Int) (a1.length : Int)))))] rfl ?_ ?_
  · simp <;> simp [ieq, ilt, ile]
  refine VW.cond rfl (fun hb2 => ?_) (fun hb2 => ?_)
  ·
    replace hb2 : ¬ (a0.length : Int) = (a1.length : Int) := by simpa [ieq, ilt, ile] using hb2
    rw [if_pos hb2] at h
    -- region 2
    refine VW.ws tau_ok Sound.none [some 4] [(4, .val (.bool false))] rfl ?_ ?_
    · simp <;> simp [ieq, ilt, ile]
    cases h
    refine VW.ret ?_
    simp [Post, PostM, PostC, PostC2, Nx, Bk]
  replace hb2 : ¬ (¬ (a0.length : Int) = (a1.length : Int)) := by simpa [ieq, ilt, ile] using hb2
  rw [if_neg hb2] at h
  refine VW.skip ?_
  refine hK1 _ ?_
  refine VW.sqc fun K3 hK3 hCK3 => ?_
  -- region 3
  refine VW.ws tau_ok Sound.none [some 5] [(0, .val (dM a0)), (1, .val (dM a1)), (5, .val (i64 0))] rfl ?_ ?_
  · simp <;> simp [ieq, ilt, ile]
  obtain ⟨x4, hx4, h⟩ := bind_some h
  refine VW.tlO (fun y6 => []) x4 (hCK3) ?_ ?_
  · clear hx4
    rintro y6 rfl
    dsimp only at h
    refine hK3 _ ?_
    -- region 8
    refine VW.ws tau_ok Sound.none [some 4] [(4, .val (.bool true))] rfl ?_ ?_
    · simp <;> simp [ieq, ilt, ile]
    cases h
    refine VW.ret ?_
    simp [Post, PostM, PostC, PostC2, Nx, Bk]
  refine VW.block ?_
  refine VW.loopF (s_l01Same2_L0 a0 a1) (fun s4 => [(0, .val (dM a0)), (1, .val (dM a1)), (5, .val (i64 s4))]) hx4 (Fits.of rfl) ?_
  clear hx4
  intro s4 ox4 hx4o hx4b
  unfold s_l01Same2_L0 at hx4o
  refine VW.sqc fun K7 hK7 hCK7 => ?_
  -- region 4
  refine VW.ws tau_ok Sound.none [some 11, some 12, some 13, some 14] [(0, .val (dM a0)), (1, .val (dM a1)), (5, .val (i64 s4)), (14, .val (.bool (ilt s4 (a0.length : Int))))] rfl ?_ ?_
  · simp <;> simp [ieq, ilt, ile]
  refine VW.cond rfl (fun hb8 => ?_) (fun hb8 => ?_)
  rotate_left
  ·
    replace hb8 : ¬ (s4 < (a0.length : Int)) := by simpa [ieq, ilt, ile] using hb8
    rw [if_neg hb8] at hx4o
    refine VW.exit ?_
    cases hx4o
    have hq := hx4b _ rfl
    subst hq
    exact ⟨_, rfl, Fits.of rfl⟩
  replace hb8 : s4 < (a0.length : Int) := by simpa [ieq, ilt, ile] using hb8
  rw [if_pos hb8] at hx4o
  refine VW.skip ?_
  refine hK7 _ ?_
  refine VW.sqc fun K9 hK9 hCK9 => ?_
  refine VW.block ?_
  -- region 6
  obtain ⟨v10, hv10, hx4o⟩ := bind_some hx4o
  obtain ⟨hv10a, hv10b, hv10c, hv10d⟩ := idx_some hv10
  obtain ⟨v11, hv11, hx4o⟩ := bind_some hx4o
  obtain ⟨hv11a, hv11b, hv11c, hv11d⟩ := idx_some hv11
  obtain ⟨v12, hv12, hx4o⟩ := bind_some hx4o
  refine VW.wds tau_ok (Sound.none.add 25 (s_l01Same_ok hv12) rfl) try_mixed [some 17, some 18, some 19, some 20, some 21, some 22, some 23, some 24, some 25, some 26] [(0, .val (dM a0)), (1, .val (dM a1)), (5, .val (i64 s4)), (26, .val (.bool (!v12)))] 10 rfl (by kernel_rfl) (by rfl) ?_ ?_
  · simp [hv10a, hv10b, hv10c, hv10d, hv11a, hv11b, hv11c, hv11d] <;> simp [ieq, ilt, ile]
  refine VW.cond rfl (fun hb13 => ?_) (fun hb13 => ?_)
  rotate_left
  ·
    replace hb13 : ¬ (v12 = false) := by simpa [ieq, ilt, ile] using hb13
    rw [if_neg hb13] at hx4o
    refine VW.skip ?_
    refine hK9 _ ?_
    -- region 5
    refine VW.wr tau_ok Sound.none [some 15, some 16, some 5] [(0, .val (dM a0)), (1, .val (dM a1)), (5, .val (i64 (w64 (s4 + 1))))] rfl ?_ ?_
    · simp <;> simp [ieq, ilt, ile]
    cases hx4o
    exact ⟨_, rfl, Fits.of rfl⟩
  replace hb13 : v12 = false := by simpa [ieq, ilt, ile] using hb13
  rw [if_pos hb13] at hx4o
  -- region 7
  refine VW.ws tau_ok Sound.none [some 4] [(4, .val (.bool false))] rfl ?_ ?_
  · simp <;> simp [ieq, ilt, ile]
  cases hx4o
  have hq := hx4b _ rfl
  subst hq
  dsimp only at h
  cases h
  refine VW.ret ?_
  simp [Post, PostM, PostC, PostC2, Nx, Bk]
end Go.Vam
