import Derived.Test.YtbbkiinopmnapaaR3T
import Derived.Test.YtbbkiinopmnapaaFnD
import Derived.Test.YtbbkiinopmnapaaR3W1
import Derived.Test.YtbbkiinopmnapaaR3W3
import Derived.Test.YtbbkiinopmnapaaR3W4
import Derived.Test.YtbbkiinopmnapaaR3W6
import Derived.Test.YtbbkiinopmnapaaR3W9
import Derived.Test.YtbbkiinopmnapaaR3W11
namespace Go.Vam
open Go Go.RowKit Go.Proofs
set_option maxRecDepth 100000
set_option linter.unusedSimpArgs false
set_option linter.unusedVariables false

theorem i_field_dot_ok {a0 : Int} {a1 : List Int} {a2 : List Int} {r : Int} (h : i_field_dot a0 a1 a2 = some r) :
    VCall Try.prog 232 [i64 a0, dI a1, dI a2] [.sc (i64 r)] := by
  unfold i_field_dot at h
  refine VCall.enter Try.call232 Try.func232 rfl 29 Try.ntmps232 (by simp) [.tmp 6] rfl ?_
  show VW _ _ _ (mk [(0, .val (i64 a0)), (1, .val (dI a1)), (2, .val (dI a2))]) _
  -- region 0
  refine VW.ws tau_ok Sound.none [some 6] [(0, .val (i64 a0)), (1, .val (dI a1)), (2, .val (dI a2))] rfl ?_ ?_
  · simp <;> simp [ieq, ilt, ile]
  -- region 1
  refine VW.ws tau_ok Sound.none [some 7] [(0, .val (i64 a0)), (1, .val (dI a1)), (2, .val (dI a2)), (7, .val (i64 0))] rfl ?_ ?_
  · simp <;> simp [ieq, ilt, ile]
  refine VW.sqc fun K1 hK1 hCK1 => ?_
  -- region 2
  refine VW.ws tau_ok Sound.none [some 10, some 11, some 12] [(0, .val (i64 a0)), (2, .val (dI a2)), (7, .val (i64 0)), (10, .val (dI a1)), (11, .val (i64 (a1.length : Int))), (12, .val (i64 0))] rfl ?_ ?_
  · simp <;> simp [ieq, ilt, ile]
  obtain ⟨x2, hx2, h⟩ := bind_some h
  refine VW.tlE [(0, .val (i64 a0)), (7, .val (i64 x2))] (hCK1) ?_ ?_
  · clear hx2
    refine hK1 _ ?_
    -- region 7
    obtain ⟨v9, hv9, h⟩ := bind_some h
    refine VW.ws tau_ok (Sound.none.add 28 (i_field_num_ok hv9) rfl) [some 26, some 27, some 28, some 6] [(6, .val (i64 v9))] rfl ?_ ?_
    · simp <;> simp [ieq, ilt, ile]
    cases h
    refine VW.ret ?_
    simp [Post, PostM, PostC, PostC2, Nx, Bk]
  refine VW.block ?_
  refine VW.loopF (i_field_dot_L0 a1 a2) (fun s2 => [(0, .val (i64 a0)), (2, .val (dI a2)), (7, .val (i64 s2.1)), (10, .val (dI a1)), (11, .val (i64 (a1.length : Int))), (12, .val (i64 s2.2))]) hx2 (Fits.of rfl) ?_
  clear hx2
  intro s2 ox2 hx2o hx2b
  unfold i_field_dot_L0 at hx2o
  -- region 3
  refine VW.ws tau_ok Sound.none [some 13] [(0, .val (i64 a0)), (2, .val (dI a2)), (7, .val (i64 s2.1)), (10, .val (dI a1)), (11, .val (i64 (a1.length : Int))), (12, .val (i64 s2.2)), (13, .val (.bool (ilt s2.2 (a1.length : Int))))] rfl ?_ ?_
  · simp <;> simp [ieq, ilt, ile]
  refine VW.sqc fun K4 hK4 hCK4 => ?_
  refine VW.cond rfl (fun hb5 => ?_) (fun hb5 => ?_)
  rotate_left
  ·
    replace hb5 : ¬ (s2.2 < (a1.length : Int)) := by simpa [ieq, ilt, ile] using hb5
    rw [if_neg hb5] at hx2o
    refine VW.exit ?_
    cases hx2o
    have hq := hx2b _ rfl
    subst hq
    exact Fits.of rfl
  replace hb5 : s2.2 < (a1.length : Int) := by simpa [ieq, ilt, ile] using hb5
  rw [if_pos hb5] at hx2o
  refine VW.skip ?_
  refine hK4 _ ?_
  refine VW.sqc fun K6 hK6 hCK6 => ?_
  refine VW.block ?_
  -- region 4
  obtain ⟨v7, hv7, hx2o⟩ := bind_some hx2o
  obtain ⟨hv7a, hv7b, hv7c, hv7d⟩ := idx_some hv7
  refine VW.ws tau_ok Sound.none [some 14, some 15, some 16, some 8, some 9] [(0, .val (i64 a0)), (2, .val (dI a2)), (7, .val (i64 s2.1)), (8, .val (i64 s2.2)), (9, .val (i64 v7)), (10, .val (dI a1)), (11, .val (i64 (a1.length : Int))), (12, .val (i64 s2.2))] rfl ?_ ?_
  · simp [hv7a, hv7b, hv7c, hv7d] <;> simp [ieq, ilt, ile]
  -- region 5
  obtain ⟨v8, hv8, hx2o⟩ := bind_some hx2o
  obtain ⟨hv8a, hv8b, hv8c, hv8d⟩ := idx_some hv8
  refine VW.wr tau_ok Sound.none [some 17, some 18, some 19, some 20, some 21, some 22, some 23, some 24, some 7] [(0, .val (i64 a0)), (2, .val (dI a2)), (7, .val (i64 (w64 (s2.1 + (w64 (v7 * v8)))))), (10, .val (dI a1)), (11, .val (i64 (a1.length : Int))), (12, .val (i64 s2.2))] rfl ?_ ?_
  · simp [hv8a, hv8b, hv8c, hv8d] <;> simp [ieq, ilt, ile]
  refine hK6 _ ?_
  -- region 6
  refine VW.wr tau_ok Sound.none [some 25, some 12] [(0, .val (i64 a0)), (2, .val (dI a2)), (7, .val (i64 (w64 (s2.1 + (w64 (v7 * v8)))))), (10, .val (dI a1)), (11, .val (i64 (a1.length : Int))), (12, .val (i64 (w64 (s2.2 + 1))))] rfl ?_ ?_
  · simp <;> simp [ieq, ilt, ile]
  cases hx2o
  exact ⟨_, rfl, Fits.of rfl⟩

theorem i_Space_pair_ok {a0_0 : Int} {a0_1 : List Int} {a1 : List Int} {a2 : List Int} {r : Int} (h : i_Space_pair a0_0 a0_1 a1 a2 = some r) :
    VCall Try.prog 200 [.agg [i64 a0_0, dI a0_1], dI a1, dI a2] [.sc (i64 r)] := by
  unfold i_Space_pair at h
  refine VCall.enter Try.call200 Try.func200 rfl 14 Try.ntmps200 (by simp) [.tmp 6] rfl ?_
  show VW _ _ _ (mk [(0, .val (.agg [i64 a0_0, dI a0_1])), (1, .val (dI a1)), (2, .val (dI a2))]) _
  -- region 0
  refine VW.ws tau_ok Sound.none [some 3, some 6] [(1, .val (dI a1)), (2, .val (dI a2)), (3, .val (.ptr [i64 a0_0, dI a0_1]))] rfl ?_ ?_
  · simp <;> simp [ieq, ilt, ile]
  -- region 1
  obtain ⟨v1, hv1, h⟩ := bind_some h
  obtain ⟨v2, hv2, h⟩ := bind_some h
  obtain ⟨v3, hv3, h⟩ := bind_some h
  refine VW.wds tau_ok (((Sound.none.add 8 (i_Space_field_ok hv1) rfl).add 11 (i_Space_weighted_ok hv2) rfl).add 13 (i_field_dot_ok hv3) rfl) try_mixed [some 7, some 8, some 9, some 10, some 11, some 12, some 13, some 6] [(6, .val (i64 v3))] 8 rfl (by kernel_rfl) (by rfl) ?_ ?_
  · simp <;> simp [ieq, ilt, ile]
  cases h
  refine VW.ret ?_
  simp [Post, PostM, PostC, PostC2, Nx, Bk]

theorem i_isIsometry_ok {a0_0 : Int} {a0_1 : List Int} {a1_0 : Int} {a1_1 : List Int} {a2 : List (List Int)} {r : Bool} (h : i_isIsometry a0_0 a0_1 a1_0 a1_1 a2 = some r) :
    VCall Try.prog 128 [.agg [i64 a0_0, dI a0_1], .agg [i64 a1_0, dI a1_1], dM a2] [.sc (.bool r)] := by
  unfold i_isIsometry at h
  refine VCall.enter Try.call128 Try.func128 rfl 87 Try.ntmps128 (by simp) [.tmp 6] rfl ?_
  show VW _ _ _ (mk [(0, .val (.agg [i64 a0_0, dI a0_1])), (1, .val (.agg [i64 a1_0, dI a1_1])), (2, .val (dM a2))]) _
  -- region 0
  refine VW.ws tau_ok Sound.none [some 3, some 4, some 6] [(2, .val (dM a2)), (3, .val (.ptr [i64 a0_0, dI a0_1])), (4, .val (.ptr [i64 a1_0, dI a1_1]))] rfl ?_ ?_
  · simp <;> simp [ieq, ilt, ile]
  refine VW.sqc fun K1 hK1 hCK1 => ?_
  -- region 1
  obtain ⟨x16, hx16, h⟩ := bind_some h
  refine VW.cut [(2, .val (dM a2)), (3, .val (.ptr [i64 a0_0, dI a0_1])), (4, .val (.ptr [i64 a1_0, dI a1_1])), (54, .val (.bool x16))] ?_ fun hy => ?_
  rotate_left
  · clear h
    by_cases hp2 : ¬ a0_0 = a1_0
    · rw [if_pos hp2] at hx16
      have hp2b : ieq a0_0 a1_0 = false := by simpa [ieq, ilt, ile] using hp2
      have hp2s := hp2b
      try simp at hp2s
      cases hx16
      refine VW.wds tau_ok Sound.none try_mixed [some 13, some 14, some 15, some 16, some 17, some 18, some 19, some 20, some 21, some 22, some 23, some 24, some 25, some 26, some 27, some 28, some 29, some 30, some 31, some 32, some 33, some 34, some 35, some 36, some 37, some 38, some 39, some 40, some 41, some 42, some 43, some 44, some 45, some 46, some 47, some 48, some 49, some 50, some 51, some 52, some 53, some 54] _ 42 rfl (by kernel_rfl) (by rfl) ?_ hy
      simp [hp2b, hp2s] <;> simp [ieq, ilt, ile]
    · rw [if_neg hp2] at hx16
      have hp2b : ieq a0_0 a1_0 = true := by simpa [ieq, ilt, ile] using hp2
      have hp2s := hp2b
      try simp at hp2s
      obtain ⟨v3, hv3, hx16⟩ := bind_some hx16
      obtain ⟨v4, hv4, hx16⟩ := bind_some hx16
      by_cases hp5 : ¬ v3 = v4
      · rw [if_pos hp5] at hx16
        have hp5b : ieq v3 v4 = false := by simpa [ieq, ilt, ile] using hp5
        have hp5s := hp5b
        try simp at hp5s
        cases hx16
        refine VW.wds tau_ok ((Sound.none.add 20 (i_Space_dim_ok hv3) rfl).add 22 (i_Space_dim_ok hv4) rfl) try_mixed [some 13, some 14, some 15, some 16, some 17, some 18, some 19, some 20, some 21, some 22, some 23, some 24, some 25, some 26, some 27, some 28, some 29, some 30, some 31, some 32, some 33, some 34, some 35, some 36, some 37, some 38, some 39, some 40, some 41, some 42, some 43, some 44, some 45, some 46, some 47, some 48, some 49, some 50, some 51, some 52, some 53, some 54] _ 42 rfl (by kernel_rfl) (by rfl) ?_ hy
        simp [hp2b, hp2s, hp5b, hp5s] <;> simp [ieq, ilt, ile]
      · rw [if_neg hp5] at hx16
        have hp5b : ieq v3 v4 = true := by simpa [ieq, ilt, ile] using hp5
        have hp5s := hp5b
        try simp at hp5s
        obtain ⟨v6, hv6, hx16⟩ := bind_some hx16
        obtain ⟨v7, hv7, hx16⟩ := bind_some hx16
        by_cases hp8 : v7 = false
        · rw [if_pos hp8] at hx16
          have hp8b : v7 = false := by simpa [ieq, ilt, ile] using hp8
          have hp8s := hp8b
          try simp at hp8s
          cases hx16
          refine VW.wds tau_ok ((((Sound.none.add 20 (i_Space_dim_ok hv3) rfl).add 22 (i_Space_dim_ok hv4) rfl).add 27 (i_Space_field_ok hv6) rfl).add 29 (i_field_isMatrix_ok hv7) rfl) try_mixed [some 13, some 14, some 15, some 16, some 17, some 18, some 19, some 20, some 21, some 22, some 23, some 24, some 25, some 26, some 27, some 28, some 29, some 30, some 31, some 32, some 33, some 34, some 35, some 36, some 37, some 38, some 39, some 40, some 41, some 42, some 43, some 44, some 45, some 46, some 47, some 48, some 49, some 50, some 51, some 52, some 53, some 54] _ 42 rfl (by kernel_rfl) (by rfl) ?_ hy
          simp [hp2b, hp2s, hp5b, hp5s, hp8b, hp8s] <;> simp [ieq, ilt, ile]
        · rw [if_neg hp8] at hx16
          have hp8b : v7 = true := by simpa [ieq, ilt, ile] using hp8
          have hp8s := hp8b
          try simp at hp8s
          obtain ⟨v9, hv9, hx16⟩ := bind_some hx16
          by_cases hp10 : ¬ (a2.length : Int) = v9
          · rw [if_pos hp10] at hx16
            have hp10b : ieq (a2.length : Int) v9 = false := by simpa [ieq, ilt, ile] using hp10
            have hp10s := hp10b
            try simp at hp10s
            cases hx16
            refine VW.wds tau_ok (((((Sound.none.add 20 (i_Space_dim_ok hv3) rfl).add 22 (i_Space_dim_ok hv4) rfl).add 27 (i_Space_field_ok hv6) rfl).add 29 (i_field_isMatrix_ok hv7) rfl).add 36 (i_Space_dim_ok hv9) rfl) try_mixed [some 13, some 14, some 15, some 16, some 17, some 18, some 19, some 20, some 21, some 22, some 23, some 24, some 25, some 26, some 27, some 28, some 29, some 30, some 31, some 32, some 33, some 34, some 35, some 36, some 37, some 38, some 39, some 40, some 41, some 42, some 43, some 44, some 45, some 46, some 47, some 48, some 49, some 50, some 51, some 52, some 53, some 54] _ 42 rfl (by kernel_rfl) (by rfl) ?_ hy
            simp [hp2b, hp2s, hp5b, hp5s, hp8b, hp8s, hp10b, hp10s] <;> simp [ieq, ilt, ile]
          · rw [if_neg hp10] at hx16
            have hp10b : ieq (a2.length : Int) v9 = true := by simpa [ieq, ilt, ile] using hp10
            have hp10s := hp10b
            try simp at hp10s
            obtain ⟨v11, hv11, hx16⟩ := bind_some hx16
            obtain ⟨hv11a, hv11b, hv11c, hv11d⟩ := idx_some hv11
            replace hv11b : 0 < a2.length := hv11b
            replace hv11c : a2[0]? = some v11 := hv11c
            replace hv11d : ∀ h, a2[0]'h = v11 := hv11d
            obtain ⟨v12, hv12, hx16⟩ := bind_some hx16
            by_cases hp13 : ¬ (v11.length : Int) = v12
            · rw [if_pos hp13] at hx16
              have hp13b : ieq (v11.length : Int) v12 = false := by simpa [ieq, ilt, ile] using hp13
              have hp13s := hp13b
              try simp at hp13s
              cases hx16
              refine VW.wds tau_ok ((((((Sound.none.add 20 (i_Space_dim_ok hv3) rfl).add 22 (i_Space_dim_ok hv4) rfl).add 27 (i_Space_field_ok hv6) rfl).add 29 (i_field_isMatrix_ok hv7) rfl).add 36 (i_Space_dim_ok hv9) rfl).add 45 (i_Space_dim_ok hv12) rfl) try_mixed [some 13, some 14, some 15, some 16, some 17, some 18, some 19, some 20, some 21, some 22, some 23, some 24, some 25, some 26, some 27, some 28, some 29, some 30, some 31, some 32, some 33, some 34, some 35, some 36, some 37, some 38, some 39, some 40, some 41, some 42, some 43, some 44, some 45, some 46, some 47, some 48, some 49, some 50, some 51, some 52, some 53, some 54] _ 42 rfl (by kernel_rfl) (by rfl) ?_ hy
              simp [hp2b, hp2s, hp5b, hp5s, hp8b, hp8s, hp10b, hp10s, hv11a, hv11b, hv11c, hv11d, hp13b, hp13s] <;> simp [ieq, ilt, ile]
            · rw [if_neg hp13] at hx16
              have hp13b : ieq (v11.length : Int) v12 = true := by simpa [ieq, ilt, ile] using hp13
              have hp13s := hp13b
              try simp at hp13s
              obtain ⟨v14, hv14, hx16⟩ := bind_some hx16
              obtain ⟨v15, hv15, hx16⟩ := bind_some hx16
              cases hx16
              refine VW.wds tau_ok ((((((((Sound.none.add 20 (i_Space_dim_ok hv3) rfl).add 22 (i_Space_dim_ok hv4) rfl).add 27 (i_Space_field_ok hv6) rfl).add 29 (i_field_isMatrix_ok hv7) rfl).add 36 (i_Space_dim_ok hv9) rfl).add 45 (i_Space_dim_ok hv12) rfl).add 50 (i_Space_field_ok hv14) rfl).add 52 (i_field_determinant_ok hv15) rfl) try_mixed [some 13, some 14, some 15, some 16, some 17, some 18, some 19, some 20, some 21, some 22, some 23, some 24, some 25, some 26, some 27, some 28, some 29, some 30, some 31, some 32, some 33, some 34, some 35, some 36, some 37, some 38, some 39, some 40, some 41, some 42, some 43, some 44, some 45, some 46, some 47, some 48, some 49, some 50, some 51, some 52, some 53, some 54] _ 42 rfl (by kernel_rfl) (by rfl) ?_ hy
              simp [hp2b, hp2s, hp5b, hp5s, hp8b, hp8s, hp10b, hp10s, hv11a, hv11b, hv11c, hv11d, hp13b, hp13s] <;> simp [ieq, ilt, ile]
  refine VW.cond rfl (fun hb17 => ?_) (fun hb17 => ?_)
  ·
    replace hb17 : x16 = true := by simpa [ieq, ilt, ile] using hb17
    rw [if_pos hb17] at h
    -- region 2
    refine VW.ws tau_ok Sound.none [some 6] [(6, .val (.bool false))] rfl ?_ ?_
    · simp <;> simp [ieq, ilt, ile]
    cases h
    refine VW.ret ?_
    simp [Post, PostM, PostC, PostC2, Nx, Bk]
  replace hb17 : ¬ (x16 = true) := by simpa [ieq, ilt, ile] using hb17
  rw [if_neg hb17] at h
  refine VW.skip ?_
  refine hK1 _ ?_
  -- region 3
  obtain ⟨v18, hv18, h⟩ := bind_some h
  refine VW.ws tau_ok (Sound.none.add 56 (i_transpose_ok hv18) rfl) [some 55, some 56, some 7] [(3, .val (.ptr [i64 a0_0, dI a0_1])), (4, .val (.ptr [i64 a1_0, dI a1_1])), (7, .ref 7 [] true (dM v18))] rfl ?_ ?_
  · simp <;> simp [ieq, ilt, ile]
  refine VW.sqc fun K19 hK19 hCK19 => ?_
  -- region 4
  refine VW.ws tau_ok Sound.none [some 57, some 58, some 59] [(3, .val (.ptr [i64 a0_0, dI a0_1])), (4, .val (.ptr [i64 a1_0, dI a1_1])), (7, .ref 7 [] true (dM v18)), (57, .ref 7 [] true (dM v18)), (58, .val (i64 (v18.length : Int))), (59, .val (i64 0))] rfl ?_ ?_
  · simp <;> simp [ieq, ilt, ile]
  obtain ⟨x20, hx20, h⟩ := bind_some h
  refine VW.tlO (fun y22 => []) x20 (hCK19) ?_ ?_
  · clear hx20
    rintro y22 rfl
    dsimp only at h
    refine hK19 _ ?_
    -- region 17
    refine VW.ws tau_ok Sound.none [some 6] [(6, .val (.bool true))] rfl ?_ ?_
    · simp <;> simp [ieq, ilt, ile]
    cases h
    refine VW.ret ?_
    simp [Post, PostM, PostC, PostC2, Nx, Bk]
  refine VW.block ?_
  refine VW.loopF (i_isIsometry_L0 a0_1 a1_0 a1_1 v18) (fun s20 => [(3, .val (.ptr [i64 a0_0, dI a0_1])), (4, .val (.ptr [i64 a1_0, dI a1_1])), (7, .ref 7 [] true (dM v18)), (57, .ref 7 [] true (dM v18)), (58, .val (i64 (v18.length : Int))), (59, .val (i64 s20))]) hx20 (Fits.of rfl) ?_
  clear hx20
  intro s20 ox20 hx20o hx20b
  unfold i_isIsometry_L0 at hx20o
  -- region 5
  refine VW.ws tau_ok Sound.none [some 60] [(3, .val (.ptr [i64 a0_0, dI a0_1])), (4, .val (.ptr [i64 a1_0, dI a1_1])), (7, .ref 7 [] true (dM v18)), (57, .ref 7 [] true (dM v18)), (58, .val (i64 (v18.length : Int))), (59, .val (i64 s20)), (60, .val (.bool (ilt s20 (v18.length : Int))))] rfl ?_ ?_
  · simp <;> simp [ieq, ilt, ile]
  refine VW.sqc fun K23 hK23 hCK23 => ?_
  refine VW.cond rfl (fun hb24 => ?_) (fun hb24 => ?_)
  rotate_left
  ·
    replace hb24 : ¬ (s20 < (v18.length : Int)) := by simpa [ieq, ilt, ile] using hb24
    rw [if_neg hb24] at hx20o
    refine VW.exit ?_
    cases hx20o
    have hq := hx20b _ rfl
    subst hq
    exact ⟨_, rfl, Fits.of rfl⟩
  replace hb24 : s20 < (v18.length : Int) := by simpa [ieq, ilt, ile] using hb24
  rw [if_pos hb24] at hx20o
  refine VW.skip ?_
  refine hK23 _ ?_
  refine VW.sqc fun K25 hK25 hCK25 => ?_
  refine VW.block ?_
  -- region 6
  obtain ⟨v26, hv26, hx20o⟩ := bind_some hx20o
  obtain ⟨hv26a, hv26b, hv26c, hv26d⟩ := idx_some hv26
  refine VW.ws tau_ok Sound.none [some 61, some 62, some 63, some 8, some 9] [(3, .val (.ptr [i64 a0_0, dI a0_1])), (4, .val (.ptr [i64 a1_0, dI a1_1])), (7, .ref 7 [] true (dM v18)), (8, .val (i64 s20)), (9, .ref 7 [s20.toNat] true (dI v26)), (57, .ref 7 [] true (dM v18)), (58, .val (i64 (v18.length : Int))), (59, .val (i64 s20))] rfl ?_ ?_
  · simp [hv26a, hv26b, hv26c, hv26d] <;> simp [ieq, ilt, ile]
  -- region 7
  refine VW.ws tau_ok Sound.none [some 64, some 65, some 66] [(3, .val (.ptr [i64 a0_0, dI a0_1])), (4, .val (.ptr [i64 a1_0, dI a1_1])), (7, .ref 7 [] true (dM v18)), (8, .val (i64 s20)), (9, .ref 7 [s20.toNat] true (dI v26)), (57, .ref 7 [] true (dM v18)), (58, .val (i64 (v18.length : Int))), (59, .val (i64 s20)), (64, .ref 7 [] true (dM v18)), (65, .val (i64 (v18.length : Int))), (66, .val (i64 0))] rfl ?_ ?_
  · simp <;> simp [ieq, ilt, ile]
  obtain ⟨x27, hx27, hx20o⟩ := bind_some hx20o
  refine VW.tlO (fun y29 => [(3, .val (.ptr [i64 a0_0, dI a0_1])), (4, .val (.ptr [i64 a1_0, dI a1_1])), (7, .ref 7 [] true (dM v18)), (57, .ref 7 [] true (dM v18)), (58, .val (i64 (v18.length : Int))), (59, .val (i64 s20))]) x27 (hCK25) ?_ ?_
  · clear hx27
    rintro y29 rfl
    dsimp only at hx20o
    refine hK25 _ ?_
    -- region 16
    refine VW.wr tau_ok Sound.none [some 86, some 59] [(3, .val (.ptr [i64 a0_0, dI a0_1])), (4, .val (.ptr [i64 a1_0, dI a1_1])), (7, .ref 7 [] true (dM v18)), (57, .ref 7 [] true (dM v18)), (58, .val (i64 (v18.length : Int))), (59, .val (i64 (w64 (s20 + 1))))] rfl ?_ ?_
    · simp <;> simp [ieq, ilt, ile]
    cases hx20o
    exact ⟨_, rfl, Fits.of rfl⟩
  refine VW.block ?_
  refine VW.loopF (i_isIsometry_L1 a0_1 a1_0 a1_1 v18 s20 v26) (fun s27 => [(3, .val (.ptr [i64 a0_0, dI a0_1])), (4, .val (.ptr [i64 a1_0, dI a1_1])), (7, .ref 7 [] true (dM v18)), (8, .val (i64 s20)), (9, .ref 7 [s20.toNat] true (dI v26)), (57, .ref 7 [] true (dM v18)), (58, .val (i64 (v18.length : Int))), (59, .val (i64 s20)), (64, .ref 7 [] true (dM v18)), (65, .val (i64 (v18.length : Int))), (66, .val (i64 s27))]) hx27 (Fits.of rfl) ?_
  clear hx27
  intro s27 ox27 hx27o hx27b
  unfold i_isIsometry_L1 at hx27o
  -- region 8
  refine VW.ws tau_ok Sound.none [some 67] [(3, .val (.ptr [i64 a0_0, dI a0_1])), (4, .val (.ptr [i64 a1_0, dI a1_1])), (7, .ref 7 [] true (dM v18)), (8, .val (i64 s20)), (9, .ref 7 [s20.toNat] true (dI v26)), (57, .ref 7 [] true (dM v18)), (58, .val (i64 (v18.length : Int))), (59, .val (i64 s20)), (64, .ref 7 [] true (dM v18)), (65, .val (i64 (v18.length : Int))), (66, .val (i64 s27)), (67, .val (.bool (ilt s27 (v18.length : Int))))] rfl ?_ ?_
  · simp <;> simp [ieq, ilt, ile]
  refine VW.sqc fun K30 hK30 hCK30 => ?_
  refine VW.cond rfl (fun hb31 => ?_) (fun hb31 => ?_)
  rotate_left
  ·
    replace hb31 : ¬ (s27 < (v18.length : Int)) := by simpa [ieq, ilt, ile] using hb31
    rw [if_neg hb31] at hx27o
    refine VW.exit ?_
    cases hx27o
    have hq := hx27b _ rfl
    subst hq
    exact ⟨_, rfl, Fits.of rfl⟩
  replace hb31 : s27 < (v18.length : Int) := by simpa [ieq, ilt, ile] using hb31
  rw [if_pos hb31] at hx27o
  refine VW.skip ?_
  refine hK30 _ ?_
  refine VW.sqc fun K32 hK32 hCK32 => ?_
  refine VW.block ?_
  -- region 9
  obtain ⟨v33, hv33, hx27o⟩ := bind_some hx27o
  obtain ⟨hv33a, hv33b, hv33c, hv33d⟩ := idx_some hv33
  refine VW.ws tau_ok Sound.none [some 68, some 69, some 70, some 10, some 11] [(3, .val (.ptr [i64 a0_0, dI a0_1])), (4, .val (.ptr [i64 a1_0, dI a1_1])), (7, .ref 7 [] true (dM v18)), (8, .val (i64 s20)), (9, .ref 7 [s20.toNat] true (dI v26)), (10, .val (i64 s27)), (11, .ref 7 [s27.toNat] true (dI v33)), (57, .ref 7 [] true (dM v18)), (58, .val (i64 (v18.length : Int))), (59, .val (i64 s20)), (64, .ref 7 [] true (dM v18)), (65, .val (i64 (v18.length : Int))), (66, .val (i64 s27))] rfl ?_ ?_
  · simp [hv33a, hv33b, hv33c, hv33d] <;> simp [ieq, ilt, ile]
  -- region 10
  refine VW.ws tau_ok Sound.none [some 12] [(3, .val (.ptr [i64 a0_0, dI a0_1])), (4, .val (.ptr [i64 a1_0, dI a1_1])), (7, .ref 7 [] true (dM v18)), (8, .val (i64 s20)), (9, .ref 7 [s20.toNat] true (dI v26)), (10, .val (i64 s27)), (11, .ref 7 [s27.toNat] true (dI v33)), (12, .val (i64 0)), (57, .ref 7 [] true (dM v18)), (58, .val (i64 (v18.length : Int))), (59, .val (i64 s20)), (64, .ref 7 [] true (dM v18)), (65, .val (i64 (v18.length : Int))), (66, .val (i64 s27))] rfl ?_ ?_
  · simp <;> simp [ieq, ilt, ile]
  refine VW.sqc fun K34 hK34 hCK34 => ?_
  -- region 11
  refine VW.ws tau_ok Sound.none [some 71, some 72, some 73] [(3, .val (.ptr [i64 a0_0, dI a0_1])), (4, .val (.ptr [i64 a1_0, dI a1_1])), (7, .ref 7 [] true (dM v18)), (8, .val (i64 s20)), (9, .ref 7 [s20.toNat] true (dI v26)), (11, .ref 7 [s27.toNat] true (dI v33)), (12, .val (i64 0)), (57, .ref 7 [] true (dM v18)), (58, .val (i64 (v18.length : Int))), (59, .val (i64 s20)), (64, .ref 7 [] true (dM v18)), (65, .val (i64 (v18.length : Int))), (66, .val (i64 s27)), (73, .val (.bool (ieq s20 s27)))] rfl ?_ ?_
  · simp <;> simp [ieq, ilt, ile]
  obtain ⟨x35, hx35, hx27o⟩ := bind_some hx27o
  refine VW.tlE [(3, .val (.ptr [i64 a0_0, dI a0_1])), (4, .val (.ptr [i64 a1_0, dI a1_1])), (7, .ref 7 [] true (dM v18)), (8, .val (i64 s20)), (9, .ref 7 [s20.toNat] true (dI v26)), (11, .ref 7 [s27.toNat] true (dI v33)), (12, .val (i64 x35)), (57, .ref 7 [] true (dM v18)), (58, .val (i64 (v18.length : Int))), (59, .val (i64 s20)), (64, .ref 7 [] true (dM v18)), (65, .val (i64 (v18.length : Int))), (66, .val (i64 s27))] (hCK34) ?_ ?_
  · clear hx35
    refine hK34 _ ?_
    -- region 13
    obtain ⟨v39, hv39, hx27o⟩ := bind_some hx27o
    refine VW.ws tau_ok (Sound.none.add 82 (i_Space_pair_ok hv39) rfl) [some 79, some 80, some 81, some 82, some 83, some 84] [(3, .val (.ptr [i64 a0_0, dI a0_1])), (4, .val (.ptr [i64 a1_0, dI a1_1])), (7, .ref 7 [] true (dM v18)), (8, .val (i64 s20)), (9, .ref 7 [s20.toNat] true (dI v26)), (57, .ref 7 [] true (dM v18)), (58, .val (i64 (v18.length : Int))), (59, .val (i64 s20)), (64, .ref 7 [] true (dM v18)), (65, .val (i64 (v18.length : Int))), (66, .val (i64 s27)), (84, .val (.bool (!(ieq v39 x35))))] rfl ?_ ?_
    · simp <;> simp [ieq, ilt, ile]
    refine VW.cond rfl (fun hb40 => ?_) (fun hb40 => ?_)
    rotate_left
    ·
      replace hb40 : ¬ (¬ v39 = x35) := by simpa [ieq, ilt, ile] using hb40
      rw [if_neg hb40] at hx27o
      refine VW.skip ?_
      refine hK32 _ ?_
      -- region 15
      refine VW.wr tau_ok Sound.none [some 85, some 66] [(3, .val (.ptr [i64 a0_0, dI a0_1])), (4, .val (.ptr [i64 a1_0, dI a1_1])), (7, .ref 7 [] true (dM v18)), (8, .val (i64 s20)), (9, .ref 7 [s20.toNat] true (dI v26)), (57, .ref 7 [] true (dM v18)), (58, .val (i64 (v18.length : Int))), (59, .val (i64 s20)), (64, .ref 7 [] true (dM v18)), (65, .val (i64 (v18.length : Int))), (66, .val (i64 (w64 (s27 + 1))))] rfl ?_ ?_
      · simp <;> simp [ieq, ilt, ile]
      cases hx27o
      exact ⟨_, rfl, Fits.of rfl⟩
    replace hb40 : ¬ v39 = x35 := by simpa [ieq, ilt, ile] using hb40
    rw [if_pos hb40] at hx27o
    -- region 14
    refine VW.ws tau_ok Sound.none [some 6] [(6, .val (.bool false))] rfl ?_ ?_
    · simp <;> simp [ieq, ilt, ile]
    cases hx27o
    have hq := hx27b _ rfl
    subst hq
    dsimp only at hx20o
    cases hx20o
    have hq := hx20b _ rfl
    subst hq
    dsimp only at h
    cases h
    refine VW.ret ?_
    simp [Post, PostM, PostC, PostC2, Nx, Bk]
  refine VW.cond rfl (fun hb37 => ?_) (fun hb37 => ?_)
  rotate_left
  ·
    replace hb37 : ¬ (s20 = s27) := by simpa [ieq, ilt, ile] using hb37
    rw [if_neg hb37] at hx35
    refine VW.skip ?_
    cases hx35
    exact Fits.of rfl
  replace hb37 : s20 = s27 := by simpa [ieq, ilt, ile] using hb37
  rw [if_pos hb37] at hx35
  -- region 12
  obtain ⟨v38, hv38, hx35⟩ := bind_some hx35
  obtain ⟨hv38a, hv38b, hv38c, hv38d⟩ := idx_some hv38
  refine VW.wr tau_ok Sound.none [some 74, some 75, some 76, some 77, some 78, some 12] [(3, .val (.ptr [i64 a0_0, dI a0_1])), (4, .val (.ptr [i64 a1_0, dI a1_1])), (7, .ref 7 [] true (dM v18)), (8, .val (i64 s20)), (9, .ref 7 [s20.toNat] true (dI v26)), (11, .ref 7 [s27.toNat] true (dI v33)), (12, .val (i64 v38)), (57, .ref 7 [] true (dM v18)), (58, .val (i64 (v18.length : Int))), (59, .val (i64 s20)), (64, .ref 7 [] true (dM v18)), (65, .val (i64 (v18.length : Int))), (66, .val (i64 s27))] rfl ?_ ?_
  · simp [hv38a, hv38b, hv38c, hv38d] <;> simp [ieq, ilt, ile]
  cases hx35
  exact Fits.of rfl

theorem i_IsOrthogonal_ok {a0_0 : Int} {a0_1 : List Int} {a1 : List (List Int)} {r : Bool × Int} (h : i_IsOrthogonal a0_0 a0_1 a1 = some r) :
    VCall Try.prog 73 [.agg [i64 a0_0, dI a0_1], dM a1] [.sc (.bool r.1), .sc (i64 r.2)] := by
  unfold i_IsOrthogonal at h
  refine VCall.enter Try.call73 Try.func73 rfl 18 Try.ntmps73 (by simp) [.tmp 4, .tmp 5] rfl ?_
  show VW _ _ _ (mk [(0, .val (.agg [i64 a0_0, dI a0_1])), (1, .val (dM a1))]) _
  -- region 0
  refine VW.ws tau_ok Sound.none [some 2, some 4, some 5] [(1, .val (dM a1)), (2, .val (.ptr [i64 a0_0, dI a0_1]))] rfl ?_ ?_
  · simp <;> simp [ieq, ilt, ile]
  refine VW.sqc fun K1 hK1 hCK1 => ?_
  refine VW.block ?_
  -- region 1
  obtain ⟨v2, hv2, h⟩ := bind_some h
  refine VW.ws tau_ok (Sound.none.add 8 (i_IsSpace_ok hv2) rfl) [some 7, some 8, some 9, some 6] [(1, .val (dM a1)), (2, .val (.ptr [i64 a0_0, dI a0_1])), (6, .val (.bool (!v2)))] rfl ?_ ?_
  · simp <;> simp [ieq, ilt, ile]
  refine VW.cond rfl (fun hb3 => ?_) (fun hb3 => ?_)
  ·
    replace hb3 : v2 = false := by simpa [ieq, ilt, ile] using hb3
    rw [if_pos hb3] at h
    -- region 2
    refine VW.ws tau_ok Sound.none [some 4, some 5] [(4, .val (.bool false)), (5, .val (i64 1))] rfl ?_ ?_
    · simp <;> simp [ieq, ilt, ile]
    cases h
    refine VW.ret ?_
    simp [Post, PostM, PostC, PostC2, Nx, Bk]
  replace hb3 : ¬ (v2 = false) := by simpa [ieq, ilt, ile] using hb3
  rw [if_neg hb3] at h
  -- region 3
  obtain ⟨v4, hv4, h⟩ := bind_some h
  refine VW.ws tau_ok (Sound.none.add 12 (i_Space_regular_ok hv4) rfl) [some 11, some 12, some 13, some 10] [(1, .val (dM a1)), (2, .val (.ptr [i64 a0_0, dI a0_1])), (10, .val (.bool (!v4)))] rfl ?_ ?_
  · simp <;> simp [ieq, ilt, ile]
  refine VW.cond rfl (fun hb5 => ?_) (fun hb5 => ?_)
  ·
    replace hb5 : v4 = false := by simpa [ieq, ilt, ile] using hb5
    rw [if_pos hb5] at h
    -- region 4
    refine VW.ws tau_ok Sound.none [some 4, some 5] [(4, .val (.bool false)), (5, .val (i64 5))] rfl ?_ ?_
    · simp <;> simp [ieq, ilt, ile]
    cases h
    refine VW.ret ?_
    simp [Post, PostM, PostC, PostC2, Nx, Bk]
  replace hb5 : ¬ (v4 = false) := by simpa [ieq, ilt, ile] using hb5
  rw [if_neg hb5] at h
  refine VW.skip ?_
  refine hK1 _ ?_
  -- region 5
  obtain ⟨v6, hv6, h⟩ := bind_some h
  refine VW.ws tau_ok (Sound.none.add 17 (i_isIsometry_ok hv6) rfl) [some 14, some 15, some 16, some 17, some 4, some 5] [(4, .val (.bool v6)), (5, .val (i64 0))] rfl ?_ ?_
  · simp <;> simp [ieq, ilt, ile]
  cases h
  refine VW.ret ?_
  simp [Post, PostM, PostC, PostC2, Nx, Bk]

theorem l_eqSpace_ok {a0_0 : Int} {a0_1 : List Int} {a1_0 : Int} {a1_1 : List Int} {r : Bool} (h : l_eqSpace a0_0 a0_1 a1_0 a1_1 = some r) :
    VCall Try.prog 71 [.agg [i64 a0_0, dI a0_1], .agg [i64 a1_0, dI a1_1]] [.sc (.bool r)] := by
  unfold l_eqSpace at h
  refine VCall.enter Try.call71 Try.func71 rfl 16 Try.ntmps71 (by simp) [.tmp 4] rfl ?_
  show VW _ _ _ (mk [(0, .val (.agg [i64 a0_0, dI a0_1])), (1, .val (.agg [i64 a1_0, dI a1_1]))]) _
  -- region 0
  refine VW.ws tau_ok Sound.none [some 2, some 3, some 4] [(2, .val (.ptr [i64 a0_0, dI a0_1])), (3, .val (.ptr [i64 a1_0, dI a1_1]))] rfl ?_ ?_
  · simp <;> simp [ieq, ilt, ile]
  refine VW.sqc fun K1 hK1 hCK1 => ?_
  -- region 1
  refine VW.ws tau_ok Sound.none [some 5, some 6, some 7, some 8, some 9] [(2, .val (.ptr [i64 a0_0, dI a0_1])), (3, .val (.ptr [i64 a1_0, dI a1_1])), (9, .val (.bool (!(ieq a0_0 a1_0))))] rfl ?_ ?_
  · simp <;> simp [ieq, ilt, ile]
  refine VW.cond rfl (fun hb2 => ?_) (fun hb2 => ?_)
  ·
    replace hb2 : ¬ a0_0 = a1_0 := by simpa [ieq, ilt, ile] using hb2
    rw [if_pos hb2] at h
    -- region 2
    refine VW.ws tau_ok Sound.none [some 4] [(4, .val (.bool false))] rfl ?_ ?_
    · simp <;> simp [ieq, ilt, ile]
    cases h
    refine VW.ret ?_
    simp [Post, PostM, PostC, PostC2, Nx, Bk]
  replace hb2 : ¬ (¬ a0_0 = a1_0) := by simpa [ieq, ilt, ile] using hb2
  rw [if_neg hb2] at h
  refine VW.skip ?_
  refine hK1 _ ?_
  refine VW.sqc fun K3 hK3 hCK3 => ?_
  -- region 3
  obtain ⟨v4, hv4, h⟩ := bind_some h
  refine VW.ws tau_ok (Sound.none.add 14 (l_eqInt64S_ok hv4) rfl) [some 10, some 11, some 12, some 13, some 14, some 15] [(15, .val (.bool (!v4)))] rfl ?_ ?_
  · simp <;> simp [ieq, ilt, ile]
  refine VW.cond rfl (fun hb5 => ?_) (fun hb5 => ?_)
  ·
    replace hb5 : v4 = false := by simpa [ieq, ilt, ile] using hb5
    rw [if_pos hb5] at h
    -- region 4
    refine VW.ws tau_ok Sound.none [some 4] [(4, .val (.bool false))] rfl ?_ ?_
    · simp <;> simp [ieq, ilt, ile]
    cases h
    refine VW.ret ?_
    simp [Post, PostM, PostC, PostC2, Nx, Bk]
  replace hb5 : ¬ (v4 = false) := by simpa [ieq, ilt, ile] using hb5
  rw [if_neg hb5] at h
  refine VW.skip ?_
  refine hK3 _ ?_
  -- region 5
  refine VW.ws tau_ok Sound.none [some 4] [(4, .val (.bool true))] rfl ?_ ?_
  · simp <;> simp [ieq, ilt, ile]
  cases h
  refine VW.ret ?_
  simp [Post, PostM, PostC, PostC2, Nx, Bk]

theorem l_FnExactIsOrthogonal_ok {a0_0 : Int} {a0_1 : List Int} {a1 : List (List Int)} {r : Bool} (h : l_FnExactIsOrthogonal a0_0 a0_1 a1 = some r) :
    VCall Try.prog 12 [.agg [i64 a0_0, dI a0_1], dM a1] [.sc (.bool r)] := by
  unfold l_FnExactIsOrthogonal at h
  refine VCall.enter Try.call12 Try.func12 rfl 58 Try.ntmps12 (by simp) [.tmp 4] rfl ?_
  show VW _ _ _ (mk [(0, .val (.agg [i64 a0_0, dI a0_1])), (1, .val (dM a1))]) _
  -- region 0
  refine VW.ws tau_ok Sound.none [some 2, some 4] [(1, .val (dM a1)), (2, .val (.ptr [i64 a0_0, dI a0_1]))] rfl ?_ ?_
  · simp <;> simp [ieq, ilt, ile]
  -- region 1
  refine VW.ws tau_ok Sound.none [some 5] [(1, .val (dM a1)), (2, .val (.ptr [i64 a0_0, dI a0_1])), (5, .val (i64 1048576))] rfl ?_ ?_
  · simp <;> simp [ieq, ilt, ile]
  -- region 2
  obtain ⟨v1, hv1, h⟩ := bind_some h
  refine VW.ws tau_ok (Sound.none.add 14 (l_szSpace_ok hv1) rfl) [some 12, some 13, some 14, some 5] [(1, .val (dM a1)), (2, .val (.ptr [i64 a0_0, dI a0_1])), (5, .val (i64 v1))] rfl ?_ ?_
  · simp <;> simp [ieq, ilt, ile]
  refine VW.sqc fun K2 hK2 hCK2 => ?_
  -- region 3
  refine VW.ws tau_ok Sound.none [some 15, some 16] [(1, .val (dM a1)), (2, .val (.ptr [i64 a0_0, dI a0_1])), (5, .val (i64 v1)), (16, .val (.bool (ilt v1 0)))] rfl ?_ ?_
  · simp <;> simp [ieq, ilt, ile]
  refine VW.cond rfl (fun hb3 => ?_) (fun hb3 => ?_)
  ·
    replace hb3 : v1 < 0 := by simpa [ieq, ilt, ile] using hb3
    rw [if_pos hb3] at h
    -- region 4
    refine VW.ws tau_ok Sound.none [some 4] [(4, .val (.bool true))] rfl ?_ ?_
    · simp <;> simp [ieq, ilt, ile]
    cases h
    refine VW.ret ?_
    simp [Post, PostM, PostC, PostC2, Nx, Bk]
  replace hb3 : ¬ (v1 < 0) := by simpa [ieq, ilt, ile] using hb3
  rw [if_neg hb3] at h
  refine VW.skip ?_
  refine hK2 _ ?_
  -- region 5
  obtain ⟨v4, hv4, h⟩ := bind_some h
  refine VW.ws tau_ok (Sound.none.add 19 (l_szInt64SS_ok hv4) rfl) [some 17, some 18, some 19, some 5] [(1, .val (dM a1)), (2, .val (.ptr [i64 a0_0, dI a0_1])), (5, .val (i64 v4))] rfl ?_ ?_
  · simp <;> simp [ieq, ilt, ile]
  refine VW.sqc fun K5 hK5 hCK5 => ?_
  -- region 6
  refine VW.ws tau_ok Sound.none [some 20, some 21] [(1, .val (dM a1)), (2, .val (.ptr [i64 a0_0, dI a0_1])), (21, .val (.bool (ilt v4 0)))] rfl ?_ ?_
  · simp <;> simp [ieq, ilt, ile]
  refine VW.cond rfl (fun hb6 => ?_) (fun hb6 => ?_)
  ·
    replace hb6 : v4 < 0 := by simpa [ieq, ilt, ile] using hb6
    rw [if_pos hb6] at h
    -- region 7
    refine VW.ws tau_ok Sound.none [some 4] [(4, .val (.bool true))] rfl ?_ ?_
    · simp <;> simp [ieq, ilt, ile]
    cases h
    refine VW.ret ?_
    simp [Post, PostM, PostC, PostC2, Nx, Bk]
  replace hb6 : ¬ (v4 < 0) := by simpa [ieq, ilt, ile] using hb6
  rw [if_neg hb6] at h
  refine VW.skip ?_
  refine hK5 _ ?_
  -- region 8
  obtain ⟨v7, hv7, h⟩ := bind_some h
  obtain ⟨v8, hv8, h⟩ := bind_some h
  obtain ⟨v9, hv9, h⟩ := bind_some h
  refine VW.ws tau_ok (((Sound.none.add 24 (l_toSpace_ok hv7) rfl).add 26 (l_toInt64SS_ok hv8) rfl).add 27 (s_IsOrthogonal_ok hv9) rfl) [some 23, some 24, some 25, some 26, some 27, some 22, some 28, some 29, some 6, some 7] [(1, .val (dM a1)), (2, .val (.ptr [i64 a0_0, dI a0_1])), (6, .val (.bool v9.1)), (7, .val (i64 v9.2))] rfl ?_ ?_
  · simp <;> simp [ieq, ilt, ile]
  -- region 9
  obtain ⟨v10, hv10, h⟩ := bind_some h
  refine VW.ws tau_ok (Sound.none.add 31 (l_toSpace_ok hv10) rfl) [some 30, some 31, some 8, none] [(1, .val (dM a1)), (2, .val (.ptr [i64 a0_0, dI a0_1])), (6, .val (.bool v9.1)), (7, .val (i64 v9.2)), (8, .ref 8 [] true (.ptr [i64 v10.1, dI v10.2]))] rfl ?_ ?_
  · simp <;> simp [ieq, ilt, ile]
  -- region 10
  obtain ⟨v11, hv11, h⟩ := bind_some h
  refine VW.ws tau_ok (Sound.none.add 33 (l_toInt64SS_ok hv11) rfl) [some 32, some 33, some 9] [(1, .val (dM a1)), (2, .val (.ptr [i64 a0_0, dI a0_1])), (6, .val (.bool v9.1)), (7, .val (i64 v9.2)), (8, .ref 8 [] true (.ptr [i64 v10.1, dI v10.2])), (9, .ref 9 [] true (dM v11))] rfl ?_ ?_
  · simp <;> simp [ieq, ilt, ile]
  -- region 11
  obtain ⟨v12, hv12, h⟩ := bind_some h
  refine VW.ws tau_ok (Sound.none.add 37 (i_IsOrthogonal_ok hv12) rfl) [some 35, some 36, some 37, some 34, some 38, some 39, some 10, some 11] [(1, .val (dM a1)), (2, .val (.ptr [i64 a0_0, dI a0_1])), (6, .val (.bool v9.1)), (7, .val (i64 v9.2)), (8, .ref 8 [] true (.ptr [i64 v10.1, dI v10.2])), (9, .ref 9 [] true (dM v11)), (10, .val (.bool v12.1)), (11, .val (i64 v12.2))] rfl ?_ ?_
  · simp <;> simp [ieq, ilt, ile]
  refine VW.sqc fun K13 hK13 hCK13 => ?_
  -- region 12
  obtain ⟨x15, hx15, h⟩ := bind_some h
  refine VW.cut [(1, .val (dM a1)), (2, .val (.ptr [i64 a0_0, dI a0_1])), (8, .ref 8 [] true (.ptr [i64 v10.1, dI v10.2])), (9, .ref 9 [] true (dM v11)), (47, .val (.bool x15))] ?_ fun hy => ?_
  rotate_left
  · clear h
    by_cases hp14 : (v12.1 != v9.1) = true
    · rw [if_pos hp14] at hx15
      have hp14b : (v12.1 != v9.1) = true := by simpa [ieq, ilt, ile] using hp14
      have hp14s := hp14b
      try simp at hp14s
      cases hx15
      refine VW.ws tau_ok Sound.none [some 40, some 41, some 42, some 43, some 44, some 45, some 46, some 47] _ rfl ?_ hy
      simp [hp14b, hp14s] <;> simp [ieq, ilt, ile]
    · rw [if_neg hp14] at hx15
      have hp14b : (v12.1 != v9.1) = false := by simpa [ieq, ilt, ile] using hp14
      have hp14s := hp14b
      try simp at hp14s
      cases hx15
      refine VW.ws tau_ok Sound.none [some 40, some 41, some 42, some 43, some 44, some 45, some 46, some 47] _ rfl ?_ hy
      simp [hp14b, hp14s] <;> simp [ieq, ilt, ile]
  refine VW.cond rfl (fun hb16 => ?_) (fun hb16 => ?_)
  ·
    replace hb16 : x15 = true := by simpa [ieq, ilt, ile] using hb16
    rw [if_pos hb16] at h
    -- region 13
    refine VW.ws tau_ok Sound.none [some 4] [(4, .val (.bool false))] rfl ?_ ?_
    · simp <;> simp [ieq, ilt, ile]
    cases h
    refine VW.ret ?_
    simp [Post, PostM, PostC, PostC2, Nx, Bk]
  replace hb16 : ¬ (x15 = true) := by simpa [ieq, ilt, ile] using hb16
  rw [if_neg hb16] at h
  refine VW.skip ?_
  refine hK13 _ ?_
  refine VW.sqc fun K17 hK17 hCK17 => ?_
  -- region 14
  obtain ⟨v18, hv18, h⟩ := bind_some h
  obtain ⟨v19, hv19, h⟩ := bind_some h
  refine VW.wds tau_ok ((Sound.none.add 50 (l_toSpace_ok hv18) rfl).add 51 (l_eqSpace_ok hv19) rfl) try_mixed [some 48, some 49, some 50, some 51, some 52] [(1, .val (dM a1)), (9, .ref 9 [] true (dM v11)), (52, .val (.bool (!v19)))] 5 rfl (by kernel_rfl) (by rfl) ?_ ?_
  · simp <;> simp [ieq, ilt, ile]
  refine VW.cond rfl (fun hb20 => ?_) (fun hb20 => ?_)
  ·
    replace hb20 : v19 = false := by simpa [ieq, ilt, ile] using hb20
    rw [if_pos hb20] at h
    -- region 15
    refine VW.ws tau_ok Sound.none [some 4] [(4, .val (.bool false))] rfl ?_ ?_
    · simp <;> simp [ieq, ilt, ile]
    cases h
    refine VW.ret ?_
    simp [Post, PostM, PostC, PostC2, Nx, Bk]
  replace hb20 : ¬ (v19 = false) := by simpa [ieq, ilt, ile] using hb20
  rw [if_neg hb20] at h
  refine VW.skip ?_
  refine hK17 _ ?_
  refine VW.sqc fun K21 hK21 hCK21 => ?_
  -- region 16
  obtain ⟨v22, hv22, h⟩ := bind_some h
  obtain ⟨v23, hv23, h⟩ := bind_some h
  refine VW.ws tau_ok ((Sound.none.add 55 (l_toInt64SS_ok hv22) rfl).add 56 (l_eqInt64SS_ok hv23) rfl) [some 53, some 54, some 55, some 56, some 57] [(57, .val (.bool (!v23)))] rfl ?_ ?_
  · simp <;> simp [ieq, ilt, ile]
  refine VW.cond rfl (fun hb24 => ?_) (fun hb24 => ?_)
  ·
    replace hb24 : v23 = false := by simpa [ieq, ilt, ile] using hb24
    rw [if_pos hb24] at h
    -- region 17
    refine VW.ws tau_ok Sound.none [some 4] [(4, .val (.bool false))] rfl ?_ ?_
    · simp <;> simp [ieq, ilt, ile]
    cases h
    refine VW.ret ?_
    simp [Post, PostM, PostC, PostC2, Nx, Bk]
  replace hb24 : ¬ (v23 = false) := by simpa [ieq, ilt, ile] using hb24
  rw [if_neg hb24] at h
  refine VW.skip ?_
  refine hK21 _ ?_
  -- region 18
  refine VW.ws tau_ok Sound.none [some 4] [(4, .val (.bool true))] rfl ?_ ?_
  · simp <;> simp [ieq, ilt, ile]
  cases h
  refine VW.ret ?_
  simp [Post, PostM, PostC, PostC2, Nx, Bk]
end Go.Vam
