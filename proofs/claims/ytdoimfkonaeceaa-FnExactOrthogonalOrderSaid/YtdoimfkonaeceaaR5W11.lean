import Derived.Test.YtdoimfkonaeceaaR5T
import Derived.Test.YtdoimfkonaeceaaFnD
import Derived.Test.YtdoimfkonaeceaaR5W4
import Derived.Test.YtdoimfkonaeceaaR5W5
import Derived.Test.YtdoimfkonaeceaaR5W6
import Derived.Test.YtdoimfkonaeceaaR5W10
namespace Go.Vam
open Go Go.RowKit Go.Proofs
set_option maxRecDepth 100000
set_option linter.unusedSimpArgs false
set_option linter.unusedVariables false

theorem i_isIsometry_ok {a0_0 : Int} {a0_1 : List Int} {a1_0 : Int} {a1_1 : List Int} {a2 : List (List Int)} {r : Bool} (h : i_isIsometry a0_0 a0_1 a1_0 a1_1 a2 = some r) :
    VCall Try.prog 184 [.agg [i64 a0_0, dI a0_1], .agg [i64 a1_0, dI a1_1], dM a2] [.sc (.bool r)] := by
  unfold i_isIsometry at h
  refine VCall.enter Try.call184 Try.func184 rfl 87 Try.ntmps184 (by simp) [.tmp 6] rfl ?_
  show VW _ _ _ (mk [(0, .val (.agg [i64 a0_0, dI a0_1])), (1, .val (.agg [i64 a1_0, dI a1_1])), (2, .val (dM a2))]) _
  -- region 0
  refine VW.ws tau_ok Sound.none [some 3, some 4, some 6] [(2, .val (dM a2)), (3, .val (.ptr [i64 a0_0, dI a0_1])), (4, .val (.ptr [i64 a1_0, dI a1_1]))] rfl ?_ ?_
  · simp <;> simp [ieq, ilt, ile]
  refine VW.sqc fun K1 hK1 hCK1 => ?_
  -- region 1
  obtain ⟨x16, hx16, h⟩ := bind_some h
  refine VW.cut [(2, .val (dM a2)), (3, .val (.ptr [i64 a0_0, dI a0_1])), (4, .val (.ptr [i64 a1_0, dI a1_1])), (54, .val (.bool x16))] ?_ fun hy => ?_
  rotate_left
  · clear h
    by_cases hp2 : ¬ a0_0 = a1_0
    · rw [if_pos hp2] at hx16
      have hp2b : ieq a0_0 a1_0 = false := by simpa [ieq, ilt, ile] using hp2
      have hp2s := hp2b
      try simp at hp2s
      cases hx16
      refine VW.wds tau_ok Sound.none try_mixed [some 13, some 14, some 15, some 16, some 17, some 18, some 19, some 20, some 21, some 22, some 23, some 24, some 25, some 26, some 27, some 28, some 29, some 30, some 31, some 32, some 33, some 34, some 35, some 36, some 37, some 38, some 39, some 40, some 41, some 42, some 43, some 44, some 45, some 46, some 47, some 48, some 49, some 50, some 51, some 52, some 53, some 54] _ 42 rfl (by kernel_rfl) (by rfl) ?_ hy
      simp [hp2b, hp2s] <;> simp [ieq, ilt, ile]
    · rw [if_neg hp2] at hx16
      have hp2b : ieq a0_0 a1_0 = true := by simpa [ieq, ilt, ile] using hp2
      have hp2s := hp2b
      try simp at hp2s
      obtain ⟨v3, hv3, hx16⟩ := bind_some hx16
      obtain ⟨v4, hv4, hx16⟩ := bind_some hx16
      by_cases hp5 : ¬ v3 = v4
      · rw [if_pos hp5] at hx16
        have hp5b : ieq v3 v4 = false := by simpa [ieq, ilt, ile] using hp5
        have hp5s := hp5b
        try simp at hp5s
        cases hx16
        refine VW.wds tau_ok ((Sound.none.add 20 (i_Space_dim_ok hv3) rfl).add 22 (i_Space_dim_ok hv4) rfl) try_mixed [some 13, some 14, some 15, some 16, some 17, some 18, some 19, some 20, some 21, some 22, some 23, some 24, some 25, some 26, some 27, some 28, some 29, some 30, some 31, some 32, some 33, some 34, some 35, some 36, some 37, some 38, some 39, some 40, some 41, some 42, some 43, some 44, some 45, some 46, some 47, some 48, some 49, some 50, some 51, some 52, some 53, some 54] _ 42 rfl (by kernel_rfl) (by rfl) ?_ hy
        simp [hp2b, hp2s, hp5b, hp5s] <;> simp [ieq, ilt, ile]
      · rw [if_neg hp5] at hx16
        have hp5b : ieq v3 v4 = true := by simpa [ieq, ilt, ile] using hp5
        have hp5s := hp5b
        try simp at hp5s
        obtain ⟨v6, hv6, hx16⟩ := bind_some hx16
        obtain ⟨v7, hv7, hx16⟩ := bind_some hx16
        by_cases hp8 : v7 = false
        · rw [if_pos hp8] at hx16
          have hp8b : v7 = false := by simpa [ieq, ilt, ile] using hp8
          have hp8s := hp8b
          try simp at hp8s
          cases hx16
          refine VW.wds tau_ok ((((Sound.none.add 20 (i_Space_dim_ok hv3) rfl).add 22 (i_Space_dim_ok hv4) rfl).add 27 (i_Space_field_ok hv6) rfl).add 29 (i_field_isMatrix_ok hv7) rfl) try_mixed [some 13, some 14, some 15, some 16, some 17, some 18, some 19, some 20, some 21, some 22, some 23, some 24, some 25, some 26, some 27, some 28, some 29, some 30, some 31, some 32, some 33, some 34, some 35, some 36, some 37, some 38, some 39, some 40, some 41, some 42, some 43, some 44, some 45, some 46, some 47, some 48, some 49, some 50, some 51, some 52, some 53, some 54] _ 42 rfl (by kernel_rfl) (by rfl) ?_ hy
          simp [hp2b, hp2s, hp5b, hp5s, hp8b, hp8s] <;> simp [ieq, ilt, ile]
        · rw [if_neg hp8] at hx16
          have hp8b : v7 = true := by simpa [ieq, ilt, ile] using hp8
          have hp8s := hp8b
          try simp at hp8s
          obtain ⟨v9, hv9, hx16⟩ := bind_some hx16
          by_cases hp10 : ¬ (a2.length : Int) = v9
          · rw [if_pos hp10] at hx16
            have hp10b : ieq (a2.length : Int) v9 = false := by simpa [ieq, ilt, ile] using hp10
            have hp10s := hp10b
            try simp at hp10s
            cases hx16
            refine VW.wds tau_ok (((((Sound.none.add 20 (i_Space_dim_ok hv3) rfl).add 22 (i_Space_dim_ok hv4) rfl).add 27 (i_Space_field_ok hv6) rfl).add 29 (i_field_isMatrix_ok hv7) rfl).add 36 (i_Space_dim_ok hv9) rfl) try_mixed [some 13, some 14, some 15, some 16, some 17, some 18, some 19, some 20, some 21, some 22, some 23, some 24, some 25, some 26, some 27, some 28, some 29, some 30, some 31, some 32, some 33, some 34, some 35, some 36, some 37, some 38, some 39, some 40, some 41, some 42, some 43, some 44, some 45, some 46, some 47, some 48, some 49, some 50, some 51, some 52, some 53, some 54] _ 42 rfl (by kernel_rfl) (by rfl) ?_ hy
            simp [hp2b, hp2s, hp5b, hp5s, hp8b, hp8s, hp10b, hp10s] <;> simp [ieq, ilt, ile]
          · rw [if_neg hp10] at hx16
            have hp10b : ieq (a2.length : Int) v9 = true := by simpa [ieq, ilt, ile] using hp10
            have hp10s := hp10b
            try simp at hp10s
            obtain ⟨v11, hv11, hx16⟩ := bind_some hx16
            obtain ⟨hv11a, hv11b, hv11c, hv11d⟩ := idx_some hv11
            replace hv11b : 0 < a2.length := hv11b
            replace hv11c : a2[0]? = some v11 := hv11c
            replace hv11d : ∀ h, a2[0]'h = v11 := hv11d
            obtain ⟨v12, hv12, hx16⟩ := bind_some hx16
            by_cases hp13 : ¬ (v11.length : Int) = v12
            · rw [if_pos hp13] at hx16
              have hp13b : ieq (v11.length : Int) v12 = false := by simpa [ieq, ilt, ile] using hp13
              have hp13s := hp13b
              try simp at hp13s
              cases hx16
              refine VW.wds tau_ok ((((((Sound.none.add 20 (i_Space_dim_ok hv3) rfl).add 22 (i_Space_dim_ok hv4) rfl).add 27 (i_Space_field_ok hv6) rfl).add 29 (i_field_isMatrix_ok hv7) rfl).add 36 (i_Space_dim_ok hv9) rfl).add 45 (i_Space_dim_ok hv12) rfl) try_mixed [some 13, some 14, some 15, some 16, some 17, some 18, some 19, some 20, some 21, some 22, some 23, some 24, some 25, some 26, some 27, some 28, some 29, some 30, some 31, some 32, some 33, some 34, some 35, some 36, some 37, some 38, some 39, some 40, some 41, some 42, some 43, some 44, some 45, some 46, some 47, some 48, some 49, some 50, some 51, some 52, some 53, some 54] _ 42 rfl (by kernel_rfl) (by rfl) ?_ hy
              simp [hp2b, hp2s, hp5b, hp5s, hp8b, hp8s, hp10b, hp10s, hv11a, hv11b, hv11c, hv11d, hp13b, hp13s] <;> simp [ieq, ilt, ile]
            · rw [if_neg hp13] at hx16
              have hp13b : ieq (v11.length : Int) v12 = true := by simpa [ieq, ilt, ile] using hp13
              have hp13s := hp13b
              try simp at hp13s
              obtain ⟨v14, hv14, hx16⟩ := bind_some hx16
              obtain ⟨v15, hv15, hx16⟩ := bind_some hx16
              cases hx16
              refine VW.wds tau_ok ((((((((Sound.none.add 20 (i_Space_dim_ok hv3) rfl).add 22 (i_Space_dim_ok hv4) rfl).add 27 (i_Space_field_ok hv6) rfl).add 29 (i_field_isMatrix_ok hv7) rfl).add 36 (i_Space_dim_ok hv9) rfl).add 45 (i_Space_dim_ok hv12) rfl).add 50 (i_Space_field_ok hv14) rfl).add 52 (i_field_determinant_ok hv15) rfl) try_mixed [some 13, some 14, some 15, some 16, some 17, some 18, some 19, some 20, some 21, some 22, some 23, some 24, some 25, some 26, some 27, some 28, some 29, some 30, some 31, some 32, some 33, some 34, some 35, some 36, some 37, some 38, some 39, some 40, some 41, some 42, some 43, some 44, some 45, some 46, some 47, some 48, some 49, some 50, some 51, some 52, some 53, some 54] _ 42 rfl (by kernel_rfl) (by rfl) ?_ hy
              simp [hp2b, hp2s, hp5b, hp5s, hp8b, hp8s, hp10b, hp10s, hv11a, hv11b, hv11c, hv11d, hp13b, hp13s] <;> simp [ieq, ilt, ile]
  refine VW.cond rfl (fun hb17 => ?_) (fun hb17 => ?_)
  ·
    replace hb17 : x16 = true := by simpa [ieq, ilt, ile] using hb17
    rw [if_pos hb17] at h
    -- region 2
    refine VW.ws tau_ok Sound.none [some 6] [(6, .val (.bool false))] rfl ?_ ?_
    · simp <;> simp [ieq, ilt, ile]
    cases h
    refine VW.ret ?_
    simp [Post, PostM, PostC, PostC2, Nx, Bk]
  replace hb17 : ¬ (x16 = true) := by simpa [ieq, ilt, ile] using hb17
  rw [if_neg hb17] at h
  refine VW.skip ?_
  refine hK1 _ ?_
  -- region 3
  obtain ⟨v18, hv18, h⟩ := bind_some h
  refine VW.ws tau_ok (Sound.none.add 56 (i_transpose_ok hv18) rfl) [some 55, some 56, some 7] [(3, .val (.ptr [i64 a0_0, dI a0_1])), (4, .val (.ptr [i64 a1_0, dI a1_1])), (7, .ref 7 [] true (dM v18))] rfl ?_ ?_
  · simp <;> simp [ieq, ilt, ile]
  refine VW.sqc fun K19 hK19 hCK19 => ?_
  -- region 4
  refine VW.ws tau_ok Sound.none [some 57, some 58, some 59] [(3, .val (.ptr [i64 a0_0, dI a0_1])), (4, .val (.ptr [i64 a1_0, dI a1_1])), (7, .ref 7 [] true (dM v18)), (57, .ref 7 [] true (dM v18)), (58, .val (i64 (v18.length : Int))), (59, .val (i64 0))] rfl ?_ ?_
  · simp <;> simp [ieq, ilt, ile]
  obtain ⟨x20, hx20, h⟩ := bind_some h
  refine VW.tlO (fun y22 => []) x20 (hCK19) ?_ ?_
  · clear hx20
    rintro y22 rfl
    dsimp only at h
    refine hK19 _ ?_
    -- region 17
    refine VW.ws tau_ok Sound.none [some 6] [(6, .val (.bool true))] rfl ?_ ?_
    · simp <;> simp [ieq, ilt, ile]
    cases h
    refine VW.ret ?_
    simp [Post, PostM, PostC, PostC2, Nx, Bk]
  refine VW.block ?_
  refine VW.loopF (i_isIsometry_L0 a0_1 a1_0 a1_1 v18) (fun s20 => [(3, .val (.ptr [i64 a0_0, dI a0_1])), (4, .val (.ptr [i64 a1_0, dI a1_1])), (7, .ref 7 [] true (dM v18)), (57, .ref 7 [] true (dM v18)), (58, .val (i64 (v18.length : Int))), (59, .val (i64 s20))]) hx20 (Fits.of rfl) ?_
  clear hx20
  intro s20 ox20 hx20o hx20b
  unfold i_isIsometry_L0 at hx20o
  -- region 5
  refine VW.ws tau_ok Sound.none [some 60] [(3, .val (.ptr [i64 a0_0, dI a0_1])), (4, .val (.ptr [i64 a1_0, dI a1_1])), (7, .ref 7 [] true (dM v18)), (57, .ref 7 [] true (dM v18)), (58, .val (i64 (v18.length : Int))), (59, .val (i64 s20)), (60, .val (.bool (ilt s20 (v18.length : Int))))] rfl ?_ ?_
  · simp <;> simp [ieq, ilt, ile]
  refine VW.sqc fun K23 hK23 hCK23 => ?_
  refine VW.cond rfl (fun hb24 => ?_) (fun hb24 => ?_)
  rotate_left
  ·
    replace hb24 : ¬ (s20 < (v18.length : Int)) := by simpa [ieq, ilt, ile] using hb24
    rw [if_neg hb24] at hx20o
    refine VW.exit ?_
    cases hx20o
    have hq := hx20b _ rfl
    subst hq
    exact ⟨_, rfl, Fits.of rfl⟩
  replace hb24 : s20 < (v18.length : Int) := by simpa [ieq, ilt, ile] using hb24
  rw [if_pos hb24] at hx20o
  refine VW.skip ?_
  refine hK23 _ ?_
  refine VW.sqc fun K25 hK25 hCK25 => ?_
  refine VW.block ?_
  -- region 6
  obtain ⟨v26, hv26, hx20o⟩ := bind_some hx20o
  obtain ⟨hv26a, hv26b, hv26c, hv26d⟩ := idx_some hv26
  refine VW.ws tau_ok Sound.none [some 61, some 62, some 63, some 8, some 9] [(3, .val (.ptr [i64 a0_0, dI a0_1])), (4, .val (.ptr [i64 a1_0, dI a1_1])), (7, .ref 7 [] true (dM v18)), (8, .val (i64 s20)), (9, .ref 7 [s20.toNat] true (dI v26)), (57, .ref 7 [] true (dM v18)), (58, .val (i64 (v18.length : Int))), (59, .val (i64 s20))] rfl ?_ ?_
  · simp [hv26a, hv26b, hv26c, hv26d] <;> simp [ieq, ilt, ile]
  -- region 7
  refine VW.ws tau_ok Sound.none [some 64, some 65, some 66] [(3, .val (.ptr [i64 a0_0, dI a0_1])), (4, .val (.ptr [i64 a1_0, dI a1_1])), (7, .ref 7 [] true (dM v18)), (8, .val (i64 s20)), (9, .ref 7 [s20.toNat] true (dI v26)), (57, .ref 7 [] true (dM v18)), (58, .val (i64 (v18.length : Int))), (59, .val (i64 s20)), (64, .ref 7 [] true (dM v18)), (65, .val (i64 (v18.length : Int))), (66, .val (i64 0))] rfl ?_ ?_
  · simp <;> simp [ieq, ilt, ile]
  obtain ⟨x27, hx27, hx20o⟩ := bind_some hx20o
  refine VW.tlO (fun y29 => [(3, .val (.ptr [i64 a0_0, dI a0_1])), (4, .val (.ptr [i64 a1_0, dI a1_1])), (7, .ref 7 [] true (dM v18)), (57, .ref 7 [] true (dM v18)), (58, .val (i64 (v18.length : Int))), (59, .val (i64 s20))]) x27 (hCK25) ?_ ?_
  · clear hx27
    rintro y29 rfl
    dsimp only at hx20o
    refine hK25 _ ?_
    -- region 16
    refine VW.wr tau_ok Sound.none [some 86, some 59] [(3, .val (.ptr [i64 a0_0, dI a0_1])), (4, .val (.ptr [i64 a1_0, dI a1_1])), (7, .ref 7 [] true (dM v18)), (57, .ref 7 [] true (dM v18)), (58, .val (i64 (v18.length : Int))), (59, .val (i64 (w64 (s20 + 1))))] rfl ?_ ?_
    · simp <;> simp [ieq, ilt, ile]
    cases hx20o
    exact ⟨_, rfl, Fits.of rfl⟩
  refine VW.block ?_
  refine VW.loopF (i_isIsometry_L1 a0_1 a1_0 a1_1 v18 s20 v26) (fun s27 => [(3, .val (.ptr [i64 a0_0, dI a0_1])), (4, .val (.ptr [i64 a1_0, dI a1_1])), (7, .ref 7 [] true (dM v18)), (8, .val (i64 s20)), (9, .ref 7 [s20.toNat] true (dI v26)), (57, .ref 7 [] true (dM v18)), (58, .val (i64 (v18.length : Int))), (59, .val (i64 s20)), (64, .ref 7 [] true (dM v18)), (65, .val (i64 (v18.length : Int))), (66, .val (i64 s27))]) hx27 (Fits.of rfl) ?_
  clear hx27
  intro s27 ox27 hx27o hx27b
  unfold i_isIsometry_L1 at hx27o
  -- region 8
  refine VW.ws tau_ok Sound.none [some 67] [(3, .val (.ptr [i64 a0_0, dI a0_1])), (4, .val (.ptr [i64 a1_0, dI a1_1])), (7, .ref 7 [] true (dM v18)), (8, .val (i64 s20)), (9, .ref 7 [s20.toNat] true (dI v26)), (57, .ref 7 [] true (dM v18)), (58, .val (i64 (v18.length : Int))), (59, .val (i64 s20)), (64, .ref 7 [] true (dM v18)), (65, .val (i64 (v18.length : Int))), (66, .val (i64 s27)), (67, .val (.bool (ilt s27 (v18.length : Int))))] rfl ?_ ?_
  · simp <;> simp [ieq, ilt, ile]
  refine VW.sqc fun K30 hK30 hCK30 => ?_
  refine VW.cond rfl (fun hb31 => ?_) (fun hb31 => ?_)
  rotate_left
  ·
    replace hb31 : ¬ (s27 < (v18.length : Int)) := by simpa [ieq, ilt, ile] using hb31
    rw [if_neg hb31] at hx27o
    refine VW.exit ?_
    cases hx27o
    have hq := hx27b _ rfl
    subst hq
    exact ⟨_, rfl, Fits.of rfl⟩
  replace hb31 : s27 < (v18.length : Int) := by simpa [ieq, ilt, ile] using hb31
  rw [if_pos hb31] at hx27o
  refine VW.skip ?_
  refine hK30 _ ?_
  refine VW.sqc fun K32 hK32 hCK32 => ?_
  refine VW.block ?_
  -- region 9
  obtain ⟨v33, hv33, hx27o⟩ := bind_some hx27o
  obtain ⟨hv33a, hv33b, hv33c, hv33d⟩ := idx_some hv33
  refine VW.ws tau_ok Sound.none [some 68, some 69, some 70, some 10, some 11] [(3, .val (.ptr [i64 a0_0, dI a0_1])), (4, .val (.ptr [i64 a1_0, dI a1_1])), (7, .ref 7 [] true (dM v18)), (8, .val (i64 s20)), (9, .ref 7 [s20.toNat] true (dI v26)), (10, .val (i64 s27)), (11, .ref 7 [s27.toNat] true (dI v33)), (57, .ref 7 [] true (dM v18)), (58, .val (i64 (v18.length : Int))), (59, .val (i64 s20)), (64, .ref 7 [] true (dM v18)), (65, .val (i64 (v18.length : Int))), (66, .val (i64 s27))] rfl ?_ ?_
  · simp [hv33a, hv33b, hv33c, hv33d] <;> simp [ieq, ilt, ile]
  -- region 10
  refine VW.ws tau_ok Sound.none [some 12] [(3, .val (.ptr [i64 a0_0, dI a0_1])), (4, .val (.ptr [i64 a1_0, dI a1_1])), (7, .ref 7 [] true (dM v18)), (8, .val (i64 s20)), (9, .ref 7 [s20.toNat] true (dI v26)), (10, .val (i64 s27)), (11, .ref 7 [s27.toNat] true (dI v33)), (12, .val (i64 0)), (57, .ref 7 [] true (dM v18)), (58, .val (i64 (v18.length : Int))), (59, .val (i64 s20)), (64, .ref 7 [] true (dM v18)), (65, .val (i64 (v18.length : Int))), (66, .val (i64 s27))] rfl ?_ ?_
  · simp <;> simp [ieq, ilt, ile]
  refine VW.sqc fun K34 hK34 hCK34 => ?_
  -- region 11
  refine VW.ws tau_ok Sound.none [some 71, some 72, some 73] [(3, .val (.ptr [i64 a0_0, dI a0_1])), (4, .val (.ptr [i64 a1_0, dI a1_1])), (7, .ref 7 [] true (dM v18)), (8, .val (i64 s20)), (9, .ref 7 [s20.toNat] true (dI v26)), (11, .ref 7 [s27.toNat] true (dI v33)), (12, .val (i64 0)), (57, .ref 7 [] true (dM v18)), (58, .val (i64 (v18.length : Int))), (59, .val (i64 s20)), (64, .ref 7 [] true (dM v18)), (65, .val (i64 (v18.length : Int))), (66, .val (i64 s27)), (73, .val (.bool (ieq s20 s27)))] rfl ?_ ?_
  · simp <;> simp [ieq, ilt, ile]
  obtain ⟨x35, hx35, hx27o⟩ := bind_some hx27o
  refine VW.tlE [(3, .val (.ptr [i64 a0_0, dI a0_1])), (4, .val (.ptr [i64 a1_0, dI a1_1])), (7, .ref 7 [] true (dM v18)), (8, .val (i64 s20)), (9, .ref 7 [s20.toNat] true (dI v26)), (11, .ref 7 [s27.toNat] true (dI v33)), (12, .val (i64 x35)), (57, .ref 7 [] true (dM v18)), (58, .val (i64 (v18.length : Int))), (59, .val (i64 s20)), (64, .ref 7 [] true (dM v18)), (65, .val (i64 (v18.length : Int))), (66, .val (i64 s27))] (hCK34) ?_ ?_
  · clear hx35
    refine hK34 _ ?_
    -- region 13
    obtain ⟨v39, hv39, hx27o⟩ := bind_some hx27o
    refine VW.ws tau_ok (Sound.none.add 82 (i_Space_pair_ok hv39) rfl) [some 79, some 80, some 81, some 82, some 83, some 84] [(3, .val (.ptr [i64 a0_0, dI a0_1])), (4, .val (.ptr [i64 a1_0, dI a1_1])), (7, .ref 7 [] true (dM v18)), (8, .val (i64 s20)), (9, .ref 7 [s20.toNat] true (dI v26)), (57, .ref 7 [] true (dM v18)), (58, .val (i64 (v18.length : Int))), (59, .val (i64 s20)), (64, .ref 7 [] true (dM v18)), (65, .val (i64 (v18.length : Int))), (66, .val (i64 s27)), (84, .val (.bool (!(ieq v39 x35))))] rfl ?_ ?_
    · simp <;> simp [ieq, ilt, ile]
    refine VW.cond rfl (fun hb40 => ?_) (fun hb40 => ?_)
    rotate_left
    ·
      replace hb40 : ¬ (¬ v39 = x35) := by simpa [ieq, ilt, ile] using hb40
      rw [if_neg hb40] at hx27o
      refine VW.skip ?_
      refine hK32 _ ?_
      -- region 15
      refine VW.wr tau_ok Sound.none [some 85, some 66] [(3, .val (.ptr [i64 a0_0, dI a0_1])), (4, .val (.ptr [i64 a1_0, dI a1_1])), (7, .ref 7 [] true (dM v18)), (8, .val (i64 s20)), (9, .ref 7 [s20.toNat] true (dI v26)), (57, .ref 7 [] true (dM v18)), (58, .val (i64 (v18.length : Int))), (59, .val (i64 s20)), (64, .ref 7 [] true (dM v18)), (65, .val (i64 (v18.length : Int))), (66, .val (i64 (w64 (s27 + 1))))] rfl ?_ ?_
      · simp <;> simp [ieq, ilt, ile]
      cases hx27o
      exact ⟨_, rfl, Fits.of rfl⟩
    replace hb40 : ¬ v39 = x35 := by simpa [ieq, ilt, ile] using hb40
    rw [if_pos hb40] at hx27o
    -- region 14
    refine VW.ws tau_ok Sound.none [some 6] [(6, .val (.bool false))] rfl ?_ ?_
    · simp <;> simp [ieq, ilt, ile]
    cases hx27o
    have hq := hx27b _ rfl
    subst hq
    dsimp only at hx20o
    cases hx20o
    have hq := hx20b _ rfl
    subst hq
    dsimp only at h
    cases h
    refine VW.ret ?_
    simp [Post, PostM, PostC, PostC2, Nx, Bk]
  refine VW.cond rfl (fun hb37 => ?_) (fun hb37 => ?_)
  rotate_left
  ·
    replace hb37 : ¬ (s20 = s27) := by simpa [ieq, ilt, ile] using hb37
    rw [if_neg hb37] at hx35
    refine VW.skip ?_
    cases hx35
    exact Fits.of rfl
  replace hb37 : s20 = s27 := by simpa [ieq, ilt, ile] using hb37
  rw [if_pos hb37] at hx35
  -- region 12
  obtain ⟨v38, hv38, hx35⟩ := bind_some hx35
  obtain ⟨hv38a, hv38b, hv38c, hv38d⟩ := idx_some hv38
  refine VW.wr tau_ok Sound.none [some 74, some 75, some 76, some 77, some 78, some 12] [(3, .val (.ptr [i64 a0_0, dI a0_1])), (4, .val (.ptr [i64 a1_0, dI a1_1])), (7, .ref 7 [] true (dM v18)), (8, .val (i64 s20)), (9, .ref 7 [s20.toNat] true (dI v26)), (11, .ref 7 [s27.toNat] true (dI v33)), (12, .val (i64 v38)), (57, .ref 7 [] true (dM v18)), (58, .val (i64 (v18.length : Int))), (59, .val (i64 s20)), (64, .ref 7 [] true (dM v18)), (65, .val (i64 (v18.length : Int))), (66, .val (i64 s27))] rfl ?_ ?_
  · simp [hv38a, hv38b, hv38c, hv38d] <;> simp [ieq, ilt, ile]
  cases hx35
  exact Fits.of rfl

theorem i_checkOrthogonal_ok {a0_0 : Int} {a0_1 : List Int} {a1 : List (List Int)} {r : Int} (h : i_checkOrthogonal a0_0 a0_1 a1 = some r) :
    VCall Try.prog 99 [.agg [i64 a0_0, dI a0_1], dM a1] [.sc (i64 r)] := by
  unfold i_checkOrthogonal at h
  refine VCall.enter Try.call99 Try.func99 rfl 19 Try.ntmps99 (by simp) [.tmp 4] rfl ?_
  show VW _ _ _ (mk [(0, .val (.agg [i64 a0_0, dI a0_1])), (1, .val (dM a1))]) _
  -- region 0
  refine VW.ws tau_ok Sound.none [some 2, some 4] [(1, .val (dM a1)), (2, .val (.ptr [i64 a0_0, dI a0_1]))] rfl ?_ ?_
  · simp <;> simp [ieq, ilt, ile]
  refine VW.sqc fun K1 hK1 hCK1 => ?_
  refine VW.block ?_
  -- region 1
  obtain ⟨v2, hv2, h⟩ := bind_some h
  refine VW.ws tau_ok (Sound.none.add 7 (i_IsSpace_ok hv2) rfl) [some 6, some 7, some 8, some 5] [(1, .val (dM a1)), (2, .val (.ptr [i64 a0_0, dI a0_1])), (5, .val (.bool (!v2)))] rfl ?_ ?_
  · simp <;> simp [ieq, ilt, ile]
  refine VW.cond rfl (fun hb3 => ?_) (fun hb3 => ?_)
  ·
    replace hb3 : v2 = false := by simpa [ieq, ilt, ile] using hb3
    rw [if_pos hb3] at h
    -- region 2
    refine VW.ws tau_ok Sound.none [some 4] [(4, .val (i64 1))] rfl ?_ ?_
    · simp <;> simp [ieq, ilt, ile]
    cases h
    refine VW.ret ?_
    simp [Post, PostM, PostC, PostC2, Nx, Bk]
  replace hb3 : ¬ (v2 = false) := by simpa [ieq, ilt, ile] using hb3
  rw [if_neg hb3] at h
  -- region 3
  obtain ⟨v4, hv4, h⟩ := bind_some h
  refine VW.ws tau_ok (Sound.none.add 11 (i_Space_regular_ok hv4) rfl) [some 10, some 11, some 12, some 9] [(1, .val (dM a1)), (2, .val (.ptr [i64 a0_0, dI a0_1])), (9, .val (.bool (!v4)))] rfl ?_ ?_
  · simp <;> simp [ieq, ilt, ile]
  refine VW.cond rfl (fun hb5 => ?_) (fun hb5 => ?_)
  ·
    replace hb5 : v4 = false := by simpa [ieq, ilt, ile] using hb5
    rw [if_pos hb5] at h
    -- region 4
    refine VW.ws tau_ok Sound.none [some 4] [(4, .val (i64 5))] rfl ?_ ?_
    · simp <;> simp [ieq, ilt, ile]
    cases h
    refine VW.ret ?_
    simp [Post, PostM, PostC, PostC2, Nx, Bk]
  replace hb5 : ¬ (v4 = false) := by simpa [ieq, ilt, ile] using hb5
  rw [if_neg hb5] at h
  -- region 5
  obtain ⟨v6, hv6, h⟩ := bind_some h
  refine VW.ws tau_ok (Sound.none.add 17 (i_isIsometry_ok hv6) rfl) [some 14, some 15, some 16, some 17, some 18, some 13] [(13, .val (.bool (!v6)))] rfl ?_ ?_
  · simp <;> simp [ieq, ilt, ile]
  refine VW.cond rfl (fun hb7 => ?_) (fun hb7 => ?_)
  ·
    replace hb7 : v6 = false := by simpa [ieq, ilt, ile] using hb7
    rw [if_pos hb7] at h
    -- region 6
    refine VW.ws tau_ok Sound.none [some 4] [(4, .val (i64 2))] rfl ?_ ?_
    · simp <;> simp [ieq, ilt, ile]
    cases h
    refine VW.ret ?_
    simp [Post, PostM, PostC, PostC2, Nx, Bk]
  replace hb7 : ¬ (v6 = false) := by simpa [ieq, ilt, ile] using hb7
  rw [if_neg hb7] at h
  refine VW.skip ?_
  refine hK1 _ ?_
  -- region 7
  refine VW.ws tau_ok Sound.none [some 4] [(4, .val (i64 0))] rfl ?_ ?_
  · simp <;> simp [ieq, ilt, ile]
  cases h
  refine VW.ret ?_
  simp [Post, PostM, PostC, PostC2, Nx, Bk]

theorem g_slices_EqualFunc_LLI_LLI_LI_LI_of_g_slices_Equal_LI_I_ok {a0 : List (List Int)} {a1 : List (List Int)} {r : Bool} (h : g_slices_EqualFunc_LLI_LLI_LI_LI_of_g_slices_Equal_LI_I a0 a1 = some r) :
    VCall Try.prog 200 [dM a0, dM a1, .fn 131 []] [.sc (.bool r)] := by
  unfold g_slices_EqualFunc_LLI_LLI_LI_LI_of_g_slices_Equal_LI_I at h
  refine VCall.enter Try.call200 Try.func200 rfl 32 Try.ntmps200 (by simp) [.tmp 6] rfl ?_
  show VW _ _ _ (mk [(0, .val (dM a0)), (1, .val (dM a1)), (2, .val (.fn 131 []))]) _
  -- region 0
  refine VW.ws tau_ok Sound.none [some 6] [(0, .val (dM a0)), (1, .val (dM a1)), (2, .val (.fn 131 []))] rfl ?_ ?_
  · simp <;> simp [ieq, ilt, ile]
  refine VW.sqc fun K1 hK1 hCK1 => ?_
  -- region 1
  refine VW.ws tau_ok Sound.none [some 10, some 11, some 12, some 13, some 14] [(0, .val (dM a0)), (1, .val (dM a1)), (2, .val (.fn 131 [])), (14, .val (.bool (!(ieq (a0.length : Int) (a1.length : Int)))))] rfl ?_ ?_
  · simp <;> simp [ieq, ilt, ile]
  refine VW.cond rfl (fun hb2 => ?_) (fun hb2 => ?_)
  ·
    replace hb2 : ¬ (a0.length : Int) = (a1.length : Int) := by simpa [ieq, ilt, ile] using hb2
    rw [if_pos hb2] at h
    -- region 2
    refine VW.ws tau_ok Sound.none [some 6] [(6, .val (.bool false))] rfl ?_ ?_
    · simp <;> simp [ieq, ilt, ile]
    cases h
    refine VW.ret ?_
    simp [Post, PostM, PostC, PostC2, Nx, Bk]
  replace hb2 : ¬ (¬ (a0.length : Int) = (a1.length : Int)) := by simpa [ieq, ilt, ile] using hb2
  rw [if_neg hb2] at h
  refine VW.skip ?_
  refine hK1 _ ?_
  refine VW.sqc fun K3 hK3 hCK3 => ?_
  -- region 3
  refine VW.ws tau_ok Sound.none [some 15, some 16, some 17] [(1, .val (dM a1)), (2, .val (.fn 131 [])), (15, .val (dM a0)), (16, .val (i64 (a0.length : Int))), (17, .val (i64 0))] rfl ?_ ?_
  · simp <;> simp [ieq, ilt, ile]
  obtain ⟨x4, hx4, h⟩ := bind_some h
  refine VW.tlO (fun y6 => []) x4 (hCK3) ?_ ?_
  · clear hx4
    rintro y6 rfl
    dsimp only at h
    refine hK3 _ ?_
    -- region 10
    refine VW.ws tau_ok Sound.none [some 6] [(6, .val (.bool true))] rfl ?_ ?_
    · simp <;> simp [ieq, ilt, ile]
    cases h
    refine VW.ret ?_
    simp [Post, PostM, PostC, PostC2, Nx, Bk]
  refine VW.block ?_
  refine VW.loopF (g_slices_EqualFunc_LLI_LLI_LI_LI_of_g_slices_Equal_LI_I_L0 a0 a1) (fun s4 => [(1, .val (dM a1)), (2, .val (.fn 131 [])), (15, .val (dM a0)), (16, .val (i64 (a0.length : Int))), (17, .val (i64 s4))]) hx4 (Fits.of rfl) ?_
  clear hx4
  intro s4 ox4 hx4o hx4b
  unfold g_slices_EqualFunc_LLI_LLI_LI_LI_of_g_slices_Equal_LI_I_L0 at hx4o
  -- region 4
  refine VW.ws tau_ok Sound.none [some 18] [(1, .val (dM a1)), (2, .val (.fn 131 [])), (15, .val (dM a0)), (16, .val (i64 (a0.length : Int))), (17, .val (i64 s4)), (18, .val (.bool (ilt s4 (a0.length : Int))))] rfl ?_ ?_
  · simp <;> simp [ieq, ilt, ile]
  refine VW.sqc fun K7 hK7 hCK7 => ?_
  refine VW.cond rfl (fun hb8 => ?_) (fun hb8 => ?_)
  rotate_left
  ·
    replace hb8 : ¬ (s4 < (a0.length : Int)) := by simpa [ieq, ilt, ile] using hb8
    rw [if_neg hb8] at hx4o
    refine VW.exit ?_
    cases hx4o
    have hq := hx4b _ rfl
    subst hq
    exact ⟨_, rfl, Fits.of rfl⟩
  replace hb8 : s4 < (a0.length : Int) := by simpa [ieq, ilt, ile] using hb8
  rw [if_pos hb8] at hx4o
  refine VW.skip ?_
  refine hK7 _ ?_
  refine VW.sqc fun K9 hK9 hCK9 => ?_
  refine VW.block ?_
  -- region 5
  obtain ⟨v10, hv10, hx4o⟩ := bind_some hx4o
  obtain ⟨hv10a, hv10b, hv10c, hv10d⟩ := idx_some hv10
  refine VW.ws tau_ok Sound.none [some 19, some 20, some 21, some 7, some 8] [(1, .val (dM a1)), (2, .val (.fn 131 [])), (7, .val (i64 s4)), (8, .val (dI v10)), (15, .val (dM a0)), (16, .val (i64 (a0.length : Int))), (17, .val (i64 s4))] rfl ?_ ?_
  · simp [hv10a, hv10b, hv10c, hv10d] <;> simp [ieq, ilt, ile]
  -- region 6
  obtain ⟨v11, hv11, hx4o⟩ := bind_some hx4o
  obtain ⟨hv11a, hv11b, hv11c, hv11d⟩ := idx_some hv11
  refine VW.ws tau_ok Sound.none [some 22, some 23, some 24, some 25, some 9] [(1, .val (dM a1)), (2, .val (.fn 131 [])), (8, .val (dI v10)), (9, .val (dI v11)), (15, .val (dM a0)), (16, .val (i64 (a0.length : Int))), (17, .val (i64 s4))] rfl ?_ ?_
  · simp [hv11a, hv11b, hv11c, hv11d] <;> simp [ieq, ilt, ile]
  -- region 7
  obtain ⟨v12, hv12, hx4o⟩ := bind_some hx4o
  refine VW.ws tau_ok (Sound.none.add 29 (g_slices_Equal_LI_I_ok hv12) rfl) [some 26, some 27, some 28, some 29, some 30] [(1, .val (dM a1)), (2, .val (.fn 131 [])), (15, .val (dM a0)), (16, .val (i64 (a0.length : Int))), (17, .val (i64 s4)), (30, .val (.bool (!v12)))] rfl ?_ ?_
  · simp <;> simp [ieq, ilt, ile]
  refine VW.cond rfl (fun hb13 => ?_) (fun hb13 => ?_)
  rotate_left
  ·
    replace hb13 : ¬ (v12 = false) := by simpa [ieq, ilt, ile] using hb13
    rw [if_neg hb13] at hx4o
    refine VW.skip ?_
    refine hK9 _ ?_
    -- region 9
    refine VW.wr tau_ok Sound.none [some 31, some 17] [(1, .val (dM a1)), (2, .val (.fn 131 [])), (15, .val (dM a0)), (16, .val (i64 (a0.length : Int))), (17, .val (i64 (w64 (s4 + 1))))] rfl ?_ ?_
    · simp <;> simp [ieq, ilt, ile]
    cases hx4o
    exact ⟨_, rfl, Fits.of rfl⟩
  replace hb13 : v12 = false := by simpa [ieq, ilt, ile] using hb13
  rw [if_pos hb13] at hx4o
  -- region 8
  refine VW.ws tau_ok Sound.none [some 6] [(6, .val (.bool false))] rfl ?_ ?_
  · simp <;> simp [ieq, ilt, ile]
  cases hx4o
  have hq := hx4b _ rfl
  subst hq
  dsimp only at h
  cases h
  refine VW.ret ?_
  simp [Post, PostM, PostC, PostC2, Nx, Bk]

theorem i_sameRows_ok {a0 : List (List Int)} {a1 : List (List Int)} {r : Bool} (h : i_sameRows a0 a1 = some r) :
    VCall Try.prog 102 [dM a0, dM a1] [.sc (.bool r)] := by
  unfold i_sameRows at h
  refine VCall.enter Try.call102 Try.func102 rfl 8 Try.ntmps102 (by simp) [.tmp 4] rfl ?_
  show VW _ _ _ (mk [(0, .val (dM a0)), (1, .val (dM a1))]) _
  -- region 0
  refine VW.ws tau_ok Sound.none [some 4] [(0, .val (dM a0)), (1, .val (dM a1))] rfl ?_ ?_
  · simp <;> simp [ieq, ilt, ile]
  -- region 1
  obtain ⟨v1, hv1, h⟩ := bind_some h
  refine VW.ws tau_ok (Sound.none.add 7 (g_slices_EqualFunc_LLI_LLI_LI_LI_of_g_slices_Equal_LI_I_ok hv1) rfl) [some 5, some 6, some 7, some 4] [(4, .val (.bool v1))] rfl ?_ ?_
  · simp <;> simp [ieq, ilt, ile]
  cases h
  refine VW.ret ?_
  simp [Post, PostM, PostC, PostC2, Nx, Bk]

theorem i_field_times_ok {a0 : Int} {a1 : List (List Int)} {a2 : List (List Int)} {r : List (List Int)} (h : i_field_times a0 a1 a2 = some r) :
    VCall Try.prog 104 [i64 a0, dM a1, dM a2] [.own true (dM r)] := by
  unfold i_field_times at h
  refine VCall.enter Try.call104 Try.func104 rfl 29 Try.ntmps104 (by simp) [.tmp 6] rfl ?_
  show VW _ _ _ (mk [(0, .val (i64 a0)), (1, .val (dM a1)), (2, .val (dM a2))]) _
  -- region 0
  refine VW.ws tau_ok Sound.none [some 6] [(0, .val (i64 a0)), (1, .val (dM a1)), (2, .val (dM a2))] rfl ?_ ?_
  · simp <;> simp [ieq, ilt, ile]
  -- region 1
  obtain ⟨v1, hv1, h⟩ := bind_some h
  refine VW.ws tau_ok (Sound.none.add 12 (i_transpose_ok hv1) rfl) [some 11, some 12, some 13, some 7, some 8] [(0, .val (i64 a0)), (1, .val (dM a1)), (7, .ref 7 [] true (dM v1)), (8, .ref 8 [] true (dM []))] rfl ?_ ?_
  · simp <;> simp [ieq, ilt, ile]
  refine VW.sqc fun K2 hK2 hCK2 => ?_
  -- region 2
  refine VW.ws tau_ok Sound.none [some 14, some 15, some 16] [(0, .val (i64 a0)), (7, .ref 7 [] true (dM v1)), (8, .ref 8 [] true (dM [])), (14, .val (dM a1)), (15, .val (i64 (a1.length : Int))), (16, .val (i64 0))] rfl ?_ ?_
  · simp <;> simp [ieq, ilt, ile]
  obtain ⟨x3, hx3, h⟩ := bind_some h
  refine VW.tlE [(8, .ref 8 [] true (dM x3))] (hCK2) ?_ ?_
  · clear hx3
    refine hK2 _ ?_
    -- region 7
    refine VW.ws tau_ok Sound.none [some 28, some 6] [(6, .ref 6 [] true (dM x3))] rfl ?_ ?_
    · simp <;> simp [ieq, ilt, ile]
    cases h
    refine VW.ret ?_
    simp [Post, PostM, PostC, PostC2, Nx, Bk]
  refine VW.block ?_
  refine VW.loopF (i_field_times_L0 a0 a1 v1) (fun s3 => [(0, .val (i64 a0)), (7, .ref 7 [] true (dM v1)), (8, .ref 8 [] true (dM s3.1)), (14, .val (dM a1)), (15, .val (i64 (a1.length : Int))), (16, .val (i64 s3.2))]) hx3 (Fits.of rfl) ?_
  clear hx3
  intro s3 ox3 hx3o hx3b
  unfold i_field_times_L0 at hx3o
  -- region 3
  refine VW.ws tau_ok Sound.none [some 17] [(0, .val (i64 a0)), (7, .ref 7 [] true (dM v1)), (8, .ref 8 [] true (dM s3.1)), (14, .val (dM a1)), (15, .val (i64 (a1.length : Int))), (16, .val (i64 s3.2)), (17, .val (.bool (ilt s3.2 (a1.length : Int))))] rfl ?_ ?_
  · simp <;> simp [ieq, ilt, ile]
  refine VW.sqc fun K5 hK5 hCK5 => ?_
  refine VW.cond rfl (fun hb6 => ?_) (fun hb6 => ?_)
  rotate_left
  ·
    replace hb6 : ¬ (s3.2 < (a1.length : Int)) := by simpa [ieq, ilt, ile] using hb6
    rw [if_neg hb6] at hx3o
    refine VW.exit ?_
    cases hx3o
    have hq := hx3b _ rfl
    subst hq
    exact Fits.of rfl
  replace hb6 : s3.2 < (a1.length : Int) := by simpa [ieq, ilt, ile] using hb6
  rw [if_pos hb6] at hx3o
  refine VW.skip ?_
  refine hK5 _ ?_
  refine VW.sqc fun K7 hK7 hCK7 => ?_
  refine VW.block ?_
  -- region 4
  obtain ⟨v8, hv8, hx3o⟩ := bind_some hx3o
  obtain ⟨hv8a, hv8b, hv8c, hv8d⟩ := idx_some hv8
  refine VW.ws tau_ok Sound.none [some 18, some 19, some 10] [(0, .val (i64 a0)), (7, .ref 7 [] true (dM v1)), (8, .ref 8 [] true (dM s3.1)), (10, .val (dI v8)), (14, .val (dM a1)), (15, .val (i64 (a1.length : Int))), (16, .val (i64 s3.2))] rfl ?_ ?_
  · simp [hv8a, hv8b, hv8c, hv8d] <;> simp [ieq, ilt, ile]
  -- region 5
  obtain ⟨v9, hv9, hx3o⟩ := bind_some hx3o
  obtain ⟨hc10, hx3o⟩ := chk_some hx3o
  have hc10s := hc10
  try simp at hc10s
  refine VW.wr tau_ok (Sound.none.add 24 (i_field_apply_ok hv9) rfl) [some 20, some 21, some 22, some 23, some 24, some 25, some 26, some 8] [(0, .val (i64 a0)), (7, .ref 7 [] true (dM v1)), (8, .ref 8 [] true (dM (s3.1 ++ [v9]))), (14, .val (dM a1)), (15, .val (i64 (a1.length : Int))), (16, .val (i64 s3.2))] rfl ?_ ?_
  · simp [hc10, hc10s] <;> simp [ieq, ilt, ile]
  refine hK7 _ ?_
  -- region 6
  refine VW.wr tau_ok Sound.none [some 27, some 16] [(0, .val (i64 a0)), (7, .ref 7 [] true (dM v1)), (8, .ref 8 [] true (dM (s3.1 ++ [v9]))), (14, .val (dM a1)), (15, .val (i64 (a1.length : Int))), (16, .val (i64 (w64 (s3.2 + 1))))] rfl ?_ ?_
  · simp <;> simp [ieq, ilt, ile]
  cases hx3o
  exact ⟨_, rfl, Fits.of rfl⟩

theorem i_OrthogonalOrder_ok {a0_0 : Int} {a0_1 : List Int} {a1 : List (List Int)} {r : Int × Int} (h : i_OrthogonalOrder a0_0 a0_1 a1 = some r) :
    VCall Try.prog 26 [.agg [i64 a0_0, dI a0_1], dM a1] [.sc (i64 r.1), .sc (i64 r.2)] := by
  unfold i_OrthogonalOrder at h
  refine VCall.enter Try.call26 Try.func26 rfl 33 Try.ntmps26 (by simp) [.tmp 4, .tmp 5] rfl ?_
  show VW _ _ _ (mk [(0, .val (.agg [i64 a0_0, dI a0_1])), (1, .val (dM a1))]) _
  -- region 0
  refine VW.ws tau_ok Sound.none [some 2, some 4, some 5] [(1, .val (dM a1)), (2, .val (.ptr [i64 a0_0, dI a0_1]))] rfl ?_ ?_
  · simp <;> simp [ieq, ilt, ile]
  refine VW.sqc fun K1 hK1 hCK1 => ?_
  -- region 1
  obtain ⟨v2, hv2, h⟩ := bind_some h
  refine VW.ws tau_ok (Sound.none.add 12 (i_checkOrthogonal_ok hv2) rfl) [some 10, some 11, some 12, some 6] [(1, .val (dM a1)), (2, .val (.ptr [i64 a0_0, dI a0_1])), (6, .val (i64 v2))] rfl ?_ ?_
  · simp <;> simp [ieq, ilt, ile]
  -- region 2
  refine VW.ws tau_ok Sound.none [some 13, some 14] [(1, .val (dM a1)), (2, .val (.ptr [i64 a0_0, dI a0_1])), (6, .val (i64 v2)), (14, .val (.bool (!(ieq v2 0))))] rfl ?_ ?_
  · simp <;> simp [ieq, ilt, ile]
  refine VW.cond rfl (fun hb3 => ?_) (fun hb3 => ?_)
  ·
    replace hb3 : ¬ v2 = 0 := by simpa [ieq, ilt, ile] using hb3
    rw [if_pos hb3] at h
    -- region 3
    refine VW.ws tau_ok Sound.none [some 15, some 4, some 5] [(4, .val (i64 0)), (5, .val (i64 v2))] rfl ?_ ?_
    · simp <;> simp [ieq, ilt, ile]
    cases h
    refine VW.ret ?_
    simp [Post, PostM, PostC, PostC2, Nx, Bk]
  replace hb3 : ¬ (¬ v2 = 0) := by simpa [ieq, ilt, ile] using hb3
  rw [if_neg hb3] at h
  refine VW.skip ?_
  refine hK1 _ ?_
  -- region 4
  obtain ⟨v4, hv4, h⟩ := bind_some h
  obtain ⟨v5, hv5, h⟩ := bind_some h
  refine VW.ws tau_ok ((Sound.none.add 18 (i_Space_dim_ok hv4) rfl).add 19 (i_unit_ok hv5) rfl) [some 16, some 17, some 18, some 19, some 7, some 8] [(1, .val (dM a1)), (2, .val (.ptr [i64 a0_0, dI a0_1])), (7, .val (dM a1)), (8, .ref 8 [] true (dM v5))] rfl ?_ ?_
  · simp <;> simp [ieq, ilt, ile]
  refine VW.sqc fun K6 hK6 hCK6 => ?_
  -- region 5
  refine VW.ws tau_ok Sound.none [some 9] [(1, .val (dM a1)), (2, .val (.ptr [i64 a0_0, dI a0_1])), (7, .val (dM a1)), (8, .ref 8 [] true (dM v5)), (9, .val (i64 1))] rfl ?_ ?_
  · simp <;> simp [ieq, ilt, ile]
  obtain ⟨x7, hx7, h⟩ := bind_some h
  refine VW.tlO (fun y9 => []) x7 (hCK6) ?_ ?_
  · clear hx7
    rintro y9 rfl
    dsimp only at h
    refine hK6 _ ?_
    -- region 11
    refine VW.ws tau_ok Sound.none [some 4, some 5] [(4, .val (i64 0)), (5, .val (i64 3))] rfl ?_ ?_
    · simp <;> simp [ieq, ilt, ile]
    cases h
    refine VW.ret ?_
    simp [Post, PostM, PostC, PostC2, Nx, Bk]
  refine VW.block ?_
  refine VW.loopF (i_OrthogonalOrder_L0 a0_0 a0_1 a1 v5) (fun s7 => [(1, .val (dM a1)), (2, .val (.ptr [i64 a0_0, dI a0_1])), (7, .val (dM s7.1)), (8, .ref 8 [] true (dM v5)), (9, .val (i64 s7.2))]) hx7 (Fits.of rfl) ?_
  clear hx7
  intro s7 ox7 hx7o hx7b
  unfold i_OrthogonalOrder_L0 at hx7o
  refine VW.sqc fun K10 hK10 hCK10 => ?_
  -- region 6
  refine VW.ws tau_ok Sound.none [some 20, some 21] [(1, .val (dM a1)), (2, .val (.ptr [i64 a0_0, dI a0_1])), (7, .val (dM s7.1)), (8, .ref 8 [] true (dM v5)), (9, .val (i64 s7.2)), (21, .val (.bool (ile s7.2 100000)))] rfl ?_ ?_
  · simp <;> simp [ieq, ilt, ile]
  refine VW.cond rfl (fun hb11 => ?_) (fun hb11 => ?_)
  rotate_left
  ·
    replace hb11 : ¬ (s7.2 ≤ 100000) := by simpa [ieq, ilt, ile] using hb11
    rw [if_neg hb11] at hx7o
    refine VW.exit ?_
    cases hx7o
    have hq := hx7b _ rfl
    subst hq
    exact ⟨_, rfl, Fits.of rfl⟩
  replace hb11 : s7.2 ≤ 100000 := by simpa [ieq, ilt, ile] using hb11
  rw [if_pos hb11] at hx7o
  refine VW.skip ?_
  refine hK10 _ ?_
  refine VW.sqc fun K12 hK12 hCK12 => ?_
  refine VW.block ?_
  refine VW.sqc fun K13 hK13 hCK13 => ?_
  -- region 8
  obtain ⟨v14, hv14, hx7o⟩ := bind_some hx7o
  refine VW.ws tau_ok (Sound.none.add 26 (i_sameRows_ok hv14) rfl) [some 24, some 25, some 26] [(1, .val (dM a1)), (2, .val (.ptr [i64 a0_0, dI a0_1])), (7, .val (dM s7.1)), (8, .ref 8 [] true (dM v5)), (9, .val (i64 s7.2)), (26, .val (.bool v14))] rfl ?_ ?_
  · simp <;> simp [ieq, ilt, ile]
  refine VW.cond rfl (fun hb15 => ?_) (fun hb15 => ?_)
  ·
    replace hb15 : v14 = true := by simpa [ieq, ilt, ile] using hb15
    rw [if_pos hb15] at hx7o
    -- region 9
    refine VW.ws tau_ok Sound.none [some 27, some 4, some 5] [(4, .val (i64 s7.2)), (5, .val (i64 0))] rfl ?_ ?_
    · simp <;> simp [ieq, ilt, ile]
    cases hx7o
    have hq := hx7b _ rfl
    subst hq
    dsimp only at h
    cases h
    refine VW.ret ?_
    simp [Post, PostM, PostC, PostC2, Nx, Bk]
  replace hb15 : ¬ (v14 = true) := by simpa [ieq, ilt, ile] using hb15
  rw [if_neg hb15] at hx7o
  refine VW.skip ?_
  refine hK13 _ ?_
  -- region 10
  obtain ⟨v16, hv16, hx7o⟩ := bind_some hx7o
  obtain ⟨v17, hv17, hx7o⟩ := bind_some hx7o
  refine VW.wr tau_ok ((Sound.none.add 29 (i_Space_field_ok hv16) rfl).add 32 (i_field_times_ok hv17) rfl) [some 28, some 29, some 30, some 31, some 32, some 7] [(1, .val (dM a1)), (2, .val (.ptr [i64 a0_0, dI a0_1])), (7, .ref 7 [] true (dM v17)), (8, .ref 8 [] true (dM v5)), (9, .val (i64 s7.2))] rfl ?_ ?_
  · simp <;> simp [ieq, ilt, ile]
  refine hK12 _ ?_
  -- region 7
  refine VW.wr tau_ok Sound.none [some 22, some 23, some 9] [(1, .val (dM a1)), (2, .val (.ptr [i64 a0_0, dI a0_1])), (7, .ref 7 [] true (dM v17)), (8, .ref 8 [] true (dM v5)), (9, .val (i64 (w64 (s7.2 + 1))))] rfl ?_ ?_
  · simp <;> simp [ieq, ilt, ile]
  cases hx7o
  exact ⟨_, rfl, Fits.freeze (s := 7) rfl (by simp) (Fits.of rfl)⟩
end Go.Vam
