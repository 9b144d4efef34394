import Derived.Test.YtcijfjeeggfgmaaR8T
import Derived.Test.YtcijfjeeggfgmaaFmG0
import Derived.Test.YtcijfjeeggfgmaaR8HW1
import Derived.Test.YtcijfjeeggfgmaaR8HW2
namespace Go.Vam
open Go Go.RowKit Go.Proofs
set_option maxRecDepth 100000
set_option linter.unusedSimpArgs false
set_option linter.unusedVariables false

set_option maxHeartbeats 4000000 in
theorem l_FnCharacteristics_ok {a0 : List Int} {r : Bool} (h : l_FnCharacteristics a0 = some r) :
    VCall Try.prog 12 [.list (a0.map (D.int .u8))] [.sc (.bool r)] := by
  unfold l_FnCharacteristics at h
  refine VCall.enter Try.call12 Try.func12 rfl 180 Try.ntmps12 (by simp) [.tmp 2] rfl ?_
  show VW _ _ _ (mk [(0, .val (.list (a0.map (D.int .u8))))]) _
  -- region 0
  refine VW.ws tau_ok Sound.none [some 2] [(0, .val (.list (a0.map (D.int .u8))))] rfl ?_ ?_
  · simp <;> simp [ieq, ilt, ile]
  refine VW.sqc fun K1 hK1 hCK1 => ?_
  -- region 1
  obtain ⟨v2, hv2, h⟩ := bind_some h
  refine VW.ws tau_ok (Sound.none.add 23 (l_big_ok hv2) rfl) [some 22, some 23] [(0, .val (.list (a0.map (D.int .u8)))), (23, .val (.bool v2))] rfl ?_ ?_
  · simp <;> simp [ieq, ilt, ile]
  refine VW.cond rfl (fun hb3 => ?_) (fun hb3 => ?_)
  ·
    replace hb3 : v2 = true := by simpa [ieq, ilt, ile] using hb3
    rw [if_pos hb3] at h
    -- region 2
    refine VW.ws tau_ok Sound.none [some 2] [(2, .val (.bool true))] rfl ?_ ?_
    · simp <;> simp [ieq, ilt, ile]
    cases h
    refine VW.ret ?_
    simp [Post, PostM, PostC, PostC2, Nx, Bk]
  replace hb3 : ¬ (v2 = true) := by simpa [ieq, ilt, ile] using hb3
  rw [if_neg hb3] at h
  refine VW.skip ?_
  refine hK1 _ ?_
  -- region 3
  obtain ⟨v4, hv4, h⟩ := bind_some h
  refine VW.ws tau_ok (Sound.none.add 26 (s_DrawCharacteristicPolynomial_ok hv4) rfl) [some 25, some 26, some 24, some 27, some 28, some 3, some 4] [(3, .val (i64 v4.1)), (4, .val (dM v4.2))] rfl ?_ ?_
  · simp <;> simp [ieq, ilt, ile]
  -- region 4
  obtain ⟨v5, hv5, h⟩ := bind_some h
  refine VW.ws tau_ok (Sound.none.add 32 (i_CharacteristicPolynomial_ok hv5) rfl) [some 30, some 31, some 32, some 29, some 33, some 34, some 5, some 6] [(3, .val (i64 v4.1)), (4, .val (dM v4.2)), (5, .ref 5 [] true (dI v5.1)), (6, .val (i64 v5.2))] rfl ?_ ?_
  · simp <;> simp [ieq, ilt, ile]
  -- region 5
  obtain ⟨v6, hv6, h⟩ := bind_some h
  refine VW.ws tau_ok (Sound.none.add 38 (s_CharacteristicPolynomial_ok hv6) rfl) [some 36, some 37, some 38, some 35, some 39, some 40, some 7, some 8] [(3, .val (i64 v4.1)), (4, .val (dM v4.2)), (5, .ref 5 [] true (dI v5.1)), (6, .val (i64 v5.2)), (7, .val (dI v6.1)), (8, .val (i64 v6.2))] rfl ?_ ?_
  · simp <;> simp [ieq, ilt, ile]
  refine VW.sqc fun K7 hK7 hCK7 => ?_
  -- region 6
  obtain ⟨x10, hx10, h⟩ := bind_some h
  refine VW.cut [(3, .val (i64 v4.1)), (4, .val (dM v4.2)), (5, .ref 5 [] true (dI v5.1)), (6, .val (i64 v5.2)), (49, .val (.bool x10))] ?_ fun hy => ?_
  rotate_left
  · clear h
    by_cases hp8 : ¬ v5.2 = v6.2
    · rw [if_pos hp8] at hx10
      have hp8b : ieq v5.2 v6.2 = false := by simpa [ieq, ilt, ile] using hp8
      have hp8s := hp8b
      try simp at hp8s
      cases hx10
      refine VW.ws tau_ok Sound.none [some 41, some 42, some 43, some 44, some 45, some 46, some 47, some 48, some 49] _ rfl ?_ hy
      simp [hp8b, hp8s] <;> simp [ieq, ilt, ile]
    · rw [if_neg hp8] at hx10
      have hp8b : ieq v5.2 v6.2 = true := by simpa [ieq, ilt, ile] using hp8
      have hp8s := hp8b
      try simp at hp8s
      obtain ⟨v9, hv9, hx10⟩ := bind_some hx10
      cases hx10
      refine VW.ws tau_ok (Sound.none.add 47 (l_likeInts_ok hv9) rfl) [some 41, some 42, some 43, some 44, some 45, some 46, some 47, some 48, some 49] _ rfl ?_ hy
      simp [hp8b, hp8s] <;> simp [ieq, ilt, ile]
  refine VW.cond rfl (fun hb11 => ?_) (fun hb11 => ?_)
  ·
    replace hb11 : x10 = true := by simpa [ieq, ilt, ile] using hb11
    rw [if_pos hb11] at h
    -- region 7
    refine VW.ws tau_ok Sound.none [some 2] [(2, .val (.bool false))] rfl ?_ ?_
    · simp <;> simp [ieq, ilt, ile]
    cases h
    refine VW.ret ?_
    simp [Post, PostM, PostC, PostC2, Nx, Bk]
  replace hb11 : ¬ (x10 = true) := by simpa [ieq, ilt, ile] using hb11
  rw [if_neg hb11] at h
  refine VW.skip ?_
  refine hK7 _ ?_
  refine VW.sqc fun K12 hK12 hCK12 => ?_
  -- region 8
  refine VW.ws tau_ok Sound.none [some 50, some 51] [(3, .val (i64 v4.1)), (4, .val (dM v4.2)), (5, .ref 5 [] true (dI v5.1)), (51, .val (.bool (!(ieq v5.2 0))))] rfl ?_ ?_
  · simp <;> simp [ieq, ilt, ile]
  refine VW.cond rfl (fun hb13 => ?_) (fun hb13 => ?_)
  ·
    replace hb13 : ¬ v5.2 = 0 := by simpa [ieq, ilt, ile] using hb13
    rw [if_pos hb13] at h
    -- region 9
    refine VW.ws tau_ok Sound.none [some 2] [(2, .val (.bool true))] rfl ?_ ?_
    · simp <;> simp [ieq, ilt, ile]
    cases h
    refine VW.ret ?_
    simp [Post, PostM, PostC, PostC2, Nx, Bk]
  replace hb13 : ¬ (¬ v5.2 = 0) := by simpa [ieq, ilt, ile] using hb13
  rw [if_neg hb13] at h
  refine VW.skip ?_
  refine hK12 _ ?_
  -- region 10
  refine VW.ws tau_ok Sound.none [some 52, some 53, some 9] [(3, .val (i64 v4.1)), (4, .val (dM v4.2)), (5, .ref 5 [] true (dI v5.1)), (9, .val (i64 (v4.2.length : Int)))] rfl ?_ ?_
  · simp <;> simp [ieq, ilt, ile]
  -- region 11
  obtain ⟨v14, hv14, h⟩ := bind_some h
  refine VW.ws tau_ok (Sound.none.add 57 (i_TraceOf_ok hv14) rfl) [some 55, some 56, some 57, some 54, some 58, some 59, some 10, some 11] [(3, .val (i64 v4.1)), (4, .val (dM v4.2)), (5, .ref 5 [] true (dI v5.1)), (9, .val (i64 (v4.2.length : Int))), (10, .val (i64 v14.1)), (11, .val (i64 v14.2))] rfl ?_ ?_
  · simp <;> simp [ieq, ilt, ile]
  -- region 12
  obtain ⟨v15, hv15, h⟩ := bind_some h
  refine VW.ws tau_ok (Sound.none.add 63 (i_Determinant_ok hv15) rfl) [some 61, some 62, some 63, some 60, some 64, some 65, some 12, some 13] [(3, .val (i64 v4.1)), (4, .val (dM v4.2)), (5, .ref 5 [] true (dI v5.1)), (9, .val (i64 (v4.2.length : Int))), (10, .val (i64 v14.1)), (11, .val (i64 v14.2)), (12, .val (i64 v15.1)), (13, .val (i64 v15.2))] rfl ?_ ?_
  · simp <;> simp [ieq, ilt, ile]
  refine VW.sqc fun K16 hK16 hCK16 => ?_
  -- region 13
  obtain ⟨x24, hx24, h⟩ := bind_some h
  refine VW.cut [(3, .val (i64 v4.1)), (4, .val (dM v4.2)), (5, .ref 5 [] true (dI v5.1)), (9, .val (i64 (v4.2.length : Int))), (12, .val (i64 v15.1)), (97, .val (.bool x24))] ?_ fun hy => ?_
  rotate_left
  · clear h
    by_cases hp17 : ¬ v14.2 = 0
    · rw [if_pos hp17] at hx24
      have hp17b : ieq v14.2 0 = false := by simpa [ieq, ilt, ile] using hp17
      have hp17s := hp17b
      try simp at hp17s
      cases hx24
      refine VW.wds tau_ok Sound.none try_mixed [some 66, some 67, some 68, some 69, some 70, some 71, some 72, some 73, some 74, some 75, some 76, some 77, some 78, some 79, some 80, some 81, some 82, some 83, some 84, some 85, some 86, some 87, some 88, some 89, some 90, some 91, some 92, some 93, some 94, some 95, some 96, some 97] _ 32 rfl (by kernel_rfl) (by rfl) ?_ hy
      simp [hp17b, hp17s] <;> simp [ieq, ilt, ile]
    · rw [if_neg hp17] at hx24
      have hp17b : ieq v14.2 0 = true := by simpa [ieq, ilt, ile] using hp17
      have hp17s := hp17b
      try simp at hp17s
      by_cases hp18 : ¬ v15.2 = 0
      · rw [if_pos hp18] at hx24
        have hp18b : ieq v15.2 0 = false := by simpa [ieq, ilt, ile] using hp18
        have hp18s := hp18b
        try simp at hp18s
        cases hx24
        refine VW.wds tau_ok Sound.none try_mixed [some 66, some 67, some 68, some 69, some 70, some 71, some 72, some 73, some 74, some 75, some 76, some 77, some 78, some 79, some 80, some 81, some 82, some 83, some 84, some 85, some 86, some 87, some 88, some 89, some 90, some 91, some 92, some 93, some 94, some 95, some 96, some 97] _ 32 rfl (by kernel_rfl) (by rfl) ?_ hy
        simp [hp17b, hp17s, hp18b, hp18s] <;> simp [ieq, ilt, ile]
      · rw [if_neg hp18] at hx24
        have hp18b : ieq v15.2 0 = true := by simpa [ieq, ilt, ile] using hp18
        have hp18s := hp18b
        try simp at hp18s
        by_cases hp19 : ¬ (v5.1.length : Int) = (w64 ((v4.2.length : Int) + 1))
        · rw [if_pos hp19] at hx24
          have hp19b : ieq (v5.1.length : Int) (w64 ((v4.2.length : Int) + 1)) = false := by simpa [ieq, ilt, ile] using hp19
          have hp19s := hp19b
          try simp at hp19s
          cases hx24
          refine VW.wds tau_ok Sound.none try_mixed [some 66, some 67, some 68, some 69, some 70, some 71, some 72, some 73, some 74, some 75, some 76, some 77, some 78, some 79, some 80, some 81, some 82, some 83, some 84, some 85, some 86, some 87, some 88, some 89, some 90, some 91, some 92, some 93, some 94, some 95, some 96, some 97] _ 32 rfl (by kernel_rfl) (by rfl) ?_ hy
          simp [hp17b, hp17s, hp18b, hp18s, hp19b, hp19s] <;> simp [ieq, ilt, ile]
        · rw [if_neg hp19] at hx24
          have hp19b : ieq (v5.1.length : Int) (w64 ((v4.2.length : Int) + 1)) = true := by simpa [ieq, ilt, ile] using hp19
          have hp19s := hp19b
          try simp at hp19s
          obtain ⟨v20, hv20, hx24⟩ := bind_some hx24
          obtain ⟨hv20a, hv20b, hv20c, hv20d⟩ := idx_some hv20
          replace hv20b : v4.2.length < v5.1.length := hv20b
          replace hv20c : v5.1[v4.2.length]? = some v20 := hv20c
          replace hv20d : ∀ h, v5.1[v4.2.length]'h = v20 := hv20d
          by_cases hp21 : ¬ v20 = 1
          · rw [if_pos hp21] at hx24
            have hp21b : ieq v20 1 = false := by simpa [ieq, ilt, ile] using hp21
            have hp21s := hp21b
            try simp at hp21s
            cases hx24
            refine VW.wds tau_ok Sound.none try_mixed [some 66, some 67, some 68, some 69, some 70, some 71, some 72, some 73, some 74, some 75, some 76, some 77, some 78, some 79, some 80, some 81, some 82, some 83, some 84, some 85, some 86, some 87, some 88, some 89, some 90, some 91, some 92, some 93, some 94, some 95, some 96, some 97] _ 32 rfl (by kernel_rfl) (by rfl) ?_ hy
            simp [hp17b, hp17s, hp18b, hp18s, hp19b, hp19s, hv20a, hv20b, hv20c, hv20d, hp21b, hp21s] <;> simp [ieq, ilt, ile]
          · rw [if_neg hp21] at hx24
            have hp21b : ieq v20 1 = true := by simpa [ieq, ilt, ile] using hp21
            have hp21s := hp21b
            try simp at hp21s
            obtain ⟨v22, hv22, hx24⟩ := bind_some hx24
            obtain ⟨hv22a, hv22b, hv22c, hv22d⟩ := idx_some hv22
            obtain ⟨v23, hv23, hx24⟩ := bind_some hx24
            cases hx24
            refine VW.wds tau_ok (Sound.none.add 95 (l_mod5_ok hv23) rfl) try_mixed [some 66, some 67, some 68, some 69, some 70, some 71, some 72, some 73, some 74, some 75, some 76, some 77, some 78, some 79, some 80, some 81, some 82, some 83, some 84, some 85, some 86, some 87, some 88, some 89, some 90, some 91, some 92, some 93, some 94, some 95, some 96, some 97] _ 32 rfl (by kernel_rfl) (by rfl) ?_ hy
            simp [hp17b, hp17s, hp18b, hp18s, hp19b, hp19s, hv20a, hv20b, hv20c, hv20d, hp21b, hp21s, hv22a, hv22b, hv22c, hv22d] <;> simp [ieq, ilt, ile]
  refine VW.cond rfl (fun hb25 => ?_) (fun hb25 => ?_)
  ·
    replace hb25 : x24 = true := by simpa [ieq, ilt, ile] using hb25
    rw [if_pos hb25] at h
    -- region 14
    refine VW.ws tau_ok Sound.none [some 2] [(2, .val (.bool false))] rfl ?_ ?_
    · simp <;> simp [ieq, ilt, ile]
    cases h
    refine VW.ret ?_
    simp [Post, PostM, PostC, PostC2, Nx, Bk]
  replace hb25 : ¬ (x24 = true) := by simpa [ieq, ilt, ile] using hb25
  rw [if_neg hb25] at h
  refine VW.skip ?_
  refine hK16 _ ?_
  refine VW.sqc fun K26 hK26 hCK26 => ?_
  -- region 15
  refine VW.ws tau_ok Sound.none [some 98, some 99, some 100] [(3, .val (i64 v4.1)), (4, .val (dM v4.2)), (5, .ref 5 [] true (dI v5.1)), (9, .val (i64 (v4.2.length : Int))), (12, .val (i64 v15.1)), (100, .val (.bool (ieq ((v4.2.length : Int).tmod 2) 1)))] rfl ?_ ?_
  · simp <;> simp [ieq, ilt, ile]
  obtain ⟨x27, hx27, h⟩ := bind_some h
  refine VW.tlE [(3, .val (i64 v4.1)), (4, .val (dM v4.2)), (5, .ref 5 [] true (dI v5.1)), (9, .val (i64 (v4.2.length : Int))), (12, .val (i64 x27))] (hCK26) ?_ ?_
  · clear hx27
    refine hK26 _ ?_
    refine VW.sqc fun K31 hK31 hCK31 => ?_
    -- region 17
    obtain ⟨v32, hv32, h⟩ := bind_some h
    obtain ⟨hv32a, hv32b, hv32c, hv32d⟩ := idx_some hv32
    replace hv32b : 0 < v5.1.length := hv32b
    replace hv32c : v5.1[0]? = some v32 := hv32c
    replace hv32d : ∀ h, v5.1[0]'h = v32 := hv32d
    refine VW.ws tau_ok Sound.none [some 105, some 106, some 107, some 108, some 109] [(3, .val (i64 v4.1)), (4, .val (dM v4.2)), (5, .ref 5 [] true (dI v5.1)), (9, .val (i64 (v4.2.length : Int))), (109, .val (.bool (!(ieq v32 x27))))] rfl ?_ ?_
    · simp [hv32a, hv32b, hv32c, hv32d] <;> simp [ieq, ilt, ile]
    refine VW.cond rfl (fun hb33 => ?_) (fun hb33 => ?_)
    ·
      replace hb33 : ¬ v32 = x27 := by simpa [ieq, ilt, ile] using hb33
      rw [if_pos hb33] at h
      -- region 18
      refine VW.ws tau_ok Sound.none [some 2] [(2, .val (.bool false))] rfl ?_ ?_
      · simp <;> simp [ieq, ilt, ile]
      cases h
      refine VW.ret ?_
      simp [Post, PostM, PostC, PostC2, Nx, Bk]
    replace hb33 : ¬ (¬ v32 = x27) := by simpa [ieq, ilt, ile] using hb33
    rw [if_neg hb33] at h
    refine VW.skip ?_
    refine hK31 _ ?_
    -- region 19
    obtain ⟨hc34, h⟩ := chk_some h
    have hc34s := hc34
    try simp at hc34s
    refine VW.ws tau_ok Sound.none [some 110, some 111, some 14] [(3, .val (i64 v4.1)), (4, .val (dM v4.2)), (5, .ref 5 [] true (dI v5.1)), (9, .val (i64 (v4.2.length : Int))), (14, .ref 14 [] true (dM (List.replicate (v4.2.length : Int).toNat [])))] rfl ?_ ?_
    · simp [hc34, hc34s] <;> simp [ieq, ilt, ile]
    refine VW.sqc fun K35 hK35 hCK35 => ?_
    -- region 20
    refine VW.ws tau_ok Sound.none [some 15] [(3, .val (i64 v4.1)), (4, .val (dM v4.2)), (5, .ref 5 [] true (dI v5.1)), (9, .val (i64 (v4.2.length : Int))), (14, .ref 14 [] true (dM (List.replicate (v4.2.length : Int).toNat []))), (15, .val (i64 0))] rfl ?_ ?_
    · simp <;> simp [ieq, ilt, ile]
    obtain ⟨x36, hx36, h⟩ := bind_some h
    refine VW.tlE [(3, .val (i64 v4.1)), (4, .val (dM v4.2)), (5, .ref 5 [] true (dI v5.1)), (9, .val (i64 (v4.2.length : Int))), (14, .ref 14 [] true (dM x36))] (hCK35) ?_ ?_
    · clear hx36
      refine hK35 _ ?_
      refine VW.sqc fun K43 hK43 hCK43 => ?_
      -- region 24
      refine VW.ws tau_ok Sound.none [some 16] [(3, .val (i64 v4.1)), (4, .val (dM v4.2)), (5, .ref 5 [] true (dI v5.1)), (9, .val (i64 (v4.2.length : Int))), (14, .ref 14 [] true (dM x36)), (16, .val (i64 0))] rfl ?_ ?_
      · simp <;> simp [ieq, ilt, ile]
      obtain ⟨x44, hx44, h⟩ := bind_some h
      refine VW.tlO (fun y46 => [(9, .val (i64 (v4.2.length : Int))), (14, .ref 14 [] true (dM y46))]) x44 (hCK43) ?_ ?_
      · clear hx44
        rintro y46 rfl
        dsimp only at h
        refine hK43 _ ?_
        refine VW.sqc fun K67 hK67 hCK67 => ?_
        -- region 37
        refine VW.ws tau_ok Sound.none [some 21] [(9, .val (i64 (v4.2.length : Int))), (14, .ref 14 [] true (dM y46)), (21, .val (i64 0))] rfl ?_ ?_
        · simp <;> simp [ieq, ilt, ile]
        obtain ⟨x68, hx68, h⟩ := bind_some h
        refine VW.tlO (fun y70 => []) x68 (hCK67) ?_ ?_
        · clear hx68
          rintro y70 rfl
          dsimp only at h
          refine hK67 _ ?_
          -- region 42
          refine VW.ws tau_ok Sound.none [some 2] [(2, .val (.bool true))] rfl ?_ ?_
          · simp <;> simp [ieq, ilt, ile]
          cases h
          refine VW.ret ?_
          simp [Post, PostM, PostC, PostC2, Nx, Bk]
        refine VW.block ?_
        refine VW.loopF (l_FnCharacteristics_L3 v4 y46) (fun s68 => [(9, .val (i64 (v4.2.length : Int))), (14, .ref 14 [] true (dM y46)), (21, .val (i64 s68))]) hx68 (Fits.of rfl) ?_
        clear hx68
        intro s68 ox68 hx68o hx68b
        unfold l_FnCharacteristics_L3 at hx68o
        refine VW.sqc fun K71 hK71 hCK71 => ?_
        -- region 38
        refine VW.ws tau_ok Sound.none [some 169, some 170, some 171] [(9, .val (i64 (v4.2.length : Int))), (14, .ref 14 [] true (dM y46)), (21, .val (i64 s68)), (171, .val (.bool (ilt s68 (v4.2.length : Int))))] rfl ?_ ?_
        · simp <;> simp [ieq, ilt, ile]
        refine VW.cond rfl (fun hb72 => ?_) (fun hb72 => ?_)
        rotate_left
        ·
          replace hb72 : ¬ (s68 < (v4.2.length : Int)) := by simpa [ieq, ilt, ile] using hb72
          rw [if_neg hb72] at hx68o
          refine VW.exit ?_
          cases hx68o
          have hq := hx68b _ rfl
          subst hq
          exact ⟨_, rfl, Fits.of rfl⟩
        replace hb72 : s68 < (v4.2.length : Int) := by simpa [ieq, ilt, ile] using hb72
        rw [if_pos hb72] at hx68o
        refine VW.skip ?_
        refine hK71 _ ?_
        refine VW.sqc fun K73 hK73 hCK73 => ?_
        refine VW.block ?_
        -- region 40
        obtain ⟨v74, hv74, hx68o⟩ := bind_some hx68o
        obtain ⟨hv74a, hv74b, hv74c, hv74d⟩ := idx_some hv74
        obtain ⟨v75, hv75, hx68o⟩ := bind_some hx68o
        refine VW.ws tau_ok (Sound.none.add 178 (l_zero5_ok hv75) rfl) [some 174, some 175, some 176, some 177, some 178, some 179] [(9, .val (i64 (v4.2.length : Int))), (14, .ref 14 [] true (dM y46)), (21, .val (i64 s68)), (179, .val (.bool (!v75)))] rfl ?_ ?_
        · simp [hv74a, hv74b, hv74c, hv74d] <;> simp [ieq, ilt, ile]
        refine VW.cond rfl (fun hb76 => ?_) (fun hb76 => ?_)
        rotate_left
        ·
          replace hb76 : ¬ (v75 = false) := by simpa [ieq, ilt, ile] using hb76
          rw [if_neg hb76] at hx68o
          refine VW.skip ?_
          refine hK73 _ ?_
          -- region 39
          refine VW.wr tau_ok Sound.none [some 172, some 173, some 21] [(9, .val (i64 (v4.2.length : Int))), (14, .ref 14 [] true (dM y46)), (21, .val (i64 (w64 (s68 + 1))))] rfl ?_ ?_
          · simp <;> simp [ieq, ilt, ile]
          cases hx68o
          exact ⟨_, rfl, Fits.of rfl⟩
        replace hb76 : v75 = false := by simpa [ieq, ilt, ile] using hb76
        rw [if_pos hb76] at hx68o
        -- region 41
        refine VW.ws tau_ok Sound.none [some 2] [(2, .val (.bool false))] rfl ?_ ?_
        · simp <;> simp [ieq, ilt, ile]
        cases hx68o
        have hq := hx68b _ rfl
        subst hq
        dsimp only at h
        cases h
        refine VW.ret ?_
        simp [Post, PostM, PostC, PostC2, Nx, Bk]
      refine VW.block ?_
      refine VW.loopF (l_FnCharacteristics_L1 v4 v5) (fun s44 => [(3, .val (i64 v4.1)), (4, .val (dM v4.2)), (5, .ref 5 [] true (dI v5.1)), (9, .val (i64 (v4.2.length : Int))), (14, .ref 14 [] true (dM s44.1)), (16, .val (i64 s44.2))]) hx44 (Fits.of rfl) ?_
      clear hx44
      intro s44 ox44 hx44o hx44b
      unfold l_FnCharacteristics_L1 at hx44o
      refine VW.sqc fun K47 hK47 hCK47 => ?_
      -- region 25
      refine VW.ws tau_ok Sound.none [some 122, some 123, some 124] [(3, .val (i64 v4.1)), (4, .val (dM v4.2)), (5, .ref 5 [] true (dI v5.1)), (9, .val (i64 (v4.2.length : Int))), (14, .ref 14 [] true (dM s44.1)), (16, .val (i64 s44.2)), (124, .val (.bool (ile s44.2 (v4.2.length : Int))))] rfl ?_ ?_
      · simp <;> simp [ieq, ilt, ile]
      refine VW.cond rfl (fun hb48 => ?_) (fun hb48 => ?_)
      rotate_left
      ·
        replace hb48 : ¬ (s44.2 ≤ (v4.2.length : Int)) := by simpa [ieq, ilt, ile] using hb48
        rw [if_neg hb48] at hx44o
        refine VW.exit ?_
        cases hx44o
        have hq := hx44b _ rfl
        subst hq
        exact ⟨_, rfl, Fits.of rfl⟩
      replace hb48 : s44.2 ≤ (v4.2.length : Int) := by simpa [ieq, ilt, ile] using hb48
      rw [if_pos hb48] at hx44o
      refine VW.skip ?_
      refine hK47 _ ?_
      refine VW.sqc fun K49 hK49 hCK49 => ?_
      refine VW.block ?_
      -- region 27
      obtain ⟨v50, hv50, hx44o⟩ := bind_some hx44o
      refine VW.ws tau_ok (Sound.none.add 131 (i_PowerMatrix_ok hv50) rfl) [some 128, some 129, some 130, some 131, some 127, some 132, some 133, some 17, some 18] [(3, .val (i64 v4.1)), (4, .val (dM v4.2)), (5, .ref 5 [] true (dI v5.1)), (9, .val (i64 (v4.2.length : Int))), (14, .ref 14 [] true (dM s44.1)), (16, .val (i64 s44.2)), (17, .ref 17 [] true (dM v50.1)), (18, .val (i64 v50.2))] rfl ?_ ?_
      · simp <;> simp [ieq, ilt, ile]
      refine VW.sqc fun K51 hK51 hCK51 => ?_
      -- region 28
      obtain ⟨x53, hx53, hx44o⟩ := bind_some hx44o
      refine VW.cut [(3, .val (i64 v4.1)), (4, .val (dM v4.2)), (5, .ref 5 [] true (dI v5.1)), (9, .val (i64 (v4.2.length : Int))), (14, .ref 14 [] true (dM s44.1)), (16, .val (i64 s44.2)), (17, .ref 17 [] true (dM v50.1)), (141, .val (.bool x53))] ?_ fun hy => ?_
      rotate_left
      · clear hx44o
        by_cases hp52 : ¬ v50.2 = 0
        · rw [if_pos hp52] at hx53
          have hp52b : ieq v50.2 0 = false := by simpa [ieq, ilt, ile] using hp52
          have hp52s := hp52b
          try simp at hp52s
          cases hx53
          refine VW.ws tau_ok Sound.none [some 134, some 135, some 136, some 137, some 138, some 139, some 140, some 141] _ rfl ?_ hy
          simp [hp52b, hp52s] <;> simp [ieq, ilt, ile]
        · rw [if_neg hp52] at hx53
          have hp52b : ieq v50.2 0 = true := by simpa [ieq, ilt, ile] using hp52
          have hp52s := hp52b
          try simp at hp52s
          cases hx53
          refine VW.ws tau_ok Sound.none [some 134, some 135, some 136, some 137, some 138, some 139, some 140, some 141] _ rfl ?_ hy
          simp [hp52b, hp52s] <;> simp [ieq, ilt, ile]
      refine VW.cond rfl (fun hb54 => ?_) (fun hb54 => ?_)
      ·
        replace hb54 : x53 = true := by simpa [ieq, ilt, ile] using hb54
        rw [if_pos hb54] at hx44o
        -- region 29
        refine VW.ws tau_ok Sound.none [some 2] [(2, .val (.bool false))] rfl ?_ ?_
        · simp <;> simp [ieq, ilt, ile]
        cases hx44o
        have hq := hx44b _ rfl
        subst hq
        dsimp only at h
        cases h
        refine VW.ret ?_
        simp [Post, PostM, PostC, PostC2, Nx, Bk]
      replace hb54 : ¬ (x53 = true) := by simpa [ieq, ilt, ile] using hb54
      rw [if_neg hb54] at hx44o
      refine VW.skip ?_
      refine hK51 _ ?_
      -- region 30
      refine VW.ws tau_ok Sound.none [some 19] [(3, .val (i64 v4.1)), (4, .val (dM v4.2)), (5, .ref 5 [] true (dI v5.1)), (9, .val (i64 (v4.2.length : Int))), (14, .ref 14 [] true (dM s44.1)), (16, .val (i64 s44.2)), (17, .ref 17 [] true (dM v50.1)), (19, .val (i64 0))] rfl ?_ ?_
      · simp <;> simp [ieq, ilt, ile]
      obtain ⟨x55, hx55, hx44o⟩ := bind_some hx44o
      refine VW.tlO (fun y57 => [(3, .val (i64 v4.1)), (4, .val (dM v4.2)), (5, .ref 5 [] true (dI v5.1)), (9, .val (i64 (v4.2.length : Int))), (14, .ref 14 [] true (dM y57)), (16, .val (i64 s44.2))]) x55 (hCK49) ?_ ?_
      · clear hx55
        rintro y57 rfl
        dsimp only at hx44o
        refine hK49 _ ?_
        -- region 26
        refine VW.wr tau_ok Sound.none [some 125, some 126, some 16] [(3, .val (i64 v4.1)), (4, .val (dM v4.2)), (5, .ref 5 [] true (dI v5.1)), (9, .val (i64 (v4.2.length : Int))), (14, .ref 14 [] true (dM y57)), (16, .val (i64 (w64 (s44.2 + 1))))] rfl ?_ ?_
        · simp <;> simp [ieq, ilt, ile]
        cases hx44o
        exact ⟨_, rfl, Fits.of rfl⟩
      refine VW.block ?_
      refine VW.loopF (l_FnCharacteristics_L2 v4 v5 s44 v50) (fun s55 => [(3, .val (i64 v4.1)), (4, .val (dM v4.2)), (5, .ref 5 [] true (dI v5.1)), (9, .val (i64 (v4.2.length : Int))), (14, .ref 14 [] true (dM s55.1)), (16, .val (i64 s44.2)), (17, .ref 17 [] true (dM v50.1)), (19, .val (i64 s55.2))]) hx55 (Fits.of rfl) ?_
      clear hx55
      intro s55 ox55 hx55o hx55b
      unfold l_FnCharacteristics_L2 at hx55o
      refine VW.sqc fun K58 hK58 hCK58 => ?_
      -- region 31
      refine VW.ws tau_ok Sound.none [some 142, some 143, some 144] [(3, .val (i64 v4.1)), (4, .val (dM v4.2)), (5, .ref 5 [] true (dI v5.1)), (9, .val (i64 (v4.2.length : Int))), (14, .ref 14 [] true (dM s55.1)), (16, .val (i64 s44.2)), (17, .ref 17 [] true (dM v50.1)), (19, .val (i64 s55.2)), (144, .val (.bool (ilt s55.2 (v4.2.length : Int))))] rfl ?_ ?_
      · simp <;> simp [ieq, ilt, ile]
      refine VW.cond rfl (fun hb59 => ?_) (fun hb59 => ?_)
      rotate_left
      ·
        replace hb59 : ¬ (s55.2 < (v4.2.length : Int)) := by simpa [ieq, ilt, ile] using hb59
        rw [if_neg hb59] at hx55o
        refine VW.exit ?_
        cases hx55o
        have hq := hx55b _ rfl
        subst hq
        exact ⟨_, rfl, Fits.of rfl⟩
      replace hb59 : s55.2 < (v4.2.length : Int) := by simpa [ieq, ilt, ile] using hb59
      rw [if_pos hb59] at hx55o
      refine VW.skip ?_
      refine hK58 _ ?_
      refine VW.sqc fun K60 hK60 hCK60 => ?_
      refine VW.block ?_
      -- region 33
      obtain ⟨v61, hv61, hx55o⟩ := bind_some hx55o
      obtain ⟨hv61a, hv61b, hv61c, hv61d⟩ := idx_some hv61
      obtain ⟨v62, hv62, hx55o⟩ := bind_some hx55o
      obtain ⟨hv62a, hv62b, hv62c, hv62d⟩ := idx_some hv62
      obtain ⟨v63, hv63, hx55o⟩ := bind_some hx55o
      obtain ⟨hv63a, hv63b, hv63c, hv63d⟩ := idx_some hv63
      obtain ⟨v64, hv64, hx55o⟩ := bind_some hx55o
      refine VW.wds tau_ok (Sound.none.add 160 (l_plus5_ok hv64) rfl) try_mixed [some 147, some 148, some 149, some 150, some 151, some 152, some 153, some 154, some 155, some 156, some 157, some 158, some 159, some 160, some 20] [(3, .val (i64 v4.1)), (4, .val (dM v4.2)), (5, .ref 5 [] true (dI v5.1)), (9, .val (i64 (v4.2.length : Int))), (14, .ref 14 [] true (dM s55.1)), (16, .val (i64 s44.2)), (17, .ref 17 [] true (dM v50.1)), (19, .val (i64 s55.2)), (20, .ref 20 [] true (dI v64))] 14 rfl (by kernel_rfl) (by rfl) ?_ ?_
      · simp [hv61a, hv61b, hv61c, hv61d, hv62a, hv62b, hv62c, hv62d, hv63a, hv63b, hv63c, hv63d] <;> simp [ieq, ilt, ile]
      refine VW.sqc fun K65 hK65 hCK65 => ?_
      -- region 34
      refine VW.ws tau_ok Sound.none [some 161, some 162, some 163, some 164] [(3, .val (i64 v4.1)), (4, .val (dM v4.2)), (5, .ref 5 [] true (dI v5.1)), (9, .val (i64 (v4.2.length : Int))), (14, .ref 14 [] true (dM s55.1)), (16, .val (i64 s44.2)), (17, .ref 17 [] true (dM v50.1)), (19, .val (i64 s55.2)), (20, .ref 20 [] true (dI v64)), (164, .val (.bool (!(ieq (v64.length : Int) (v4.2.length : Int)))))] rfl ?_ ?_
      · simp <;> simp [ieq, ilt, ile]
      refine VW.cond rfl (fun hb66 => ?_) (fun hb66 => ?_)
      rotate_left
      ·
        replace hb66 : ¬ (¬ (v64.length : Int) = (v4.2.length : Int)) := by simpa [ieq, ilt, ile] using hb66
        rw [if_neg hb66] at hx55o
        refine VW.skip ?_
        refine hK65 _ ?_
        -- region 36
        refine VW.wr tau_ok Sound.none [some 165, some 166, some 167, some 168, none] [(3, .val (i64 v4.1)), (4, .val (dM v4.2)), (5, .ref 5 [] true (dI v5.1)), (9, .val (i64 (v4.2.length : Int))), (14, .ref 14 [] true (dM (s55.1.set s55.2.toNat v64))), (16, .val (i64 s44.2)), (17, .ref 17 [] true (dM v50.1)), (19, .val (i64 s55.2))] rfl ?_ ?_
        · simp [hv61a, hv61b, hv61c, hv61d] <;> simp [ieq, ilt, ile]
        refine hK60 _ ?_
        -- region 32
        refine VW.wr tau_ok Sound.none [some 145, some 146, some 19] [(3, .val (i64 v4.1)), (4, .val (dM v4.2)), (5, .ref 5 [] true (dI v5.1)), (9, .val (i64 (v4.2.length : Int))), (14, .ref 14 [] true (dM (s55.1.set s55.2.toNat v64))), (16, .val (i64 s44.2)), (17, .ref 17 [] true (dM v50.1)), (19, .val (i64 (w64 (s55.2 + 1))))] rfl ?_ ?_
        · simp <;> simp [ieq, ilt, ile]
        cases hx55o
        exact ⟨_, rfl, Fits.of rfl⟩
      replace hb66 : ¬ (v64.length : Int) = (v4.2.length : Int) := by simpa [ieq, ilt, ile] using hb66
      rw [if_pos hb66] at hx55o
      -- region 35
      refine VW.ws tau_ok Sound.none [some 2] [(2, .val (.bool false))] rfl ?_ ?_
      · simp <;> simp [ieq, ilt, ile]
      cases hx55o
      have hq := hx55b _ rfl
      subst hq
      dsimp only at hx44o
      cases hx44o
      have hq := hx44b _ rfl
      subst hq
      dsimp only at h
      cases h
      refine VW.ret ?_
      simp [Post, PostM, PostC, PostC2, Nx, Bk]
    refine VW.block ?_
    refine VW.loopF (l_FnCharacteristics_L0 v4) (fun s36 => [(3, .val (i64 v4.1)), (4, .val (dM v4.2)), (5, .ref 5 [] true (dI v5.1)), (9, .val (i64 (v4.2.length : Int))), (14, .ref 14 [] true (dM s36.1)), (15, .val (i64 s36.2))]) hx36 (Fits.of rfl) ?_
    clear hx36
    intro s36 ox36 hx36o hx36b
    unfold l_FnCharacteristics_L0 at hx36o
    refine VW.sqc fun K38 hK38 hCK38 => ?_
    -- region 21
    refine VW.ws tau_ok Sound.none [some 112, some 113, some 114] [(3, .val (i64 v4.1)), (4, .val (dM v4.2)), (5, .ref 5 [] true (dI v5.1)), (9, .val (i64 (v4.2.length : Int))), (14, .ref 14 [] true (dM s36.1)), (15, .val (i64 s36.2)), (114, .val (.bool (ilt s36.2 (v4.2.length : Int))))] rfl ?_ ?_
    · simp <;> simp [ieq, ilt, ile]
    refine VW.cond rfl (fun hb39 => ?_) (fun hb39 => ?_)
    rotate_left
    ·
      replace hb39 : ¬ (s36.2 < (v4.2.length : Int)) := by simpa [ieq, ilt, ile] using hb39
      rw [if_neg hb39] at hx36o
      refine VW.exit ?_
      cases hx36o
      have hq := hx36b _ rfl
      subst hq
      exact Fits.of rfl
    replace hb39 : s36.2 < (v4.2.length : Int) := by simpa [ieq, ilt, ile] using hb39
    rw [if_pos hb39] at hx36o
    refine VW.skip ?_
    refine hK38 _ ?_
    refine VW.sqc fun K40 hK40 hCK40 => ?_
    refine VW.block ?_
    -- region 23
    obtain ⟨hc41, hx36o⟩ := chk_some hx36o
    have hc41s := hc41
    try simp at hc41s
    obtain ⟨v42, hv42, hx36o⟩ := bind_some hx36o
    obtain ⟨hv42a, hv42b, hv42c, hv42d⟩ := idx_some hv42
    refine VW.wr tau_ok Sound.none [some 117, some 118, some 119, some 120, some 121, none] [(3, .val (i64 v4.1)), (4, .val (dM v4.2)), (5, .ref 5 [] true (dI v5.1)), (9, .val (i64 (v4.2.length : Int))), (14, .ref 14 [] true (dM (s36.1.set s36.2.toNat (List.replicate (v4.2.length : Int).toNat 0)))), (15, .val (i64 s36.2))] rfl ?_ ?_
    · simp [hc41, hc41s, hv42a, hv42b, hv42c, hv42d] <;> simp [ieq, ilt, ile]
    refine hK40 _ ?_
    -- region 22
    refine VW.wr tau_ok Sound.none [some 115, some 116, some 15] [(3, .val (i64 v4.1)), (4, .val (dM v4.2)), (5, .ref 5 [] true (dI v5.1)), (9, .val (i64 (v4.2.length : Int))), (14, .ref 14 [] true (dM (s36.1.set s36.2.toNat (List.replicate (v4.2.length : Int).toNat 0)))), (15, .val (i64 (w64 (s36.2 + 1))))] rfl ?_ ?_
    · simp <;> simp [ieq, ilt, ile]
    cases hx36o
    exact ⟨_, rfl, Fits.of rfl⟩
  refine VW.cond rfl (fun hb29 => ?_) (fun hb29 => ?_)
  rotate_left
  ·
    replace hb29 : ¬ (((v4.2.length : Int).tmod 2) = 1) := by simpa [ieq, ilt, ile] using hb29
    rw [if_neg hb29] at hx27
    refine VW.skip ?_
    cases hx27
    exact Fits.of rfl
  replace hb29 : ((v4.2.length : Int).tmod 2) = 1 := by simpa [ieq, ilt, ile] using hb29
  rw [if_pos hb29] at hx27
  -- region 16
  obtain ⟨v30, hv30, hx27⟩ := bind_some hx27
  refine VW.wr tau_ok (Sound.none.add 104 (l_mod5_ok hv30) rfl) [some 101, some 102, some 103, some 104, some 12] [(3, .val (i64 v4.1)), (4, .val (dM v4.2)), (5, .ref 5 [] true (dI v5.1)), (9, .val (i64 (v4.2.length : Int))), (12, .val (i64 v30))] rfl ?_ ?_
  · simp <;> simp [ieq, ilt, ile]
  cases hx27
  exact Fits.of rfl
end Go.Vam
