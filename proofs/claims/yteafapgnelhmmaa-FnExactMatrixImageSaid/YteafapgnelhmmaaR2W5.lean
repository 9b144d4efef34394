import Derived.Test.YteafapgnelhmmaaR2T
import Derived.Test.YteafapgnelhmmaaFnD
import Derived.Test.YteafapgnelhmmaaR2W1
import Derived.Test.YteafapgnelhmmaaR2W2
import Derived.Test.YteafapgnelhmmaaR2W3
import Derived.Test.YteafapgnelhmmaaR2W4
namespace Go.Vam
open Go Go.RowKit Go.Proofs
set_option maxRecDepth 100000
set_option linter.unusedSimpArgs false
set_option linter.unusedVariables false

theorem s_l02Is_ok {a0 : Int} {a1 : List (List Int)} {r : Bool} (h : s_l02Is a0 a1 = some r) :
    VCall Try.prog 82 [i64 a0, dM a1] [.sc (.bool r)] := by
  unfold s_l02Is at h
  refine VCall.enter Try.call82 Try.func82 rfl 58 Try.ntmps82 (by simp) [.tmp 4] rfl ?_
  show VW _ _ _ (mk [(0, .val (i64 a0)), (1, .val (dM a1))]) _
  -- region 0
  refine VW.ws tau_ok Sound.none [some 4] [(0, .val (i64 a0)), (1, .val (dM a1))] rfl ?_ ?_
  · simp <;> simp [ieq, ilt, ile]
  refine VW.sqc fun K1 hK1 hCK1 => ?_
  -- region 1
  obtain ⟨x8, hx8, h⟩ := bind_some h
  refine VW.cut [(0, .val (i64 a0)), (1, .val (dM a1)), (32, .val (.bool x8))] ?_ fun hy => ?_
  rotate_left
  · clear h
    obtain ⟨v2, hv2, hx8⟩ := bind_some hx8
    by_cases hp3 : v2 = false
    · rw [if_pos hp3] at hx8
      have hp3b : v2 = false := by simpa [ieq, ilt, ile] using hp3
      have hp3s := hp3b
      try simp at hp3s
      cases hx8
      refine VW.ws tau_ok (Sound.none.add 7 (s_l01Prime_ok hv2) rfl) [some 6, some 7, some 8, some 9, some 10, some 11, some 12, some 13, some 14, some 15, some 16, some 17, some 18, some 19, some 20, some 21, some 22, some 23, some 24, some 25, some 26, some 27, some 28, some 29, some 30, some 31, some 32] _ rfl ?_ hy
      simp [hp3b, hp3s] <;> simp [ieq, ilt, ile]
    · rw [if_neg hp3] at hx8
      have hp3b : v2 = true := by simpa [ieq, ilt, ile] using hp3
      have hp3s := hp3b
      try simp at hp3s
      by_cases hp4 : (a1.length : Int) < 1
      · rw [if_pos hp4] at hx8
        have hp4b : ilt (a1.length : Int) 1 = true := by simpa [ieq, ilt, ile] using hp4
        have hp4s := hp4b
        try simp at hp4s
        cases hx8
        refine VW.ws tau_ok (Sound.none.add 7 (s_l01Prime_ok hv2) rfl) [some 6, some 7, some 8, some 9, some 10, some 11, some 12, some 13, some 14, some 15, some 16, some 17, some 18, some 19, some 20, some 21, some 22, some 23, some 24, some 25, some 26, some 27, some 28, some 29, some 30, some 31, some 32] _ rfl ?_ hy
        simp [hp3b, hp3s, hp4b, hp4s] <;> simp [ieq, ilt, ile]
      · rw [if_neg hp4] at hx8
        have hp4b : ilt (a1.length : Int) 1 = false := by simpa [ieq, ilt, ile] using hp4
        have hp4s := hp4b
        try simp at hp4s
        by_cases hp5 : 16 < (a1.length : Int)
        · rw [if_pos hp5] at hx8
          have hp5b : ilt 16 (a1.length : Int) = true := by simpa [ieq, ilt, ile] using hp5
          have hp5s := hp5b
          try simp at hp5s
          cases hx8
          refine VW.ws tau_ok (Sound.none.add 7 (s_l01Prime_ok hv2) rfl) [some 6, some 7, some 8, some 9, some 10, some 11, some 12, some 13, some 14, some 15, some 16, some 17, some 18, some 19, some 20, some 21, some 22, some 23, some 24, some 25, some 26, some 27, some 28, some 29, some 30, some 31, some 32] _ rfl ?_ hy
          simp [hp3b, hp3s, hp4b, hp4s, hp5b, hp5s] <;> simp [ieq, ilt, ile]
        · rw [if_neg hp5] at hx8
          have hp5b : ilt 16 (a1.length : Int) = false := by simpa [ieq, ilt, ile] using hp5
          have hp5s := hp5b
          try simp at hp5s
          obtain ⟨v6, hv6, hx8⟩ := bind_some hx8
          obtain ⟨hv6a, hv6b, hv6c, hv6d⟩ := idx_some hv6
          replace hv6b : 0 < a1.length := hv6b
          replace hv6c : a1[0]? = some v6 := hv6c
          replace hv6d : ∀ h, a1[0]'h = v6 := hv6d
          by_cases hp7 : (v6.length : Int) < 1
          · rw [if_pos hp7] at hx8
            have hp7b : ilt (v6.length : Int) 1 = true := by simpa [ieq, ilt, ile] using hp7
            have hp7s := hp7b
            try simp at hp7s
            cases hx8
            refine VW.ws tau_ok (Sound.none.add 7 (s_l01Prime_ok hv2) rfl) [some 6, some 7, some 8, some 9, some 10, some 11, some 12, some 13, some 14, some 15, some 16, some 17, some 18, some 19, some 20, some 21, some 22, some 23, some 24, some 25, some 26, some 27, some 28, some 29, some 30, some 31, some 32] _ rfl ?_ hy
            simp [hp3b, hp3s, hp4b, hp4s, hp5b, hp5s, hv6a, hv6b, hv6c, hv6d, hp7b, hp7s] <;> simp [ieq, ilt, ile]
          · rw [if_neg hp7] at hx8
            have hp7b : ilt (v6.length : Int) 1 = false := by simpa [ieq, ilt, ile] using hp7
            have hp7s := hp7b
            try simp at hp7s
            cases hx8
            refine VW.ws tau_ok (Sound.none.add 7 (s_l01Prime_ok hv2) rfl) [some 6, some 7, some 8, some 9, some 10, some 11, some 12, some 13, some 14, some 15, some 16, some 17, some 18, some 19, some 20, some 21, some 22, some 23, some 24, some 25, some 26, some 27, some 28, some 29, some 30, some 31, some 32] _ rfl ?_ hy
            simp [hp3b, hp3s, hp4b, hp4s, hp5b, hp5s, hv6a, hv6b, hv6c, hv6d, hp7b, hp7s] <;> simp [ieq, ilt, ile]
  refine VW.cond rfl (fun hb9 => ?_) (fun hb9 => ?_)
  ·
    replace hb9 : x8 = true := by simpa [ieq, ilt, ile] using hb9
    rw [if_pos hb9] at h
    -- region 2
    refine VW.ws tau_ok Sound.none [some 4] [(4, .val (.bool false))] rfl ?_ ?_
    · simp <;> simp [ieq, ilt, ile]
    cases h
    refine VW.ret ?_
    simp [Post, PostM, PostC, PostC2, Nx, Bk]
  replace hb9 : ¬ (x8 = true) := by simpa [ieq, ilt, ile] using hb9
  rw [if_neg hb9] at h
  refine VW.skip ?_
  refine hK1 _ ?_
  refine VW.sqc fun K10 hK10 hCK10 => ?_
  -- region 3
  refine VW.ws tau_ok Sound.none [some 5] [(0, .val (i64 a0)), (1, .val (dM a1)), (5, .val (i64 0))] rfl ?_ ?_
  · simp <;> simp [ieq, ilt, ile]
  obtain ⟨x11, hx11, h⟩ := bind_some h
  refine VW.tlO (fun y13 => []) x11 (hCK10) ?_ ?_
  · clear hx11
    rintro y13 rfl
    dsimp only at h
    refine hK10 _ ?_
    -- region 8
    refine VW.ws tau_ok Sound.none [some 4] [(4, .val (.bool true))] rfl ?_ ?_
    · simp <;> simp [ieq, ilt, ile]
    cases h
    refine VW.ret ?_
    simp [Post, PostM, PostC, PostC2, Nx, Bk]
  refine VW.block ?_
  refine VW.loopF (s_l02Is_L0 a0 a1) (fun s11 => [(0, .val (i64 a0)), (1, .val (dM a1)), (5, .val (i64 s11))]) hx11 (Fits.of rfl) ?_
  clear hx11
  intro s11 ox11 hx11o hx11b
  unfold s_l02Is_L0 at hx11o
  refine VW.sqc fun K14 hK14 hCK14 => ?_
  -- region 4
  refine VW.ws tau_ok Sound.none [some 33, some 34, some 35, some 36] [(0, .val (i64 a0)), (1, .val (dM a1)), (5, .val (i64 s11)), (36, .val (.bool (ilt s11 (a1.length : Int))))] rfl ?_ ?_
  · simp <;> simp [ieq, ilt, ile]
  refine VW.cond rfl (fun hb15 => ?_) (fun hb15 => ?_)
  rotate_left
  ·
    replace hb15 : ¬ (s11 < (a1.length : Int)) := by simpa [ieq, ilt, ile] using hb15
    rw [if_neg hb15] at hx11o
    refine VW.exit ?_
    cases hx11o
    have hq := hx11b _ rfl
    subst hq
    exact ⟨_, rfl, Fits.of rfl⟩
  replace hb15 : s11 < (a1.length : Int) := by simpa [ieq, ilt, ile] using hb15
  rw [if_pos hb15] at hx11o
  refine VW.skip ?_
  refine hK14 _ ?_
  refine VW.sqc fun K16 hK16 hCK16 => ?_
  refine VW.block ?_
  -- region 6
  obtain ⟨x21, hx21, hx11o⟩ := bind_some hx11o
  refine VW.cut [(0, .val (i64 a0)), (1, .val (dM a1)), (5, .val (i64 s11)), (57, .val (.bool x21))] ?_ fun hy => ?_
  rotate_left
  · clear hx11o
    obtain ⟨v17, hv17, hx21⟩ := bind_some hx21
    obtain ⟨hv17a, hv17b, hv17c, hv17d⟩ := idx_some hv17
    obtain ⟨v18, hv18, hx21⟩ := bind_some hx21
    obtain ⟨hv18a, hv18b, hv18c, hv18d⟩ := idx_some hv18
    replace hv18b : 0 < a1.length := hv18b
    replace hv18c : a1[0]? = some v18 := hv18c
    replace hv18d : ∀ h, a1[0]'h = v18 := hv18d
    by_cases hp19 : ¬ (v17.length : Int) = (v18.length : Int)
    · rw [if_pos hp19] at hx21
      have hp19b : ieq (v17.length : Int) (v18.length : Int) = false := by simpa [ieq, ilt, ile] using hp19
      have hp19s := hp19b
      try simp at hp19s
      cases hx21
      refine VW.wds tau_ok Sound.none try_mixed [some 39, some 40, some 41, some 42, some 43, some 44, some 45, some 46, some 47, some 48, some 49, some 50, some 51, some 52, some 53, some 54, some 55, some 56, some 57] _ 19 rfl (by kernel_rfl) (by rfl) ?_ hy
      simp [hv17a, hv17b, hv17c, hv17d, hv18a, hv18b, hv18c, hv18d, hp19b, hp19s] <;> simp [ieq, ilt, ile]
    · rw [if_neg hp19] at hx21
      have hp19b : ieq (v17.length : Int) (v18.length : Int) = true := by simpa [ieq, ilt, ile] using hp19
      have hp19s := hp19b
      try simp at hp19s
      obtain ⟨v20, hv20, hx21⟩ := bind_some hx21
      cases hx21
      refine VW.wds tau_ok (Sound.none.add 55 (s_l01Numbers_ok hv20) rfl) try_mixed [some 39, some 40, some 41, some 42, some 43, some 44, some 45, some 46, some 47, some 48, some 49, some 50, some 51, some 52, some 53, some 54, some 55, some 56, some 57] _ 19 rfl (by kernel_rfl) (by rfl) ?_ hy
      simp [hv17a, hv17b, hv17c, hv17d, hv18a, hv18b, hv18c, hv18d, hp19b, hp19s] <;> simp [ieq, ilt, ile]
  refine VW.cond rfl (fun hb22 => ?_) (fun hb22 => ?_)
  rotate_left
  ·
    replace hb22 : ¬ (x21 = true) := by simpa [ieq, ilt, ile] using hb22
    rw [if_neg hb22] at hx11o
    refine VW.skip ?_
    refine hK16 _ ?_
    -- region 5
    refine VW.wr tau_ok Sound.none [some 37, some 38, some 5] [(0, .val (i64 a0)), (1, .val (dM a1)), (5, .val (i64 (w64 (s11 + 1))))] rfl ?_ ?_
    · simp <;> simp [ieq, ilt, ile]
    cases hx11o
    exact ⟨_, rfl, Fits.of rfl⟩
  replace hb22 : x21 = true := by simpa [ieq, ilt, ile] using hb22
  rw [if_pos hb22] at hx11o
  -- region 7
  refine VW.ws tau_ok Sound.none [some 4] [(4, .val (.bool false))] rfl ?_ ?_
  · simp <;> simp [ieq, ilt, ile]
  cases hx11o
  have hq := hx11b _ rfl
  subst hq
  dsimp only at h
  cases h
  refine VW.ret ?_
  simp [Post, PostM, PostC, PostC2, Nx, Bk]

theorem s_l03Disc_ok {a0_0 : Int} {a0_1 : List Int} {r : Int} (h : s_l03Disc a0_0 a0_1 = some r) :
    VCall Try.prog 153 [.agg [i64 a0_0, dI a0_1]] [.sc (i64 r)] := by
  unfold s_l03Disc at h
  refine VCall.enter Try.call153 Try.func153 rfl 23 Try.ntmps153 (by simp) [.tmp 2] rfl ?_
  show VW _ _ _ (mk [(0, .val (.agg [i64 a0_0, dI a0_1]))]) _
  -- region 0
  refine VW.ws tau_ok Sound.none [some 1, some 2] [(1, .val (.ptr [i64 a0_0, dI a0_1]))] rfl ?_ ?_
  · simp <;> simp [ieq, ilt, ile]
  -- region 1
  refine VW.ws tau_ok Sound.none [some 3] [(1, .val (.ptr [i64 a0_0, dI a0_1])), (3, .val (i64 1))] rfl ?_ ?_
  · simp <;> simp [ieq, ilt, ile]
  refine VW.sqc fun K1 hK1 hCK1 => ?_
  -- region 2
  refine VW.ws tau_ok Sound.none [some 4] [(1, .val (.ptr [i64 a0_0, dI a0_1])), (3, .val (i64 1)), (4, .val (i64 0))] rfl ?_ ?_
  · simp <;> simp [ieq, ilt, ile]
  obtain ⟨x2, hx2, h⟩ := bind_some h
  refine VW.tlE [(3, .val (i64 x2))] (hCK1) ?_ ?_
  · clear hx2
    refine hK1 _ ?_
    -- region 6
    refine VW.ws tau_ok Sound.none [some 22, some 2] [(2, .val (i64 x2))] rfl ?_ ?_
    · simp <;> simp [ieq, ilt, ile]
    cases h
    refine VW.ret ?_
    simp [Post, PostM, PostC, PostC2, Nx, Bk]
  refine VW.block ?_
  refine VW.loopF (s_l03Disc_L0 a0_0 a0_1) (fun s2 => [(1, .val (.ptr [i64 a0_0, dI a0_1])), (3, .val (i64 s2.1)), (4, .val (i64 s2.2))]) hx2 (Fits.of rfl) ?_
  clear hx2
  intro s2 ox2 hx2o hx2b
  unfold s_l03Disc_L0 at hx2o
  refine VW.sqc fun K4 hK4 hCK4 => ?_
  -- region 3
  refine VW.ws tau_ok Sound.none [some 5, some 6, some 7, some 8, some 9] [(1, .val (.ptr [i64 a0_0, dI a0_1])), (3, .val (i64 s2.1)), (4, .val (i64 s2.2)), (9, .val (.bool (ilt s2.2 (a0_1.length : Int))))] rfl ?_ ?_
  · simp <;> simp [ieq, ilt, ile]
  refine VW.cond rfl (fun hb5 => ?_) (fun hb5 => ?_)
  rotate_left
  ·
    replace hb5 : ¬ (s2.2 < (a0_1.length : Int)) := by simpa [ieq, ilt, ile] using hb5
    rw [if_neg hb5] at hx2o
    refine VW.exit ?_
    cases hx2o
    have hq := hx2b _ rfl
    subst hq
    exact Fits.of rfl
  replace hb5 : s2.2 < (a0_1.length : Int) := by simpa [ieq, ilt, ile] using hb5
  rw [if_pos hb5] at hx2o
  refine VW.skip ?_
  refine hK4 _ ?_
  refine VW.sqc fun K6 hK6 hCK6 => ?_
  refine VW.block ?_
  -- region 5
  obtain ⟨v7, hv7, hx2o⟩ := bind_some hx2o
  obtain ⟨hv7a, hv7b, hv7c, hv7d⟩ := idx_some hv7
  obtain ⟨hc8, hx2o⟩ := chk_some hx2o
  have hc8s := hc8
  try simp at hc8s
  refine VW.wdr tau_ok Sound.none try_mixed [some 12, some 13, some 14, some 15, some 16, some 17, some 18, some 19, some 20, some 21, some 3] [(1, .val (.ptr [i64 a0_0, dI a0_1])), (3, .val (i64 ((w64 (s2.1 * v7)).tmod a0_0))), (4, .val (i64 s2.2))] 11 rfl (by kernel_rfl) (by rfl) ?_ ?_
  · simp [hv7a, hv7b, hv7c, hv7d, hc8, hc8s] <;> simp [ieq, ilt, ile]
  refine hK6 _ ?_
  -- region 4
  refine VW.wr tau_ok Sound.none [some 10, some 11, some 4] [(1, .val (.ptr [i64 a0_0, dI a0_1])), (3, .val (i64 ((w64 (s2.1 * v7)).tmod a0_0))), (4, .val (i64 (w64 (s2.2 + 1))))] rfl ?_ ?_
  · simp <;> simp [ieq, ilt, ile]
  cases hx2o
  exact ⟨_, rfl, Fits.of rfl⟩

theorem s_l10Shape_ok {a0_0 : Int} {a0_1 : List Int} {a1 : List (List Int)} {r : Int} (h : s_l10Shape a0_0 a0_1 a1 = some r) :
    VCall Try.prog 78 [.agg [i64 a0_0, dI a0_1], dM a1] [.sc (i64 r)] := by
  unfold s_l10Shape at h
  refine VCall.enter Try.call78 Try.func78 rfl 33 Try.ntmps78 (by simp) [.tmp 4] rfl ?_
  show VW _ _ _ (mk [(0, .val (.agg [i64 a0_0, dI a0_1])), (1, .val (dM a1))]) _
  -- region 0
  refine VW.ws tau_ok Sound.none [some 2, some 4] [(1, .val (dM a1)), (2, .val (.ptr [i64 a0_0, dI a0_1]))] rfl ?_ ?_
  · simp <;> simp [ieq, ilt, ile]
  refine VW.sqc fun K1 hK1 hCK1 => ?_
  -- region 1
  obtain ⟨v2, hv2, h⟩ := bind_some h
  refine VW.ws tau_ok (Sound.none.add 6 (s_l03Is_ok hv2) rfl) [some 5, some 6, some 7] [(1, .val (dM a1)), (2, .val (.ptr [i64 a0_0, dI a0_1])), (7, .val (.bool (!v2)))] rfl ?_ ?_
  · simp <;> simp [ieq, ilt, ile]
  refine VW.cond rfl (fun hb3 => ?_) (fun hb3 => ?_)
  ·
    replace hb3 : v2 = false := by simpa [ieq, ilt, ile] using hb3
    rw [if_pos hb3] at h
    -- region 2
    refine VW.ws tau_ok Sound.none [some 4] [(4, .val (i64 1))] rfl ?_ ?_
    · simp <;> simp [ieq, ilt, ile]
    cases h
    refine VW.ret ?_
    simp [Post, PostM, PostC, PostC2, Nx, Bk]
  replace hb3 : ¬ (v2 = false) := by simpa [ieq, ilt, ile] using hb3
  rw [if_neg hb3] at h
  refine VW.skip ?_
  refine hK1 _ ?_
  refine VW.sqc fun K4 hK4 hCK4 => ?_
  -- region 3
  obtain ⟨x9, hx9, h⟩ := bind_some h
  refine VW.cut [(2, .val (.ptr [i64 a0_0, dI a0_1])), (29, .val (.bool x9))] ?_ fun hy => ?_
  rotate_left
  · clear h
    obtain ⟨v5, hv5, hx9⟩ := bind_some hx9
    by_cases hp6 : v5 = false
    · rw [if_pos hp6] at hx9
      have hp6b : v5 = false := by simpa [ieq, ilt, ile] using hp6
      have hp6s := hp6b
      try simp at hp6s
      cases hx9
      refine VW.ws tau_ok (Sound.none.add 11 (s_l02Is_ok hv5) rfl) [some 8, some 9, some 10, some 11, some 12, some 13, some 14, some 15, some 16, some 17, some 18, some 19, some 20, some 21, some 22, some 23, some 24, some 25, some 26, some 27, some 28, some 29] _ rfl ?_ hy
      simp [hp6b, hp6s] <;> simp [ieq, ilt, ile]
    · rw [if_neg hp6] at hx9
      have hp6b : v5 = true := by simpa [ieq, ilt, ile] using hp6
      have hp6s := hp6b
      try simp at hp6s
      by_cases hp7 : ¬ (a1.length : Int) = (a0_1.length : Int)
      · rw [if_pos hp7] at hx9
        have hp7b : ieq (a1.length : Int) (a0_1.length : Int) = false := by simpa [ieq, ilt, ile] using hp7
        have hp7s := hp7b
        try simp at hp7s
        cases hx9
        refine VW.ws tau_ok (Sound.none.add 11 (s_l02Is_ok hv5) rfl) [some 8, some 9, some 10, some 11, some 12, some 13, some 14, some 15, some 16, some 17, some 18, some 19, some 20, some 21, some 22, some 23, some 24, some 25, some 26, some 27, some 28, some 29] _ rfl ?_ hy
        simp [hp6b, hp6s, hp7b, hp7s] <;> simp [ieq, ilt, ile]
      · rw [if_neg hp7] at hx9
        have hp7b : ieq (a1.length : Int) (a0_1.length : Int) = true := by simpa [ieq, ilt, ile] using hp7
        have hp7s := hp7b
        try simp at hp7s
        obtain ⟨v8, hv8, hx9⟩ := bind_some hx9
        obtain ⟨hv8a, hv8b, hv8c, hv8d⟩ := idx_some hv8
        replace hv8b : 0 < a1.length := hv8b
        replace hv8c : a1[0]? = some v8 := hv8c
        replace hv8d : ∀ h, a1[0]'h = v8 := hv8d
        cases hx9
        refine VW.ws tau_ok (Sound.none.add 11 (s_l02Is_ok hv5) rfl) [some 8, some 9, some 10, some 11, some 12, some 13, some 14, some 15, some 16, some 17, some 18, some 19, some 20, some 21, some 22, some 23, some 24, some 25, some 26, some 27, some 28, some 29] _ rfl ?_ hy
        simp [hp6b, hp6s, hp7b, hp7s, hv8a, hv8b, hv8c, hv8d] <;> simp [ieq, ilt, ile]
  refine VW.cond rfl (fun hb10 => ?_) (fun hb10 => ?_)
  ·
    replace hb10 : x9 = true := by simpa [ieq, ilt, ile] using hb10
    rw [if_pos hb10] at h
    -- region 4
    refine VW.ws tau_ok Sound.none [some 4] [(4, .val (i64 2))] rfl ?_ ?_
    · simp <;> simp [ieq, ilt, ile]
    cases h
    refine VW.ret ?_
    simp [Post, PostM, PostC, PostC2, Nx, Bk]
  replace hb10 : ¬ (x9 = true) := by simpa [ieq, ilt, ile] using hb10
  rw [if_neg hb10] at h
  refine VW.skip ?_
  refine hK4 _ ?_
  refine VW.sqc fun K11 hK11 hCK11 => ?_
  -- region 5
  obtain ⟨v12, hv12, h⟩ := bind_some h
  refine VW.ws tau_ok (Sound.none.add 31 (s_l03Disc_ok hv12) rfl) [some 30, some 31, some 32] [(32, .val (.bool (ieq v12 0)))] rfl ?_ ?_
  · simp <;> simp [ieq, ilt, ile]
  refine VW.cond rfl (fun hb13 => ?_) (fun hb13 => ?_)
  ·
    replace hb13 : v12 = 0 := by simpa [ieq, ilt, ile] using hb13
    rw [if_pos hb13] at h
    -- region 6
    refine VW.ws tau_ok Sound.none [some 4] [(4, .val (i64 5))] rfl ?_ ?_
    · simp <;> simp [ieq, ilt, ile]
    cases h
    refine VW.ret ?_
    simp [Post, PostM, PostC, PostC2, Nx, Bk]
  replace hb13 : ¬ (v12 = 0) := by simpa [ieq, ilt, ile] using hb13
  rw [if_neg hb13] at h
  refine VW.skip ?_
  refine hK11 _ ?_
  -- region 7
  refine VW.ws tau_ok Sound.none [some 4] [(4, .val (i64 0))] rfl ?_ ?_
  · simp <;> simp [ieq, ilt, ile]
  cases h
  refine VW.ret ?_
  simp [Post, PostM, PostC, PostC2, Nx, Bk]

theorem s_l10Skew_ok {a0_0 : Int} {a0_1 : List Int} {a1 : List (List Int)} {r : Bool} (h : s_l10Skew a0_0 a0_1 a1 = some r) :
    VCall Try.prog 79 [.agg [i64 a0_0, dI a0_1], dM a1] [.sc (.bool r)] := by
  unfold s_l10Skew at h
  refine VCall.enter Try.call79 Try.func79 rfl 50 Try.ntmps79 (by simp) [.tmp 4] rfl ?_
  show VW _ _ _ (mk [(0, .val (.agg [i64 a0_0, dI a0_1])), (1, .val (dM a1))]) _
  -- region 0
  refine VW.ws tau_ok Sound.none [some 2, some 4] [(1, .val (dM a1)), (2, .val (.ptr [i64 a0_0, dI a0_1]))] rfl ?_ ?_
  · simp <;> simp [ieq, ilt, ile]
  refine VW.sqc fun K1 hK1 hCK1 => ?_
  -- region 1
  refine VW.ws tau_ok Sound.none [some 5] [(1, .val (dM a1)), (2, .val (.ptr [i64 a0_0, dI a0_1])), (5, .val (i64 0))] rfl ?_ ?_
  · simp <;> simp [ieq, ilt, ile]
  obtain ⟨x2, hx2, h⟩ := bind_some h
  refine VW.tlO (fun y4 => []) x2 (hCK1) ?_ ?_
  · clear hx2
    rintro y4 rfl
    dsimp only at h
    refine hK1 _ ?_
    -- region 9
    refine VW.ws tau_ok Sound.none [some 4] [(4, .val (.bool true))] rfl ?_ ?_
    · simp <;> simp [ieq, ilt, ile]
    cases h
    refine VW.ret ?_
    simp [Post, PostM, PostC, PostC2, Nx, Bk]
  refine VW.block ?_
  refine VW.loopF (s_l10Skew_L0 a0_0 a0_1 a1) (fun s2 => [(1, .val (dM a1)), (2, .val (.ptr [i64 a0_0, dI a0_1])), (5, .val (i64 s2))]) hx2 (Fits.of rfl) ?_
  clear hx2
  intro s2 ox2 hx2o hx2b
  unfold s_l10Skew_L0 at hx2o
  refine VW.sqc fun K5 hK5 hCK5 => ?_
  -- region 2
  refine VW.ws tau_ok Sound.none [some 7, some 8, some 9, some 10] [(1, .val (dM a1)), (2, .val (.ptr [i64 a0_0, dI a0_1])), (5, .val (i64 s2)), (10, .val (.bool (ilt s2 (a1.length : Int))))] rfl ?_ ?_
  · simp <;> simp [ieq, ilt, ile]
  refine VW.cond rfl (fun hb6 => ?_) (fun hb6 => ?_)
  rotate_left
  ·
    replace hb6 : ¬ (s2 < (a1.length : Int)) := by simpa [ieq, ilt, ile] using hb6
    rw [if_neg hb6] at hx2o
    refine VW.exit ?_
    cases hx2o
    have hq := hx2b _ rfl
    subst hq
    exact ⟨_, rfl, Fits.of rfl⟩
  replace hb6 : s2 < (a1.length : Int) := by simpa [ieq, ilt, ile] using hb6
  rw [if_pos hb6] at hx2o
  refine VW.skip ?_
  refine hK5 _ ?_
  refine VW.sqc fun K7 hK7 hCK7 => ?_
  refine VW.block ?_
  -- region 4
  refine VW.ws tau_ok Sound.none [some 6] [(1, .val (dM a1)), (2, .val (.ptr [i64 a0_0, dI a0_1])), (5, .val (i64 s2)), (6, .val (i64 0))] rfl ?_ ?_
  · simp <;> simp [ieq, ilt, ile]
  obtain ⟨x8, hx8, hx2o⟩ := bind_some hx2o
  refine VW.tlO (fun y10 => [(1, .val (dM a1)), (2, .val (.ptr [i64 a0_0, dI a0_1])), (5, .val (i64 s2))]) x8 (hCK7) ?_ ?_
  · clear hx8
    rintro y10 rfl
    dsimp only at hx2o
    refine hK7 _ ?_
    -- region 3
    refine VW.wr tau_ok Sound.none [some 11, some 12, some 5] [(1, .val (dM a1)), (2, .val (.ptr [i64 a0_0, dI a0_1])), (5, .val (i64 (w64 (s2 + 1))))] rfl ?_ ?_
    · simp <;> simp [ieq, ilt, ile]
    cases hx2o
    exact ⟨_, rfl, Fits.of rfl⟩
  refine VW.block ?_
  refine VW.loopF (s_l10Skew_L1 a0_0 a0_1 a1 s2) (fun s8 => [(1, .val (dM a1)), (2, .val (.ptr [i64 a0_0, dI a0_1])), (5, .val (i64 s2)), (6, .val (i64 s8))]) hx8 (Fits.of rfl) ?_
  clear hx8
  intro s8 ox8 hx8o hx8b
  unfold s_l10Skew_L1 at hx8o
  refine VW.sqc fun K11 hK11 hCK11 => ?_
  -- region 5
  refine VW.ws tau_ok Sound.none [some 13, some 14, some 15, some 16] [(1, .val (dM a1)), (2, .val (.ptr [i64 a0_0, dI a0_1])), (5, .val (i64 s2)), (6, .val (i64 s8)), (16, .val (.bool (ilt s8 (a1.length : Int))))] rfl ?_ ?_
  · simp <;> simp [ieq, ilt, ile]
  refine VW.cond rfl (fun hb12 => ?_) (fun hb12 => ?_)
  rotate_left
  ·
    replace hb12 : ¬ (s8 < (a1.length : Int)) := by simpa [ieq, ilt, ile] using hb12
    rw [if_neg hb12] at hx8o
    refine VW.exit ?_
    cases hx8o
    have hq := hx8b _ rfl
    subst hq
    exact ⟨_, rfl, Fits.of rfl⟩
  replace hb12 : s8 < (a1.length : Int) := by simpa [ieq, ilt, ile] using hb12
  rw [if_pos hb12] at hx8o
  refine VW.skip ?_
  refine hK11 _ ?_
  refine VW.sqc fun K13 hK13 hCK13 => ?_
  refine VW.block ?_
  -- region 7
  obtain ⟨v14, hv14, hx8o⟩ := bind_some hx8o
  obtain ⟨hv14a, hv14b, hv14c, hv14d⟩ := idx_some hv14
  obtain ⟨v15, hv15, hx8o⟩ := bind_some hx8o
  obtain ⟨hv15a, hv15b, hv15c, hv15d⟩ := idx_some hv15
  obtain ⟨v16, hv16, hx8o⟩ := bind_some hx8o
  obtain ⟨hv16a, hv16b, hv16c, hv16d⟩ := idx_some hv16
  obtain ⟨v17, hv17, hx8o⟩ := bind_some hx8o
  obtain ⟨hv17a, hv17b, hv17c, hv17d⟩ := idx_some hv17
  obtain ⟨v18, hv18, hx8o⟩ := bind_some hx8o
  obtain ⟨hv18a, hv18b, hv18c, hv18d⟩ := idx_some hv18
  obtain ⟨v19, hv19, hx8o⟩ := bind_some hx8o
  obtain ⟨hv19a, hv19b, hv19c, hv19d⟩ := idx_some hv19
  obtain ⟨hc20, hx8o⟩ := chk_some hx8o
  have hc20s := hc20
  try simp at hc20s
  refine VW.wds tau_ok Sound.none try_mixed [some 19, some 20, some 21, some 22, some 23, some 24, some 25, some 26, some 27, some 28, some 29, some 30, some 31, some 32, some 33, some 34, some 35, some 36, some 37, some 38, some 39, some 40, some 41, some 42, some 43, some 44, some 45, some 46, some 47, some 48, some 49] [(1, .val (dM a1)), (2, .val (.ptr [i64 a0_0, dI a0_1])), (5, .val (i64 s2)), (6, .val (i64 s8)), (49, .val (.bool (!(ieq ((w64 ((w64 (v15 * v16)) + (w64 (v18 * v19)))).tmod a0_0) 0))))] 31 rfl (by kernel_rfl) (by rfl) ?_ ?_
  · simp [hv14a, hv14b, hv14c, hv14d, hv15a, hv15b, hv15c, hv15d, hv16a, hv16b, hv16c, hv16d, hv17a, hv17b, hv17c, hv17d, hv18a, hv18b, hv18c, hv18d, hv19a, hv19b, hv19c, hv19d, hc20, hc20s] <;> simp [ieq, ilt, ile]
  refine VW.cond rfl (fun hb21 => ?_) (fun hb21 => ?_)
  rotate_left
  ·
    replace hb21 : ¬ (¬ ((w64 ((w64 (v15 * v16)) + (w64 (v18 * v19)))).tmod a0_0) = 0) := by simpa [ieq, ilt, ile] using hb21
    rw [if_neg hb21] at hx8o
    refine VW.skip ?_
    refine hK13 _ ?_
    -- region 6
    refine VW.wr tau_ok Sound.none [some 17, some 18, some 6] [(1, .val (dM a1)), (2, .val (.ptr [i64 a0_0, dI a0_1])), (5, .val (i64 s2)), (6, .val (i64 (w64 (s8 + 1))))] rfl ?_ ?_
    · simp <;> simp [ieq, ilt, ile]
    cases hx8o
    exact ⟨_, rfl, Fits.of rfl⟩
  replace hb21 : ¬ ((w64 ((w64 (v15 * v16)) + (w64 (v18 * v19)))).tmod a0_0) = 0 := by simpa [ieq, ilt, ile] using hb21
  rw [if_pos hb21] at hx8o
  -- region 8
  refine VW.ws tau_ok Sound.none [some 4] [(4, .val (.bool false))] rfl ?_ ?_
  · simp <;> simp [ieq, ilt, ile]
  cases hx8o
  have hq := hx8b _ rfl
  subst hq
  dsimp only at hx2o
  cases hx2o
  have hq := hx2b _ rfl
  subst hq
  dsimp only at h
  cases h
  refine VW.ret ?_
  simp [Post, PostM, PostC, PostC2, Nx, Bk]

theorem s_IsSkewMatrix_ok {a0_0 : Int} {a0_1 : List Int} {a1 : List (List Int)} {r : Bool × Int} (h : s_IsSkewMatrix a0_0 a0_1 a1 = some r) :
    VCall Try.prog 27 [.agg [i64 a0_0, dI a0_1], dM a1] [.sc (.bool r.1), .sc (i64 r.2)] := by
  unfold s_IsSkewMatrix at h
  refine VCall.enter Try.call27 Try.func27 rfl 16 Try.ntmps27 (by simp) [.tmp 4, .tmp 5] rfl ?_
  show VW _ _ _ (mk [(0, .val (.agg [i64 a0_0, dI a0_1])), (1, .val (dM a1))]) _
  -- region 0
  refine VW.ws tau_ok Sound.none [some 2, some 4, some 5] [(1, .val (dM a1)), (2, .val (.ptr [i64 a0_0, dI a0_1]))] rfl ?_ ?_
  · simp <;> simp [ieq, ilt, ile]
  -- region 1
  obtain ⟨v1, hv1, h⟩ := bind_some h
  refine VW.ws tau_ok (Sound.none.add 9 (s_l10Shape_ok hv1) rfl) [some 7, some 8, some 9, some 6] [(1, .val (dM a1)), (2, .val (.ptr [i64 a0_0, dI a0_1])), (6, .val (i64 v1))] rfl ?_ ?_
  · simp <;> simp [ieq, ilt, ile]
  refine VW.sqc fun K2 hK2 hCK2 => ?_
  -- region 2
  refine VW.ws tau_ok Sound.none [some 10, some 11] [(1, .val (dM a1)), (2, .val (.ptr [i64 a0_0, dI a0_1])), (6, .val (i64 v1)), (11, .val (.bool (!(ieq v1 0))))] rfl ?_ ?_
  · simp <;> simp [ieq, ilt, ile]
  refine VW.cond rfl (fun hb3 => ?_) (fun hb3 => ?_)
  ·
    replace hb3 : ¬ v1 = 0 := by simpa [ieq, ilt, ile] using hb3
    rw [if_pos hb3] at h
    -- region 3
    refine VW.ws tau_ok Sound.none [some 12, some 4, some 5] [(4, .val (.bool false)), (5, .val (i64 v1))] rfl ?_ ?_
    · simp <;> simp [ieq, ilt, ile]
    cases h
    refine VW.ret ?_
    simp [Post, PostM, PostC, PostC2, Nx, Bk]
  replace hb3 : ¬ (¬ v1 = 0) := by simpa [ieq, ilt, ile] using hb3
  rw [if_neg hb3] at h
  refine VW.skip ?_
  refine hK2 _ ?_
  -- region 4
  obtain ⟨v4, hv4, h⟩ := bind_some h
  refine VW.ws tau_ok (Sound.none.add 15 (s_l10Skew_ok hv4) rfl) [some 13, some 14, some 15, some 4, some 5] [(4, .val (.bool v4)), (5, .val (i64 0))] rfl ?_ ?_
  · simp <;> simp [ieq, ilt, ile]
  cases h
  refine VW.ret ?_
  simp [Post, PostM, PostC, PostC2, Nx, Bk]

theorem i_length_I_ok {a0 : List Int} {r : Int} (h : i_length_I a0 = some r) :
    VCall Try.prog 178 [dI a0] [.sc (i64 r)] := by
  unfold i_length_I at h
  refine VCall.enter Try.call178 Try.func178 rfl 5 Try.ntmps178 (by simp) [.tmp 2] rfl ?_
  show VW _ _ _ (mk [(0, .val (dI a0))]) _
  -- region 0
  refine VW.ws tau_ok Sound.none [some 2] [(0, .val (dI a0))] rfl ?_ ?_
  · simp <;> simp [ieq, ilt, ile]
  -- region 1
  refine VW.ws tau_ok Sound.none [some 3, some 4, some 2] [(2, .val (i64 (a0.length : Int)))] rfl ?_ ?_
  · simp <;> simp [ieq, ilt, ile]
  cases h
  refine VW.ret ?_
  simp [Post, PostM, PostC, PostC2, Nx, Bk]

theorem i_Space_field_ok {a0_0 : Int} {a0_1 : List Int} {r : Int} (h : i_Space_field a0_0 a0_1 = some r) :
    VCall Try.prog 101 [.agg [i64 a0_0, dI a0_1]] [.sc (i64 r)] := by
  unfold i_Space_field at h
  refine VCall.enter Try.call101 Try.func101 rfl 5 Try.ntmps101 (by simp) [.tmp 2] rfl ?_
  show VW _ _ _ (mk [(0, .val (.agg [i64 a0_0, dI a0_1]))]) _
  -- region 0
  refine VW.ws tau_ok Sound.none [some 1, some 2] [(1, .val (.ptr [i64 a0_0, dI a0_1]))] rfl ?_ ?_
  · simp <;> simp [ieq, ilt, ile]
  -- region 1
  refine VW.ws tau_ok Sound.none [some 3, some 4, some 2] [(2, .val (i64 a0_0))] rfl ?_ ?_
  · simp <;> simp [ieq, ilt, ile]
  cases h
  refine VW.ret ?_
  simp [Post, PostM, PostC, PostC2, Nx, Bk]

theorem i_IsSpace_ok {a0_0 : Int} {a0_1 : List Int} {r : Bool} (h : i_IsSpace a0_0 a0_1 = some r) :
    VCall Try.prog 154 [.agg [i64 a0_0, dI a0_1]] [.sc (.bool r)] := by
  unfold i_IsSpace at h
  refine VCall.enter Try.call154 Try.func154 rfl 19 Try.ntmps154 (by simp) [.tmp 2] rfl ?_
  show VW _ _ _ (mk [(0, .val (.agg [i64 a0_0, dI a0_1]))]) _
  -- region 0
  refine VW.ws tau_ok Sound.none [some 1, some 2] [(1, .val (.ptr [i64 a0_0, dI a0_1]))] rfl ?_ ?_
  · simp <;> simp [ieq, ilt, ile]
  -- region 1
  obtain ⟨x8, hx8, h⟩ := bind_some h
  refine VW.cut [(2, .val (.bool x8))] ?_ fun hy => ?_
  rotate_left
  · clear h
    obtain ⟨v1, hv1, hx8⟩ := bind_some hx8
    by_cases hp2 : v1 = true
    · rw [if_pos hp2] at hx8
      have hp2b : v1 = true := by simpa [ieq, ilt, ile] using hp2
      have hp2s := hp2b
      try simp at hp2s
      obtain ⟨v3, hv3, hx8⟩ := bind_some hx8
      obtain ⟨v4, hv4, hx8⟩ := bind_some hx8
      by_cases hp5 : v4 = true
      · rw [if_pos hp5] at hx8
        have hp5b : v4 = true := by simpa [ieq, ilt, ile] using hp5
        have hp5s := hp5b
        try simp at hp5s
        obtain ⟨v6, hv6, hx8⟩ := bind_some hx8
        obtain ⟨v7, hv7, hx8⟩ := bind_some hx8
        cases hx8
        refine VW.wds tau_ok (((((Sound.none.add 5 (i_IsPrime_ok hv1) rfl).add 9 (i_length_I_ok hv3) rfl).add 10 (i_inRange_ok hv4) rfl).add 14 (i_Space_field_ok hv6) rfl).add 17 (i_field_is_ok hv7) rfl) try_mixed [some 3, some 4, some 5, some 6, some 7, some 8, some 9, some 10, some 11, some 12, some 13, some 14, some 15, some 16, some 17, some 18, some 2] _ 17 rfl (by kernel_rfl) (by rfl) ?_ hy
        simp [hp2b, hp2s, hp5b, hp5s] <;> simp [ieq, ilt, ile]
      · rw [if_neg hp5] at hx8
        have hp5b : v4 = false := by simpa [ieq, ilt, ile] using hp5
        have hp5s := hp5b
        try simp at hp5s
        cases hx8
        refine VW.wds tau_ok (((Sound.none.add 5 (i_IsPrime_ok hv1) rfl).add 9 (i_length_I_ok hv3) rfl).add 10 (i_inRange_ok hv4) rfl) try_mixed [some 3, some 4, some 5, some 6, some 7, some 8, some 9, some 10, some 11, some 12, some 13, some 14, some 15, some 16, some 17, some 18, some 2] _ 17 rfl (by kernel_rfl) (by rfl) ?_ hy
        simp [hp2b, hp2s, hp5b, hp5s] <;> simp [ieq, ilt, ile]
    · rw [if_neg hp2] at hx8
      have hp2b : v1 = false := by simpa [ieq, ilt, ile] using hp2
      have hp2s := hp2b
      try simp at hp2s
      cases hx8
      refine VW.wds tau_ok (Sound.none.add 5 (i_IsPrime_ok hv1) rfl) try_mixed [some 3, some 4, some 5, some 6, some 7, some 8, some 9, some 10, some 11, some 12, some 13, some 14, some 15, some 16, some 17, some 18, some 2] _ 17 rfl (by kernel_rfl) (by rfl) ?_ hy
      simp [hp2b, hp2s] <;> simp [ieq, ilt, ile]
  cases h
  refine VW.ret ?_
  simp [Post, PostM, PostC, PostC2, Nx, Bk]

theorem i_Space_dim_ok {a0_0 : Int} {a0_1 : List Int} {r : Int} (h : i_Space_dim a0_0 a0_1 = some r) :
    VCall Try.prog 170 [.agg [i64 a0_0, dI a0_1]] [.sc (i64 r)] := by
  unfold i_Space_dim at h
  refine VCall.enter Try.call170 Try.func170 rfl 6 Try.ntmps170 (by simp) [.tmp 2] rfl ?_
  show VW _ _ _ (mk [(0, .val (.agg [i64 a0_0, dI a0_1]))]) _
  -- region 0
  refine VW.ws tau_ok Sound.none [some 1, some 2] [(1, .val (.ptr [i64 a0_0, dI a0_1]))] rfl ?_ ?_
  · simp <;> simp [ieq, ilt, ile]
  -- region 1
  refine VW.ws tau_ok Sound.none [some 3, some 4, some 5, some 2] [(2, .val (i64 (a0_1.length : Int)))] rfl ?_ ?_
  · simp <;> simp [ieq, ilt, ile]
  cases h
  refine VW.ret ?_
  simp [Post, PostM, PostC, PostC2, Nx, Bk]

theorem i_Space_isFrame_ok {a0_0 : Int} {a0_1 : List Int} {a1 : List (List Int)} {r : Bool} (h : i_Space_isFrame a0_0 a0_1 a1 = some r) :
    VCall Try.prog 155 [.agg [i64 a0_0, dI a0_1], dM a1] [.sc (.bool r)] := by
  unfold i_Space_isFrame at h
  refine VCall.enter Try.call155 Try.func155 rfl 25 Try.ntmps155 (by simp) [.tmp 4] rfl ?_
  show VW _ _ _ (mk [(0, .val (.agg [i64 a0_0, dI a0_1])), (1, .val (dM a1))]) _
  -- region 0
  refine VW.ws tau_ok Sound.none [some 2, some 4] [(1, .val (dM a1)), (2, .val (.ptr [i64 a0_0, dI a0_1]))] rfl ?_ ?_
  · simp <;> simp [ieq, ilt, ile]
  -- region 1
  obtain ⟨x8, hx8, h⟩ := bind_some h
  refine VW.cut [(4, .val (.bool x8))] ?_ fun hy => ?_
  rotate_left
  · clear h
    obtain ⟨v1, hv1, hx8⟩ := bind_some hx8
    obtain ⟨v2, hv2, hx8⟩ := bind_some hx8
    by_cases hp3 : v2 = true
    · rw [if_pos hp3] at hx8
      have hp3b : v2 = true := by simpa [ieq, ilt, ile] using hp3
      have hp3s := hp3b
      try simp at hp3s
      obtain ⟨v4, hv4, hx8⟩ := bind_some hx8
      by_cases hp5 : (a1.length : Int) = v4
      · rw [if_pos hp5] at hx8
        have hp5b : ieq (a1.length : Int) v4 = true := by simpa [ieq, ilt, ile] using hp5
        have hp5s := hp5b
        try simp at hp5s
        obtain ⟨v6, hv6, hx8⟩ := bind_some hx8
        obtain ⟨hv6a, hv6b, hv6c, hv6d⟩ := idx_some hv6
        replace hv6b : 0 < a1.length := hv6b
        replace hv6c : a1[0]? = some v6 := hv6c
        replace hv6d : ∀ h, a1[0]'h = v6 := hv6d
        obtain ⟨v7, hv7, hx8⟩ := bind_some hx8
        cases hx8
        refine VW.wds tau_ok ((((Sound.none.add 6 (i_Space_field_ok hv1) rfl).add 8 (i_field_isMatrix_ok hv2) rfl).add 13 (i_Space_dim_ok hv4) rfl).add 22 (i_Space_dim_ok hv7) rfl) try_mixed [some 5, some 6, some 7, some 8, some 9, some 10, some 11, some 12, some 13, some 14, some 15, some 16, some 17, some 18, some 19, some 20, some 21, some 22, some 23, some 24, some 4] _ 21 rfl (by kernel_rfl) (by rfl) ?_ hy
        simp [hp3b, hp3s, hp5b, hp5s, hv6a, hv6b, hv6c, hv6d] <;> simp [ieq, ilt, ile]
      · rw [if_neg hp5] at hx8
        have hp5b : ieq (a1.length : Int) v4 = false := by simpa [ieq, ilt, ile] using hp5
        have hp5s := hp5b
        try simp at hp5s
        cases hx8
        refine VW.wds tau_ok (((Sound.none.add 6 (i_Space_field_ok hv1) rfl).add 8 (i_field_isMatrix_ok hv2) rfl).add 13 (i_Space_dim_ok hv4) rfl) try_mixed [some 5, some 6, some 7, some 8, some 9, some 10, some 11, some 12, some 13, some 14, some 15, some 16, some 17, some 18, some 19, some 20, some 21, some 22, some 23, some 24, some 4] _ 21 rfl (by kernel_rfl) (by rfl) ?_ hy
        simp [hp3b, hp3s, hp5b, hp5s] <;> simp [ieq, ilt, ile]
    · rw [if_neg hp3] at hx8
      have hp3b : v2 = false := by simpa [ieq, ilt, ile] using hp3
      have hp3s := hp3b
      try simp at hp3s
      cases hx8
      refine VW.wds tau_ok ((Sound.none.add 6 (i_Space_field_ok hv1) rfl).add 8 (i_field_isMatrix_ok hv2) rfl) try_mixed [some 5, some 6, some 7, some 8, some 9, some 10, some 11, some 12, some 13, some 14, some 15, some 16, some 17, some 18, some 19, some 20, some 21, some 22, some 23, some 24, some 4] _ 21 rfl (by kernel_rfl) (by rfl) ?_ hy
      simp [hp3b, hp3s] <;> simp [ieq, ilt, ile]
  cases h
  refine VW.ret ?_
  simp [Post, PostM, PostC, PostC2, Nx, Bk]

theorem i_Space_regular_ok {a0_0 : Int} {a0_1 : List Int} {r : Bool} (h : i_Space_regular a0_0 a0_1 = some r) :
    VCall Try.prog 156 [.agg [i64 a0_0, dI a0_1]] [.sc (.bool r)] := by
  unfold i_Space_regular at h
  refine VCall.enter Try.call156 Try.func156 rfl 7 Try.ntmps156 (by simp) [.tmp 2] rfl ?_
  show VW _ _ _ (mk [(0, .val (.agg [i64 a0_0, dI a0_1]))]) _
  -- region 0
  refine VW.ws tau_ok Sound.none [some 1, some 2] [(1, .val (.ptr [i64 a0_0, dI a0_1]))] rfl ?_ ?_
  · simp <;> simp [ieq, ilt, ile]
  -- region 1
  obtain ⟨v1, hv1, h⟩ := bind_some h
  refine VW.ws tau_ok (Sound.none.add 5 (g_slices_Contains_LI_I_ok hv1) rfl) [some 3, some 4, some 5, some 6, some 2] [(2, .val (.bool (!v1)))] rfl ?_ ?_
  · simp <;> simp [ieq, ilt, ile]
  cases h
  refine VW.ret ?_
  simp [Post, PostM, PostC, PostC2, Nx, Bk]

theorem i_checkFrame_ok {a0_0 : Int} {a0_1 : List Int} {a1 : List (List Int)} {r : Int} (h : i_checkFrame a0_0 a0_1 a1 = some r) :
    VCall Try.prog 80 [.agg [i64 a0_0, dI a0_1], dM a1] [.sc (i64 r)] := by
  unfold i_checkFrame at h
  refine VCall.enter Try.call80 Try.func80 rfl 18 Try.ntmps80 (by simp) [.tmp 4] rfl ?_
  show VW _ _ _ (mk [(0, .val (.agg [i64 a0_0, dI a0_1])), (1, .val (dM a1))]) _
  -- region 0
  refine VW.ws tau_ok Sound.none [some 2, some 4] [(1, .val (dM a1)), (2, .val (.ptr [i64 a0_0, dI a0_1]))] rfl ?_ ?_
  · simp <;> simp [ieq, ilt, ile]
  refine VW.sqc fun K1 hK1 hCK1 => ?_
  refine VW.block ?_
  -- region 1
  obtain ⟨v2, hv2, h⟩ := bind_some h
  refine VW.ws tau_ok (Sound.none.add 7 (i_IsSpace_ok hv2) rfl) [some 6, some 7, some 8, some 5] [(1, .val (dM a1)), (2, .val (.ptr [i64 a0_0, dI a0_1])), (5, .val (.bool (!v2)))] rfl ?_ ?_
  · simp <;> simp [ieq, ilt, ile]
  refine VW.cond rfl (fun hb3 => ?_) (fun hb3 => ?_)
  ·
    replace hb3 : v2 = false := by simpa [ieq, ilt, ile] using hb3
    rw [if_pos hb3] at h
    -- region 2
    refine VW.ws tau_ok Sound.none [some 4] [(4, .val (i64 1))] rfl ?_ ?_
    · simp <;> simp [ieq, ilt, ile]
    cases h
    refine VW.ret ?_
    simp [Post, PostM, PostC, PostC2, Nx, Bk]
  replace hb3 : ¬ (v2 = false) := by simpa [ieq, ilt, ile] using hb3
  rw [if_neg hb3] at h
  -- region 3
  obtain ⟨v4, hv4, h⟩ := bind_some h
  refine VW.ws tau_ok (Sound.none.add 12 (i_Space_isFrame_ok hv4) rfl) [some 10, some 11, some 12, some 13, some 9] [(2, .val (.ptr [i64 a0_0, dI a0_1])), (9, .val (.bool (!v4)))] rfl ?_ ?_
  · simp <;> simp [ieq, ilt, ile]
  refine VW.cond rfl (fun hb5 => ?_) (fun hb5 => ?_)
  ·
    replace hb5 : v4 = false := by simpa [ieq, ilt, ile] using hb5
    rw [if_pos hb5] at h
    -- region 4
    refine VW.ws tau_ok Sound.none [some 4] [(4, .val (i64 2))] rfl ?_ ?_
    · simp <;> simp [ieq, ilt, ile]
    cases h
    refine VW.ret ?_
    simp [Post, PostM, PostC, PostC2, Nx, Bk]
  replace hb5 : ¬ (v4 = false) := by simpa [ieq, ilt, ile] using hb5
  rw [if_neg hb5] at h
  -- region 5
  obtain ⟨v6, hv6, h⟩ := bind_some h
  refine VW.ws tau_ok (Sound.none.add 16 (i_Space_regular_ok hv6) rfl) [some 15, some 16, some 17, some 14] [(14, .val (.bool (!v6)))] rfl ?_ ?_
  · simp <;> simp [ieq, ilt, ile]
  refine VW.cond rfl (fun hb7 => ?_) (fun hb7 => ?_)
  ·
    replace hb7 : v6 = false := by simpa [ieq, ilt, ile] using hb7
    rw [if_pos hb7] at h
    -- region 6
    refine VW.ws tau_ok Sound.none [some 4] [(4, .val (i64 5))] rfl ?_ ?_
    · simp <;> simp [ieq, ilt, ile]
    cases h
    refine VW.ret ?_
    simp [Post, PostM, PostC, PostC2, Nx, Bk]
  replace hb7 : ¬ (v6 = false) := by simpa [ieq, ilt, ile] using hb7
  rw [if_neg hb7] at h
  refine VW.skip ?_
  refine hK1 _ ?_
  -- region 7
  refine VW.ws tau_ok Sound.none [some 4] [(4, .val (i64 0))] rfl ?_ ?_
  · simp <;> simp [ieq, ilt, ile]
  cases h
  refine VW.ret ?_
  simp [Post, PostM, PostC, PostC2, Nx, Bk]
end Go.Vam
