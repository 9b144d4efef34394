import Derived.Test.YtjkknabmfdodeaaR4T
import Derived.Test.YtjkknabmfdodeaaFnH
import Derived.Test.YtjkknabmfdodeaaR4KW1
namespace Go.Vam
open Go Go.RowKit Go.Proofs
set_option maxRecDepth 100000
set_option linter.unusedSimpArgs false
set_option linter.unusedVariables false

theorem s_l02Is_ok {a0 : Int} {a1 : List (List Int)} {r : Bool} (h : s_l02Is a0 a1 = some r) :
    VCall Try.prog 118 [i64 a0, dM a1] [.sc (.bool r)] := by
  unfold s_l02Is at h
  refine VCall.enter Try.call118 Try.func118 rfl 58 Try.ntmps118 (by simp) [.tmp 4] rfl ?_
  show VW _ _ _ (mk [(0, .val (i64 a0)), (1, .val (dM a1))]) _
  -- region 0
  refine VW.ws tau_ok Sound.none [some 4] [(0, .val (i64 a0)), (1, .val (dM a1))] rfl ?_ ?_
  · simp <;> simp [ieq, ilt, ile]
  refine VW.sqc fun K1 hK1 hCK1 => ?_
  -- region 1
  obtain ⟨x8, hx8, h⟩ := bind_some h
  refine VW.cut [(0, .val (i64 a0)), (1, .val (dM a1)), (32, .val (.bool x8))] ?_ fun hy => ?_
  rotate_left
  · clear h
    obtain ⟨v2, hv2, hx8⟩ := bind_some hx8
    by_cases hp3 : v2 = false
    · rw [if_pos hp3] at hx8
      have hp3b : v2 = false := by simpa [ieq, ilt, ile] using hp3
      have hp3s := hp3b
      try simp at hp3s
      cases hx8
      refine VW.ws tau_ok (Sound.none.add 7 (s_l01Prime_ok hv2) rfl) [some 6, some 7, some 8, some 9, some 10, some 11, some 12, some 13, some 14, some 15, some 16, some 17, some 18, some 19, some 20, some 21, some 22, some 23, some 24, some 25, some 26, some 27, some 28, some 29, some 30, some 31, some 32] _ rfl ?_ hy
      simp [hp3b, hp3s] <;> simp [ieq, ilt, ile]
    · rw [if_neg hp3] at hx8
      have hp3b : v2 = true := by simpa [ieq, ilt, ile] using hp3
      have hp3s := hp3b
      try simp at hp3s
      by_cases hp4 : (a1.length : Int) < 1
      · rw [if_pos hp4] at hx8
        have hp4b : ilt (a1.length : Int) 1 = true := by simpa [ieq, ilt, ile] using hp4
        have hp4s := hp4b
        try simp at hp4s
        cases hx8
        refine VW.ws tau_ok (Sound.none.add 7 (s_l01Prime_ok hv2) rfl) [some 6, some 7, some 8, some 9, some 10, some 11, some 12, some 13, some 14, some 15, some 16, some 17, some 18, some 19, some 20, some 21, some 22, some 23, some 24, some 25, some 26, some 27, some 28, some 29, some 30, some 31, some 32] _ rfl ?_ hy
        simp [hp3b, hp3s, hp4b, hp4s] <;> simp [ieq, ilt, ile]
      · rw [if_neg hp4] at hx8
        have hp4b : ilt (a1.length : Int) 1 = false := by simpa [ieq, ilt, ile] using hp4
        have hp4s := hp4b
        try simp at hp4s
        by_cases hp5 : 16 < (a1.length : Int)
        · rw [if_pos hp5] at hx8
          have hp5b : ilt 16 (a1.length : Int) = true := by simpa [ieq, ilt, ile] using hp5
          have hp5s := hp5b
          try simp at hp5s
          cases hx8
          refine VW.ws tau_ok (Sound.none.add 7 (s_l01Prime_ok hv2) rfl) [some 6, some 7, some 8, some 9, some 10, some 11, some 12, some 13, some 14, some 15, some 16, some 17, some 18, some 19, some 20, some 21, some 22, some 23, some 24, some 25, some 26, some 27, some 28, some 29, some 30, some 31, some 32] _ rfl ?_ hy
          simp [hp3b, hp3s, hp4b, hp4s, hp5b, hp5s] <;> simp [ieq, ilt, ile]
        · rw [if_neg hp5] at hx8
          have hp5b : ilt 16 (a1.length : Int) = false := by simpa [ieq, ilt, ile] using hp5
          have hp5s := hp5b
          try simp at hp5s
          obtain ⟨v6, hv6, hx8⟩ := bind_some hx8
          obtain ⟨hv6a, hv6b, hv6c, hv6d⟩ := idx_some hv6
          replace hv6b : 0 < a1.length := hv6b
          replace hv6c : a1[0]? = some v6 := hv6c
          replace hv6d : ∀ h, a1[0]'h = v6 := hv6d
          by_cases hp7 : (v6.length : Int) < 1
          · rw [if_pos hp7] at hx8
            have hp7b : ilt (v6.length : Int) 1 = true := by simpa [ieq, ilt, ile] using hp7
            have hp7s := hp7b
            try simp at hp7s
            cases hx8
            refine VW.ws tau_ok (Sound.none.add 7 (s_l01Prime_ok hv2) rfl) [some 6, some 7, some 8, some 9, some 10, some 11, some 12, some 13, some 14, some 15, some 16, some 17, some 18, some 19, some 20, some 21, some 22, some 23, some 24, some 25, some 26, some 27, some 28, some 29, some 30, some 31, some 32] _ rfl ?_ hy
            simp [hp3b, hp3s, hp4b, hp4s, hp5b, hp5s, hv6a, hv6b, hv6c, hv6d, hp7b, hp7s] <;> simp [ieq, ilt, ile]
          · rw [if_neg hp7] at hx8
            have hp7b : ilt (v6.length : Int) 1 = false := by simpa [ieq, ilt, ile] using hp7
            have hp7s := hp7b
            try simp at hp7s
            cases hx8
            refine VW.ws tau_ok (Sound.none.add 7 (s_l01Prime_ok hv2) rfl) [some 6, some 7, some 8, some 9, some 10, some 11, some 12, some 13, some 14, some 15, some 16, some 17, some 18, some 19, some 20, some 21, some 22, some 23, some 24, some 25, some 26, some 27, some 28, some 29, some 30, some 31, some 32] _ rfl ?_ hy
            simp [hp3b, hp3s, hp4b, hp4s, hp5b, hp5s, hv6a, hv6b, hv6c, hv6d, hp7b, hp7s] <;> simp [ieq, ilt, ile]
  refine VW.cond rfl (fun hb9 => ?_) (fun hb9 => ?_)
  ·
    replace hb9 : x8 = true := by simpa [ieq, ilt, ile] using hb9
    rw [if_pos hb9] at h
    -- region 2
    refine VW.ws tau_ok Sound.none [some 4] [(4, .val (.bool false))] rfl ?_ ?_
    · simp <;> simp [ieq, ilt, ile]
    cases h
    refine VW.ret ?_
    simp [Post, PostM, PostC, PostC2, Nx, Bk]
  replace hb9 : ¬ (x8 = true) := by simpa [ieq, ilt, ile] using hb9
  rw [if_neg hb9] at h
  refine VW.skip ?_
  refine hK1 _ ?_
  refine VW.sqc fun K10 hK10 hCK10 => ?_
  -- region 3
  refine VW.ws tau_ok Sound.none [some 5] [(0, .val (i64 a0)), (1, .val (dM a1)), (5, .val (i64 0))] rfl ?_ ?_
  · simp <;> simp [ieq, ilt, ile]
  obtain ⟨x11, hx11, h⟩ := bind_some h
  refine VW.tlO (fun y13 => []) x11 (hCK10) ?_ ?_
  · clear hx11
    rintro y13 rfl
    dsimp only at h
    refine hK10 _ ?_
    -- region 8
    refine VW.ws tau_ok Sound.none [some 4] [(4, .val (.bool true))] rfl ?_ ?_
    · simp <;> simp [ieq, ilt, ile]
    cases h
    refine VW.ret ?_
    simp [Post, PostM, PostC, PostC2, Nx, Bk]
  refine VW.block ?_
  refine VW.loopF (s_l02Is_L0 a0 a1) (fun s11 => [(0, .val (i64 a0)), (1, .val (dM a1)), (5, .val (i64 s11))]) hx11 (Fits.of rfl) ?_
  clear hx11
  intro s11 ox11 hx11o hx11b
  unfold s_l02Is_L0 at hx11o
  refine VW.sqc fun K14 hK14 hCK14 => ?_
  -- region 4
  refine VW.ws tau_ok Sound.none [some 33, some 34, some 35, some 36] [(0, .val (i64 a0)), (1, .val (dM a1)), (5, .val (i64 s11)), (36, .val (.bool (ilt s11 (a1.length : Int))))] rfl ?_ ?_
  · simp <;> simp [ieq, ilt, ile]
  refine VW.cond rfl (fun hb15 => ?_) (fun hb15 => ?_)
  rotate_left
  ·
    replace hb15 : ¬ (s11 < (a1.length : Int)) := by simpa [ieq, ilt, ile] using hb15
    rw [if_neg hb15] at hx11o
    refine VW.exit ?_
    cases hx11o
    have hq := hx11b _ rfl
    subst hq
    exact ⟨_, rfl, Fits.of rfl⟩
  replace hb15 : s11 < (a1.length : Int) := by simpa [ieq, ilt, ile] using hb15
  rw [if_pos hb15] at hx11o
  refine VW.skip ?_
  refine hK14 _ ?_
  refine VW.sqc fun K16 hK16 hCK16 => ?_
  refine VW.block ?_
  -- region 6
  obtain ⟨x21, hx21, hx11o⟩ := bind_some hx11o
  refine VW.cut [(0, .val (i64 a0)), (1, .val (dM a1)), (5, .val (i64 s11)), (57, .val (.bool x21))] ?_ fun hy => ?_
  rotate_left
  · clear hx11o
    obtain ⟨v17, hv17, hx21⟩ := bind_some hx21
    obtain ⟨hv17a, hv17b, hv17c, hv17d⟩ := idx_some hv17
    obtain ⟨v18, hv18, hx21⟩ := bind_some hx21
    obtain ⟨hv18a, hv18b, hv18c, hv18d⟩ := idx_some hv18
    replace hv18b : 0 < a1.length := hv18b
    replace hv18c : a1[0]? = some v18 := hv18c
    replace hv18d : ∀ h, a1[0]'h = v18 := hv18d
    by_cases hp19 : ¬ (v17.length : Int) = (v18.length : Int)
    · rw [if_pos hp19] at hx21
      have hp19b : ieq (v17.length : Int) (v18.length : Int) = false := by simpa [ieq, ilt, ile] using hp19
      have hp19s := hp19b
      try simp at hp19s
      cases hx21
      refine VW.wds tau_ok Sound.none try_mixed [some 39, some 40, some 41, some 42, some 43, some 44, some 45, some 46, some 47, some 48, some 49, some 50, some 51, some 52, some 53, some 54, some 55, some 56, some 57] _ 19 rfl (by kernel_rfl) (by rfl) ?_ hy
      simp [hv17a, hv17b, hv17c, hv17d, hv18a, hv18b, hv18c, hv18d, hp19b, hp19s] <;> simp [ieq, ilt, ile]
    · rw [if_neg hp19] at hx21
      have hp19b : ieq (v17.length : Int) (v18.length : Int) = true := by simpa [ieq, ilt, ile] using hp19
      have hp19s := hp19b
      try simp at hp19s
      obtain ⟨v20, hv20, hx21⟩ := bind_some hx21
      cases hx21
      refine VW.wds tau_ok (Sound.none.add 55 (s_l01Numbers_ok hv20) rfl) try_mixed [some 39, some 40, some 41, some 42, some 43, some 44, some 45, some 46, some 47, some 48, some 49, some 50, some 51, some 52, some 53, some 54, some 55, some 56, some 57] _ 19 rfl (by kernel_rfl) (by rfl) ?_ hy
      simp [hv17a, hv17b, hv17c, hv17d, hv18a, hv18b, hv18c, hv18d, hp19b, hp19s] <;> simp [ieq, ilt, ile]
  refine VW.cond rfl (fun hb22 => ?_) (fun hb22 => ?_)
  rotate_left
  ·
    replace hb22 : ¬ (x21 = true) := by simpa [ieq, ilt, ile] using hb22
    rw [if_neg hb22] at hx11o
    refine VW.skip ?_
    refine hK16 _ ?_
    -- region 5
    refine VW.wr tau_ok Sound.none [some 37, some 38, some 5] [(0, .val (i64 a0)), (1, .val (dM a1)), (5, .val (i64 (w64 (s11 + 1))))] rfl ?_ ?_
    · simp <;> simp [ieq, ilt, ile]
    cases hx11o
    exact ⟨_, rfl, Fits.of rfl⟩
  replace hb22 : x21 = true := by simpa [ieq, ilt, ile] using hb22
  rw [if_pos hb22] at hx11o
  -- region 7
  refine VW.ws tau_ok Sound.none [some 4] [(4, .val (.bool false))] rfl ?_ ?_
  · simp <;> simp [ieq, ilt, ile]
  cases hx11o
  have hq := hx11b _ rfl
  subst hq
  dsimp only at h
  cases h
  refine VW.ret ?_
  simp [Post, PostM, PostC, PostC2, Nx, Bk]

theorem s_l01Own_ok {a0 : List Int} {r : List Int} (h : s_l01Own a0 = some r) :
    VCall Try.prog 203 [dI a0] [.own true (dI r)] := by
  unfold s_l01Own at h
  refine VCall.enter Try.call203 Try.func203 rfl 6 Try.ntmps203 (by simp) [.tmp 2] rfl ?_
  show VW _ _ _ (mk [(0, .val (dI a0))]) _
  -- region 0
  refine VW.ws tau_ok Sound.none [some 2] [(0, .val (dI a0))] rfl ?_ ?_
  · simp <;> simp [ieq, ilt, ile]
  -- region 1
  obtain ⟨hc1, h⟩ := chk_some h
  have hc1s := hc1
  try simp at hc1s
  refine VW.ws tau_ok Sound.none [some 3, some 4, some 5, some 2] [(2, .ref 2 [] true (dI (([] : List Int) ++ a0)))] rfl ?_ ?_
  · simp [hc1, hc1s] <;> simp [ieq, ilt, ile]
  cases h
  refine VW.ret ?_
  simp [Post, PostM, PostC, PostC2, Nx, Bk]

theorem s_l01Own2_ok {a0 : List (List Int)} {r : List (List Int)} (h : s_l01Own2 a0 = some r) :
    VCall Try.prog 143 [dM a0] [.own true (dM r)] := by
  unfold s_l01Own2 at h
  refine VCall.enter Try.call143 Try.func143 rfl 21 Try.ntmps143 (by simp) [.tmp 2] rfl ?_
  show VW _ _ _ (mk [(0, .val (dM a0))]) _
  -- region 0
  refine VW.ws tau_ok Sound.none [some 2] [(0, .val (dM a0))] rfl ?_ ?_
  · simp <;> simp [ieq, ilt, ile]
  -- region 1
  refine VW.ws tau_ok Sound.none [some 5, some 3] [(0, .val (dM a0)), (3, .ref 3 [] true (dM []))] rfl ?_ ?_
  · simp <;> simp [ieq, ilt, ile]
  refine VW.sqc fun K1 hK1 hCK1 => ?_
  -- region 2
  refine VW.ws tau_ok Sound.none [some 4] [(0, .val (dM a0)), (3, .ref 3 [] true (dM [])), (4, .val (i64 0))] rfl ?_ ?_
  · simp <;> simp [ieq, ilt, ile]
  obtain ⟨x2, hx2, h⟩ := bind_some h
  refine VW.tlE [(3, .ref 3 [] true (dM x2))] (hCK1) ?_ ?_
  · clear hx2
    refine hK1 _ ?_
    -- region 6
    refine VW.ws tau_ok Sound.none [some 20, some 2] [(2, .ref 2 [] true (dM x2))] rfl ?_ ?_
    · simp <;> simp [ieq, ilt, ile]
    cases h
    refine VW.ret ?_
    simp [Post, PostM, PostC, PostC2, Nx, Bk]
  refine VW.block ?_
  refine VW.loopF (s_l01Own2_L0 a0) (fun s2 => [(0, .val (dM a0)), (3, .ref 3 [] true (dM s2.1)), (4, .val (i64 s2.2))]) hx2 (Fits.of rfl) ?_
  clear hx2
  intro s2 ox2 hx2o hx2b
  unfold s_l01Own2_L0 at hx2o
  refine VW.sqc fun K4 hK4 hCK4 => ?_
  -- region 3
  refine VW.ws tau_ok Sound.none [some 6, some 7, some 8, some 9] [(0, .val (dM a0)), (3, .ref 3 [] true (dM s2.1)), (4, .val (i64 s2.2)), (9, .val (.bool (ilt s2.2 (a0.length : Int))))] rfl ?_ ?_
  · simp <;> simp [ieq, ilt, ile]
  refine VW.cond rfl (fun hb5 => ?_) (fun hb5 => ?_)
  rotate_left
  ·
    replace hb5 : ¬ (s2.2 < (a0.length : Int)) := by simpa [ieq, ilt, ile] using hb5
    rw [if_neg hb5] at hx2o
    refine VW.exit ?_
    cases hx2o
    have hq := hx2b _ rfl
    subst hq
    exact Fits.of rfl
  replace hb5 : s2.2 < (a0.length : Int) := by simpa [ieq, ilt, ile] using hb5
  rw [if_pos hb5] at hx2o
  refine VW.skip ?_
  refine hK4 _ ?_
  refine VW.sqc fun K6 hK6 hCK6 => ?_
  refine VW.block ?_
  -- region 5
  obtain ⟨v7, hv7, hx2o⟩ := bind_some hx2o
  obtain ⟨hv7a, hv7b, hv7c, hv7d⟩ := idx_some hv7
  obtain ⟨v8, hv8, hx2o⟩ := bind_some hx2o
  obtain ⟨hc9, hx2o⟩ := chk_some hx2o
  have hc9s := hc9
  try simp at hc9s
  refine VW.wr tau_ok (Sound.none.add 17 (s_l01Own_ok hv8) rfl) [some 12, some 13, some 14, some 15, some 16, some 17, some 18, some 19, some 3] [(0, .val (dM a0)), (3, .ref 3 [] true (dM (s2.1 ++ [v8]))), (4, .val (i64 s2.2))] rfl ?_ ?_
  · simp [hv7a, hv7b, hv7c, hv7d, hc9, hc9s] <;> simp [ieq, ilt, ile]
  refine hK6 _ ?_
  -- region 4
  refine VW.wr tau_ok Sound.none [some 10, some 11, some 4] [(0, .val (dM a0)), (3, .ref 3 [] true (dM (s2.1 ++ [v8]))), (4, .val (i64 (w64 (s2.2 + 1))))] rfl ?_ ?_
  · simp <;> simp [ieq, ilt, ile]
  cases hx2o
  exact ⟨_, rfl, Fits.of rfl⟩

theorem s_l01Inv_ok {a0 : Int} {a1 : Int} {r : Int} (h : s_l01Inv a0 a1 = some r) :
    VCall Try.prog 100 [i64 a0, i64 a1] [.sc (i64 r)] := by
  unfold s_l01Inv at h
  refine VCall.enter Try.call100 Try.func100 rfl 15 Try.ntmps100 (by simp) [.tmp 4] rfl ?_
  show VW _ _ _ (mk [(0, .val (i64 a0)), (1, .val (i64 a1))]) _
  -- region 0
  refine VW.ws tau_ok Sound.none [some 4] [(0, .val (i64 a0)), (1, .val (i64 a1))] rfl ?_ ?_
  · simp <;> simp [ieq, ilt, ile]
  -- region 1
  refine VW.ws tau_ok Sound.none [some 5] [(0, .val (i64 a0)), (1, .val (i64 a1)), (5, .val (i64 1))] rfl ?_ ?_
  · simp <;> simp [ieq, ilt, ile]
  refine VW.sqc fun K1 hK1 hCK1 => ?_
  obtain ⟨x2, hx2, h⟩ := bind_some h
  refine VW.tlE [(5, .val (i64 x2))] (hCK1) ?_ ?_
  · clear hx2
    refine hK1 _ ?_
    -- region 4
    refine VW.ws tau_ok Sound.none [some 14, some 4] [(4, .val (i64 x2))] rfl ?_ ?_
    · simp <;> simp [ieq, ilt, ile]
    cases h
    refine VW.ret ?_
    simp [Post, PostM, PostC, PostC2, Nx, Bk]
  refine VW.block ?_
  refine VW.loopF (s_l01Inv_L0 a0 a1) (fun s2 => [(0, .val (i64 a0)), (1, .val (i64 a1)), (5, .val (i64 s2))]) hx2 (Fits.of rfl) ?_
  clear hx2
  intro s2 ox2 hx2o hx2b
  unfold s_l01Inv_L0 at hx2o
  refine VW.sqc fun K4 hK4 hCK4 => ?_
  -- region 2
  obtain ⟨hc5, hx2o⟩ := chk_some hx2o
  have hc5s := hc5
  try simp at hc5s
  refine VW.ws tau_ok Sound.none [some 6, some 7, some 8, some 9, some 10, some 11] [(0, .val (i64 a0)), (1, .val (i64 a1)), (5, .val (i64 s2)), (11, .val (.bool (!(ieq ((w64 (a1 * s2)).tmod a0) 1))))] rfl ?_ ?_
  · simp [hc5, hc5s] <;> simp [ieq, ilt, ile]
  refine VW.cond rfl (fun hb6 => ?_) (fun hb6 => ?_)
  rotate_left
  ·
    replace hb6 : ¬ (¬ ((w64 (a1 * s2)).tmod a0) = 1) := by simpa [ieq, ilt, ile] using hb6
    rw [if_neg hb6] at hx2o
    refine VW.exit ?_
    cases hx2o
    have hq := hx2b _ rfl
    subst hq
    exact Fits.of rfl
  replace hb6 : ¬ ((w64 (a1 * s2)).tmod a0) = 1 := by simpa [ieq, ilt, ile] using hb6
  rw [if_pos hb6] at hx2o
  refine VW.skip ?_
  refine hK4 _ ?_
  refine VW.block ?_
  -- region 3
  refine VW.wr tau_ok Sound.none [some 12, some 13, some 5] [(0, .val (i64 a0)), (1, .val (i64 a1)), (5, .val (i64 (w64 (s2 + 1))))] rfl ?_ ?_
  · simp <;> simp [ieq, ilt, ile]
  cases hx2o
  exact ⟨_, rfl, Fits.of rfl⟩

theorem s_l02Basis_ok {a0 : Int} {a1 : List (List Int)} {r : List (List Int)} (h : s_l02Basis a0 a1 = some r) :
    VCall Try.prog 144 [i64 a0, dM a1] [.own false (dM r)] := by
  unfold s_l02Basis at h
  refine VCall.enter Try.call144 Try.func144 rfl 106 Try.ntmps144 (by simp) [.tmp 4] rfl ?_
  show VW _ _ _ (mk [(0, .val (i64 a0)), (1, .val (dM a1))]) _
  -- region 0
  refine VW.ws tau_ok Sound.none [some 4] [(0, .val (i64 a0)), (1, .val (dM a1))] rfl ?_ ?_
  · simp <;> simp [ieq, ilt, ile]
  -- region 1
  obtain ⟨v1, hv1, h⟩ := bind_some h
  refine VW.ws tau_ok (Sound.none.add 12 (s_l01Own2_ok hv1) rfl) [some 11, some 12, some 5] [(0, .val (i64 a0)), (5, .ref 5 [] true (dM v1))] rfl ?_ ?_
  · simp <;> simp [ieq, ilt, ile]
  -- region 2
  refine VW.ws tau_ok Sound.none [some 6] [(0, .val (i64 a0)), (5, .ref 5 [] true (dM v1)), (6, .val (i64 0))] rfl ?_ ?_
  · simp <;> simp [ieq, ilt, ile]
  refine VW.sqc fun K2 hK2 hCK2 => ?_
  -- region 3
  refine VW.ws tau_ok Sound.none [some 7] [(0, .val (i64 a0)), (5, .ref 5 [] true (dM v1)), (6, .val (i64 0)), (7, .val (i64 0))] rfl ?_ ?_
  · simp <;> simp [ieq, ilt, ile]
  obtain ⟨x3, hx3, h⟩ := bind_some h
  refine VW.tlE [(5, .ref 5 [] false (dM x3.1)), (6, .val (i64 x3.2))] (hCK2) ?_ ?_
  · clear hx3
    refine hK2 _ ?_
    -- region 20
    obtain ⟨hc43, h⟩ := chk_some h
    have hc43s := hc43
    try simp at hc43s
    refine VW.ws tau_ok Sound.none [some 103, some 104, some 105, some 4] [(4, .ref 4 [] false (dM (x3.1.take x3.2.toNat)))] rfl ?_ ?_
    · simp [hc43, hc43s] <;> simp [ieq, ilt, ile]
    cases h
    refine VW.ret ?_
    simp [Post, PostM, PostC, PostC2, Nx, Bk]
  refine VW.block ?_
  refine VW.loopF (s_l02Basis_L0 a0) (fun s3 => [(0, .val (i64 a0)), (5, .ref 5 [] false (dM s3.1)), (6, .val (i64 s3.2.1)), (7, .val (i64 s3.2.2))]) hx3 (Fits.weak (s := 5) rfl (by simp) (Fits.of rfl)) ?_
  clear hx3
  intro s3 ox3 hx3o hx3b
  unfold s_l02Basis_L0 at hx3o
  refine VW.sqc fun K5 hK5 hCK5 => ?_
  -- region 4
  obtain ⟨x8, hx8, hx3o⟩ := bind_some hx3o
  refine VW.cut [(0, .val (i64 a0)), (5, .ref 5 [] false (dM s3.1)), (6, .val (i64 s3.2.1)), (7, .val (i64 s3.2.2)), (23, .val (.bool x8))] ?_ fun hy => ?_
  rotate_left
  · clear hx3o
    by_cases hp6 : 0 < (s3.1.length : Int)
    · rw [if_pos hp6] at hx8
      have hp6b : ilt 0 (s3.1.length : Int) = true := by simpa [ieq, ilt, ile] using hp6
      have hp6s := hp6b
      try simp at hp6s
      obtain ⟨v7, hv7, hx8⟩ := bind_some hx8
      obtain ⟨hv7a, hv7b, hv7c, hv7d⟩ := idx_some hv7
      replace hv7b : 0 < s3.1.length := hv7b
      replace hv7c : s3.1[0]? = some v7 := hv7c
      replace hv7d : ∀ h, s3.1[0]'h = v7 := hv7d
      cases hx8
      refine VW.ws tau_ok Sound.none [some 13, some 14, some 15, some 16, some 17, some 18, some 19, some 20, some 21, some 22, some 23] _ rfl ?_ hy
      simp [hp6b, hp6s, hv7a, hv7b, hv7c, hv7d] <;> simp [ieq, ilt, ile]
    · rw [if_neg hp6] at hx8
      have hp6b : ilt 0 (s3.1.length : Int) = false := by simpa [ieq, ilt, ile] using hp6
      have hp6s := hp6b
      try simp at hp6s
      cases hx8
      refine VW.ws tau_ok Sound.none [some 13, some 14, some 15, some 16, some 17, some 18, some 19, some 20, some 21, some 22, some 23] _ rfl ?_ hy
      simp [hp6b, hp6s] <;> simp [ieq, ilt, ile]
  refine VW.cond rfl (fun hb9 => ?_) (fun hb9 => ?_)
  rotate_left
  ·
    replace hb9 : ¬ (x8 = true) := by simpa [ieq, ilt, ile] using hb9
    rw [if_neg hb9] at hx3o
    refine VW.exit ?_
    cases hx3o
    have hq := hx3b _ rfl
    subst hq
    exact Fits.of rfl
  replace hb9 : x8 = true := by simpa [ieq, ilt, ile] using hb9
  rw [if_pos hb9] at hx3o
  refine VW.skip ?_
  refine hK5 _ ?_
  refine VW.sqc fun K10 hK10 hCK10 => ?_
  obtain ⟨x11, hx11, hx3o⟩ := bind_some hx3o
  refine VW.tlE [(0, .val (i64 a0)), (5, .ref 5 [] false (dM x11.1)), (6, .val (i64 x11.2)), (7, .val (i64 s3.2.2))] (hCK10) ?_ ?_
  · clear hx11
    refine hK10 _ ?_
    -- region 5
    refine VW.wr tau_ok Sound.none [some 24, some 25, some 7] [(0, .val (i64 a0)), (5, .ref 5 [] false (dM x11.1)), (6, .val (i64 x11.2)), (7, .val (i64 (w64 (s3.2.2 + 1))))] rfl ?_ ?_
    · simp <;> simp [ieq, ilt, ile]
    cases hx3o
    exact ⟨_, rfl, Fits.of rfl⟩
  refine VW.block ?_
  -- region 6
  refine VW.ws tau_ok Sound.none [some 26, some 8] [(0, .val (i64 a0)), (5, .ref 5 [] false (dM s3.1)), (6, .val (i64 s3.2.1)), (7, .val (i64 s3.2.2)), (8, .val (i64 s3.2.1))] rfl ?_ ?_
  · simp <;> simp [ieq, ilt, ile]
  refine VW.sqc fun K13 hK13 hCK13 => ?_
  obtain ⟨x14, hx14, hx11⟩ := bind_some hx11
  refine VW.tlE [(0, .val (i64 a0)), (5, .ref 5 [] false (dM s3.1)), (6, .val (i64 s3.2.1)), (7, .val (i64 s3.2.2)), (8, .val (i64 x14))] (hCK13) ?_ ?_
  · clear hx14
    refine hK13 _ ?_
    refine VW.sqc fun K22 hK22 hCK22 => ?_
    -- region 9
    refine VW.ws tau_ok Sound.none [some 43, some 44, some 45, some 46] [(0, .val (i64 a0)), (5, .ref 5 [] false (dM s3.1)), (6, .val (i64 s3.2.1)), (7, .val (i64 s3.2.2)), (8, .val (i64 x14)), (46, .val (.bool (ieq x14 (s3.1.length : Int))))] rfl ?_ ?_
    · simp <;> simp [ieq, ilt, ile]
    refine VW.cond rfl (fun hb23 => ?_) (fun hb23 => ?_)
    ·
      replace hb23 : x14 = (s3.1.length : Int) := by simpa [ieq, ilt, ile] using hb23
      rw [if_pos hb23] at hx11
      refine VW.exit ?_
      cases hx11
      exact Fits.of rfl
    replace hb23 : ¬ (x14 = (s3.1.length : Int)) := by simpa [ieq, ilt, ile] using hb23
    rw [if_neg hb23] at hx11
    refine VW.skip ?_
    refine hK22 _ ?_
    -- region 10
    obtain ⟨v24, hv24, hx11⟩ := bind_some hx11
    obtain ⟨hv24a, hv24b, hv24c, hv24d⟩ := idx_some hv24
    refine VW.ws tau_ok Sound.none [some 47, some 48, some 49, some 50, some 9] [(0, .val (i64 a0)), (5, .ref 5 [] false (dM s3.1)), (6, .val (i64 s3.2.1)), (7, .val (i64 s3.2.2)), (8, .val (i64 x14)), (9, .val (dI v24))] rfl ?_ ?_
    · simp [hv24a, hv24b, hv24c, hv24d] <;> simp [ieq, ilt, ile]
    -- region 11
    obtain ⟨v25, hv25, hx11⟩ := bind_some hx11
    obtain ⟨hv25a, hv25b, hv25c, hv25d⟩ := idx_some hv25
    refine VW.ws tau_ok Sound.none [some 51, some 52, some 53, some 54, some 55, some 56, some 57, none] [(0, .val (i64 a0)), (5, .ref 5 [] false (dM (s3.1.set x14.toNat v25))), (6, .val (i64 s3.2.1)), (7, .val (i64 s3.2.2)), (9, .val (dI v24))] rfl ?_ ?_
    · simp [hv25a, hv25b, hv25c, hv25d, hv24a, hv24b, hv24c, hv24d] <;> simp [ieq, ilt, ile]
    -- region 12
    obtain ⟨v26, hv26, hx11⟩ := bind_some hx11
    obtain ⟨hv26a, hv26b, hv26c, hv26d⟩ := idx_some hv26
    obtain ⟨v27, hv27, hx11⟩ := bind_some hx11
    obtain ⟨v28, hv28, hx11⟩ := bind_some hx11
    refine VW.ws tau_ok ((Sound.none.add 65 (s_l01Inv_ok hv27) rfl).add 66 (s_l02Scale_ok hv28) rfl) [some 58, some 59, some 60, some 61, some 62, some 63, some 64, some 65, some 66, some 9] [(0, .val (i64 a0)), (5, .ref 5 [] false (dM (s3.1.set x14.toNat v25))), (6, .val (i64 s3.2.1)), (7, .val (i64 s3.2.2)), (9, .ref 9 [] true (dI v28))] rfl ?_ ?_
    · simp [hv26a, hv26b, hv26c, hv26d] <;> simp [ieq, ilt, ile]
    refine VW.fits (fl' := [(0, .val (i64 a0)), (5, .ref 5 [] false (dM (s3.1.set x14.toNat v25))), (6, .val (i64 s3.2.1)), (7, .val (i64 s3.2.2)), (9, .val (dI v28))]) (Fits.freeze (s := 9) rfl (by simp) (Fits.of rfl)) ?_
    obtain ⟨l29, hl29, hx11⟩ := bind_some hx11
    rw [Option.some.inj hl29]
    -- region 13
    obtain ⟨v30, hv30, hx11⟩ := bind_some hx11
    obtain ⟨hv30a, hv30b, hv30c, hv30d⟩ := idx_some hv30
    refine VW.ws tau_ok Sound.none [some 67, some 68, some 69, some 70, none] [(0, .val (i64 a0)), (5, .ref 5 [] false (dM (l29.set s3.2.1.toNat v28))), (6, .val (i64 s3.2.1)), (7, .val (i64 s3.2.2)), (9, .val (dI v28))] rfl ?_ ?_
    · simp [hv30a, hv30b, hv30c, hv30d] <;> simp [ieq, ilt, ile]
    refine VW.sqc fun K31 hK31 hCK31 => ?_
    -- region 14
    refine VW.ws tau_ok Sound.none [some 10] [(0, .val (i64 a0)), (5, .ref 5 [] false (dM (l29.set s3.2.1.toNat v28))), (6, .val (i64 s3.2.1)), (7, .val (i64 s3.2.2)), (9, .val (dI v28)), (10, .val (i64 0))] rfl ?_ ?_
    · simp <;> simp [ieq, ilt, ile]
    obtain ⟨x32, hx32, hx11⟩ := bind_some hx11
    refine VW.tlE [(0, .val (i64 a0)), (5, .ref 5 [] false (dM x32)), (6, .val (i64 s3.2.1)), (7, .val (i64 s3.2.2))] (hCK31) ?_ ?_
    · clear hx32
      refine hK31 _ ?_
      -- region 19
      refine VW.wr tau_ok Sound.none [some 101, some 102, some 6] [(0, .val (i64 a0)), (5, .ref 5 [] false (dM x32)), (6, .val (i64 (w64 (s3.2.1 + 1)))), (7, .val (i64 s3.2.2))] rfl ?_ ?_
      · simp <;> simp [ieq, ilt, ile]
      cases hx11
      exact Fits.of rfl
    refine VW.block ?_
    refine VW.loopF (s_l02Basis_L2 a0 s3 v28) (fun s32 => [(0, .val (i64 a0)), (5, .ref 5 [] false (dM s32.1)), (6, .val (i64 s3.2.1)), (7, .val (i64 s3.2.2)), (9, .val (dI v28)), (10, .val (i64 s32.2))]) hx32 (Fits.of rfl) ?_
    clear hx32
    intro s32 ox32 hx32o hx32b
    unfold s_l02Basis_L2 at hx32o
    refine VW.sqc fun K34 hK34 hCK34 => ?_
    -- region 15
    refine VW.ws tau_ok Sound.none [some 71, some 72, some 73, some 74] [(0, .val (i64 a0)), (5, .ref 5 [] false (dM s32.1)), (6, .val (i64 s3.2.1)), (7, .val (i64 s3.2.2)), (9, .val (dI v28)), (10, .val (i64 s32.2)), (74, .val (.bool (ilt s32.2 (s32.1.length : Int))))] rfl ?_ ?_
    · simp <;> simp [ieq, ilt, ile]
    refine VW.cond rfl (fun hb35 => ?_) (fun hb35 => ?_)
    rotate_left
    ·
      replace hb35 : ¬ (s32.2 < (s32.1.length : Int)) := by simpa [ieq, ilt, ile] using hb35
      rw [if_neg hb35] at hx32o
      refine VW.exit ?_
      cases hx32o
      have hq := hx32b _ rfl
      subst hq
      exact Fits.of rfl
    replace hb35 : s32.2 < (s32.1.length : Int) := by simpa [ieq, ilt, ile] using hb35
    rw [if_pos hb35] at hx32o
    refine VW.skip ?_
    refine hK34 _ ?_
    obtain ⟨x36, hx36, hx32o⟩ := bind_some hx32o
    refine VW.sqE [(0, .val (i64 a0)), (5, .ref 5 [] false (dM x36)), (6, .val (i64 s3.2.1)), (7, .val (i64 s3.2.2)), (9, .val (dI v28)), (10, .val (i64 s32.2))] ?_ ?_
    · clear hx36
      -- region 16
      refine VW.wr tau_ok Sound.none [some 75, some 76, some 10] [(0, .val (i64 a0)), (5, .ref 5 [] false (dM x36)), (6, .val (i64 s3.2.1)), (7, .val (i64 s3.2.2)), (9, .val (dI v28)), (10, .val (i64 (w64 (s32.2 + 1))))] rfl ?_ ?_
      · simp <;> simp [ieq, ilt, ile]
      cases hx32o
      exact ⟨_, rfl, Fits.of rfl⟩
    refine VW.block ?_
    -- region 17
    refine VW.ws tau_ok Sound.none [some 77, some 78, some 79] [(0, .val (i64 a0)), (5, .ref 5 [] false (dM s32.1)), (6, .val (i64 s3.2.1)), (7, .val (i64 s3.2.2)), (9, .val (dI v28)), (10, .val (i64 s32.2)), (79, .val (.bool (!(ieq s32.2 s3.2.1))))] rfl ?_ ?_
    · simp <;> simp [ieq, ilt, ile]
    refine VW.cond rfl (fun hb38 => ?_) (fun hb38 => ?_)
    rotate_left
    ·
      replace hb38 : ¬ (¬ s32.2 = s3.2.1) := by simpa [ieq, ilt, ile] using hb38
      rw [if_neg hb38] at hx36
      refine VW.skip ?_
      cases hx36
      exact Fits.of rfl
    replace hb38 : ¬ s32.2 = s3.2.1 := by simpa [ieq, ilt, ile] using hb38
    rw [if_pos hb38] at hx36
    -- region 18
    obtain ⟨v39, hv39, hx36⟩ := bind_some hx36
    obtain ⟨hv39a, hv39b, hv39c, hv39d⟩ := idx_some hv39
    obtain ⟨v40, hv40, hx36⟩ := bind_some hx36
    obtain ⟨hv40a, hv40b, hv40c, hv40d⟩ := idx_some hv40
    obtain ⟨hc41, hx36⟩ := chk_some hx36
    have hc41s := hc41
    try simp at hc41s
    obtain ⟨v42, hv42, hx36⟩ := bind_some hx36
    refine VW.wdr tau_ok (Sound.none.add 99 (s_l02Plus_ok hv42) rfl) try_mixed [some 80, some 81, some 82, some 83, some 84, some 85, some 86, some 87, some 88, some 89, some 90, some 91, some 92, some 93, some 94, some 95, some 96, some 97, some 98, some 99, some 100, none] [(0, .val (i64 a0)), (5, .ref 5 [] false (dM (s32.1.set s32.2.toNat v42))), (6, .val (i64 s3.2.1)), (7, .val (i64 s3.2.2)), (9, .val (dI v28)), (10, .val (i64 s32.2))] 21 rfl (by kernel_rfl) (by rfl) ?_ ?_
    · simp [hv39a, hv39b, hv39c, hv39d, hv40a, hv40b, hv40c, hv40d, hc41, hc41s] <;> simp [ieq, ilt, ile]
    cases hx36
    exact Fits.of rfl
  refine VW.block ?_
  refine VW.loopF (s_l02Basis_L1 s3) (fun s14 => [(0, .val (i64 a0)), (5, .ref 5 [] false (dM s3.1)), (6, .val (i64 s3.2.1)), (7, .val (i64 s3.2.2)), (8, .val (i64 s14))]) hx14 (Fits.of rfl) ?_
  clear hx14
  intro s14 ox14 hx14o hx14b
  unfold s_l02Basis_L1 at hx14o
  refine VW.sqc fun K16 hK16 hCK16 => ?_
  -- region 7
  obtain ⟨x20, hx20, hx14o⟩ := bind_some hx14o
  refine VW.cut [(0, .val (i64 a0)), (5, .ref 5 [] false (dM s3.1)), (6, .val (i64 s3.2.1)), (7, .val (i64 s3.2.2)), (8, .val (i64 s14)), (40, .val (.bool x20))] ?_ fun hy => ?_
  rotate_left
  · clear hx14o
    by_cases hp17 : s14 < (s3.1.length : Int)
    · rw [if_pos hp17] at hx20
      have hp17b : ilt s14 (s3.1.length : Int) = true := by simpa [ieq, ilt, ile] using hp17
      have hp17s := hp17b
      try simp at hp17s
      obtain ⟨v18, hv18, hx20⟩ := bind_some hx20
      obtain ⟨hv18a, hv18b, hv18c, hv18d⟩ := idx_some hv18
      obtain ⟨v19, hv19, hx20⟩ := bind_some hx20
      obtain ⟨hv19a, hv19b, hv19c, hv19d⟩ := idx_some hv19
      cases hx20
      refine VW.ws tau_ok Sound.none [some 27, some 28, some 29, some 30, some 31, some 32, some 33, some 34, some 35, some 36, some 37, some 38, some 39, some 40] _ rfl ?_ hy
      simp [hp17b, hp17s, hv18a, hv18b, hv18c, hv18d, hv19a, hv19b, hv19c, hv19d] <;> simp [ieq, ilt, ile]
    · rw [if_neg hp17] at hx20
      have hp17b : ilt s14 (s3.1.length : Int) = false := by simpa [ieq, ilt, ile] using hp17
      have hp17s := hp17b
      try simp at hp17s
      cases hx20
      refine VW.ws tau_ok Sound.none [some 27, some 28, some 29, some 30, some 31, some 32, some 33, some 34, some 35, some 36, some 37, some 38, some 39, some 40] _ rfl ?_ hy
      simp [hp17b, hp17s] <;> simp [ieq, ilt, ile]
  refine VW.cond rfl (fun hb21 => ?_) (fun hb21 => ?_)
  rotate_left
  ·
    replace hb21 : ¬ (x20 = true) := by simpa [ieq, ilt, ile] using hb21
    rw [if_neg hb21] at hx14o
    refine VW.exit ?_
    cases hx14o
    have hq := hx14b _ rfl
    subst hq
    exact Fits.of rfl
  replace hb21 : x20 = true := by simpa [ieq, ilt, ile] using hb21
  rw [if_pos hb21] at hx14o
  refine VW.skip ?_
  refine hK16 _ ?_
  refine VW.block ?_
  -- region 8
  refine VW.wr tau_ok Sound.none [some 41, some 42, some 8] [(0, .val (i64 a0)), (5, .ref 5 [] false (dM s3.1)), (6, .val (i64 s3.2.1)), (7, .val (i64 s3.2.2)), (8, .val (i64 (w64 (s14 + 1))))] rfl ?_ ?_
  · simp <;> simp [ieq, ilt, ile]
  cases hx14o
  exact ⟨_, rfl, Fits.of rfl⟩

theorem s_l02First_ok {a0 : List Int} {r : Int} (h : s_l02First a0 = some r) :
    VCall Try.prog 213 [dI a0] [.sc (i64 r)] := by
  unfold s_l02First at h
  refine VCall.enter Try.call213 Try.func213 rfl 16 Try.ntmps213 (by simp) [.tmp 2] rfl ?_
  show VW _ _ _ (mk [(0, .val (dI a0))]) _
  -- region 0
  refine VW.ws tau_ok Sound.none [some 2] [(0, .val (dI a0))] rfl ?_ ?_
  · simp <;> simp [ieq, ilt, ile]
  refine VW.sqc fun K1 hK1 hCK1 => ?_
  -- region 1
  refine VW.ws tau_ok Sound.none [some 3] [(0, .val (dI a0)), (3, .val (i64 0))] rfl ?_ ?_
  · simp <;> simp [ieq, ilt, ile]
  obtain ⟨x2, hx2, h⟩ := bind_some h
  refine VW.tlO (fun y4 => []) x2 (hCK1) ?_ ?_
  · clear hx2
    rintro y4 rfl
    dsimp only at h
    refine hK1 _ ?_
    -- region 6
    refine VW.ws tau_ok Sound.none [some 2] [(2, .val (i64 (-1)))] rfl ?_ ?_
    · simp <;> simp [ieq, ilt, ile]
    cases h
    refine VW.ret ?_
    simp [Post, PostM, PostC, PostC2, Nx, Bk]
  refine VW.block ?_
  refine VW.loopF (s_l02First_L0 a0) (fun s2 => [(0, .val (dI a0)), (3, .val (i64 s2))]) hx2 (Fits.of rfl) ?_
  clear hx2
  intro s2 ox2 hx2o hx2b
  unfold s_l02First_L0 at hx2o
  refine VW.sqc fun K5 hK5 hCK5 => ?_
  -- region 2
  refine VW.ws tau_ok Sound.none [some 4, some 5, some 6, some 7] [(0, .val (dI a0)), (3, .val (i64 s2)), (7, .val (.bool (ilt s2 (a0.length : Int))))] rfl ?_ ?_
  · simp <;> simp [ieq, ilt, ile]
  refine VW.cond rfl (fun hb6 => ?_) (fun hb6 => ?_)
  rotate_left
  ·
    replace hb6 : ¬ (s2 < (a0.length : Int)) := by simpa [ieq, ilt, ile] using hb6
    rw [if_neg hb6] at hx2o
    refine VW.exit ?_
    cases hx2o
    have hq := hx2b _ rfl
    subst hq
    exact ⟨_, rfl, Fits.of rfl⟩
  replace hb6 : s2 < (a0.length : Int) := by simpa [ieq, ilt, ile] using hb6
  rw [if_pos hb6] at hx2o
  refine VW.skip ?_
  refine hK5 _ ?_
  refine VW.sqc fun K7 hK7 hCK7 => ?_
  refine VW.block ?_
  -- region 4
  obtain ⟨v8, hv8, hx2o⟩ := bind_some hx2o
  obtain ⟨hv8a, hv8b, hv8c, hv8d⟩ := idx_some hv8
  refine VW.ws tau_ok Sound.none [some 10, some 11, some 12, some 13, some 14] [(0, .val (dI a0)), (3, .val (i64 s2)), (14, .val (.bool (!(ieq v8 0))))] rfl ?_ ?_
  · simp [hv8a, hv8b, hv8c, hv8d] <;> simp [ieq, ilt, ile]
  refine VW.cond rfl (fun hb9 => ?_) (fun hb9 => ?_)
  rotate_left
  ·
    replace hb9 : ¬ (¬ v8 = 0) := by simpa [ieq, ilt, ile] using hb9
    rw [if_neg hb9] at hx2o
    refine VW.skip ?_
    refine hK7 _ ?_
    -- region 3
    refine VW.wr tau_ok Sound.none [some 8, some 9, some 3] [(0, .val (dI a0)), (3, .val (i64 (w64 (s2 + 1))))] rfl ?_ ?_
    · simp <;> simp [ieq, ilt, ile]
    cases hx2o
    exact ⟨_, rfl, Fits.of rfl⟩
  replace hb9 : ¬ v8 = 0 := by simpa [ieq, ilt, ile] using hb9
  rw [if_pos hb9] at hx2o
  -- region 5
  refine VW.ws tau_ok Sound.none [some 15, some 2] [(2, .val (i64 s2))] rfl ?_ ?_
  · simp <;> simp [ieq, ilt, ile]
  cases hx2o
  have hq := hx2b _ rfl
  subst hq
  dsimp only at h
  cases h
  refine VW.ret ?_
  simp [Post, PostM, PostC, PostC2, Nx, Bk]

theorem s_l01Index_ok {a0 : List Int} {a1 : Int} {r : Int} (h : s_l01Index a0 a1 = some r) :
    VCall Try.prog 234 [dI a0, i64 a1] [.sc (i64 r)] := by
  unfold s_l01Index at h
  refine VCall.enter Try.call234 Try.func234 rfl 19 Try.ntmps234 (by simp) [.tmp 4] rfl ?_
  show VW _ _ _ (mk [(0, .val (dI a0)), (1, .val (i64 a1))]) _
  -- region 0
  refine VW.ws tau_ok Sound.none [some 4] [(0, .val (dI a0)), (1, .val (i64 a1))] rfl ?_ ?_
  · simp <;> simp [ieq, ilt, ile]
  refine VW.sqc fun K1 hK1 hCK1 => ?_
  -- region 1
  refine VW.ws tau_ok Sound.none [some 5] [(0, .val (dI a0)), (1, .val (i64 a1)), (5, .val (i64 0))] rfl ?_ ?_
  · simp <;> simp [ieq, ilt, ile]
  obtain ⟨x2, hx2, h⟩ := bind_some h
  refine VW.tlO (fun y4 => []) x2 (hCK1) ?_ ?_
  · clear hx2
    rintro y4 rfl
    dsimp only at h
    refine hK1 _ ?_
    -- region 6
    refine VW.ws tau_ok Sound.none [some 4] [(4, .val (i64 (-1)))] rfl ?_ ?_
    · simp <;> simp [ieq, ilt, ile]
    cases h
    refine VW.ret ?_
    simp [Post, PostM, PostC, PostC2, Nx, Bk]
  refine VW.block ?_
  refine VW.loopF (s_l01Index_L0 a0 a1) (fun s2 => [(0, .val (dI a0)), (1, .val (i64 a1)), (5, .val (i64 s2))]) hx2 (Fits.of rfl) ?_
  clear hx2
  intro s2 ox2 hx2o hx2b
  unfold s_l01Index_L0 at hx2o
  refine VW.sqc fun K5 hK5 hCK5 => ?_
  -- region 2
  refine VW.ws tau_ok Sound.none [some 6, some 7, some 8, some 9] [(0, .val (dI a0)), (1, .val (i64 a1)), (5, .val (i64 s2)), (9, .val (.bool (ilt s2 (a0.length : Int))))] rfl ?_ ?_
  · simp <;> simp [ieq, ilt, ile]
  refine VW.cond rfl (fun hb6 => ?_) (fun hb6 => ?_)
  rotate_left
  ·
    replace hb6 : ¬ (s2 < (a0.length : Int)) := by simpa [ieq, ilt, ile] using hb6
    rw [if_neg hb6] at hx2o
    refine VW.exit ?_
    cases hx2o
    have hq := hx2b _ rfl
    subst hq
    exact ⟨_, rfl, Fits.of rfl⟩
  replace hb6 : s2 < (a0.length : Int) := by simpa [ieq, ilt, ile] using hb6
  rw [if_pos hb6] at hx2o
  refine VW.skip ?_
  refine hK5 _ ?_
  refine VW.sqc fun K7 hK7 hCK7 => ?_
  refine VW.block ?_
  -- region 4
  obtain ⟨v8, hv8, hx2o⟩ := bind_some hx2o
  obtain ⟨hv8a, hv8b, hv8c, hv8d⟩ := idx_some hv8
  refine VW.ws tau_ok Sound.none [some 12, some 13, some 14, some 15, some 16, some 17] [(0, .val (dI a0)), (1, .val (i64 a1)), (5, .val (i64 s2)), (17, .val (.bool (ieq v8 a1)))] rfl ?_ ?_
  · simp [hv8a, hv8b, hv8c, hv8d] <;> simp [ieq, ilt, ile]
  refine VW.cond rfl (fun hb9 => ?_) (fun hb9 => ?_)
  rotate_left
  ·
    replace hb9 : ¬ (v8 = a1) := by simpa [ieq, ilt, ile] using hb9
    rw [if_neg hb9] at hx2o
    refine VW.skip ?_
    refine hK7 _ ?_
    -- region 3
    refine VW.wr tau_ok Sound.none [some 10, some 11, some 5] [(0, .val (dI a0)), (1, .val (i64 a1)), (5, .val (i64 (w64 (s2 + 1))))] rfl ?_ ?_
    · simp <;> simp [ieq, ilt, ile]
    cases hx2o
    exact ⟨_, rfl, Fits.of rfl⟩
  replace hb9 : v8 = a1 := by simpa [ieq, ilt, ile] using hb9
  rw [if_pos hb9] at hx2o
  -- region 5
  refine VW.ws tau_ok Sound.none [some 18, some 4] [(4, .val (i64 s2))] rfl ?_ ?_
  · simp <;> simp [ieq, ilt, ile]
  cases hx2o
  have hq := hx2b _ rfl
  subst hq
  dsimp only at h
  cases h
  refine VW.ret ?_
  simp [Post, PostM, PostC, PostC2, Nx, Bk]

theorem s_l01Has_ok {a0 : List Int} {a1 : Int} {r : Bool} (h : s_l01Has a0 a1 = some r) :
    VCall Try.prog 214 [dI a0, i64 a1] [.sc (.bool r)] := by
  unfold s_l01Has at h
  refine VCall.enter Try.call214 Try.func214 rfl 9 Try.ntmps214 (by simp) [.tmp 4] rfl ?_
  show VW _ _ _ (mk [(0, .val (dI a0)), (1, .val (i64 a1))]) _
  -- region 0
  refine VW.ws tau_ok Sound.none [some 4] [(0, .val (dI a0)), (1, .val (i64 a1))] rfl ?_ ?_
  · simp <;> simp [ieq, ilt, ile]
  -- region 1
  obtain ⟨v1, hv1, h⟩ := bind_some h
  refine VW.ws tau_ok (Sound.none.add 7 (s_l01Index_ok hv1) rfl) [some 5, some 6, some 7, some 8, some 4] [(4, .val (.bool (ile 0 v1)))] rfl ?_ ?_
  · simp <;> simp [ieq, ilt, ile]
  cases h
  refine VW.ret ?_
  simp [Post, PostM, PostC, PostC2, Nx, Bk]

theorem s_l02Kernel_ok {a0 : Int} {a1 : List (List Int)} {r : List (List Int)} (h : s_l02Kernel a0 a1 = some r) :
    VCall Try.prog 140 [i64 a0, dM a1] [.own true (dM r)] := by
  unfold s_l02Kernel at h
  refine VCall.enter Try.call140 Try.func140 rfl 80 Try.ntmps140 (by simp) [.tmp 4] rfl ?_
  show VW _ _ _ (mk [(0, .val (i64 a0)), (1, .val (dM a1))]) _
  -- region 0
  refine VW.ws tau_ok Sound.none [some 4] [(0, .val (i64 a0)), (1, .val (dM a1))] rfl ?_ ?_
  · simp <;> simp [ieq, ilt, ile]
  -- region 1
  obtain ⟨v1, hv1, h⟩ := bind_some h
  obtain ⟨v2, hv2, h⟩ := bind_some h
  obtain ⟨hv2a, hv2b, hv2c, hv2d⟩ := idx_some hv2
  replace hv2b : 0 < a1.length := hv2b
  replace hv2c : a1[0]? = some v2 := hv2c
  replace hv2d : ∀ h, a1[0]'h = v2 := hv2d
  refine VW.wds tau_ok (Sound.none.add 15 (VCall.frz (s_l02Basis_ok hv1)) rfl) try_mixed [some 13, some 14, some 15, some 16, some 17, some 18, some 19, some 5, some 6] [(0, .val (i64 a0)), (5, .val (dM v1)), (6, .val (i64 (v2.length : Int)))] 9 rfl (by kernel_rfl) (by rfl) ?_ ?_
  · simp [hv2a, hv2b, hv2c, hv2d] <;> simp [ieq, ilt, ile]
  -- region 2
  refine VW.ws tau_ok Sound.none [some 20, some 21, some 7, some 8] [(0, .val (i64 a0)), (5, .val (dM v1)), (6, .val (i64 (v2.length : Int))), (7, .ref 7 [] true (dI [])), (8, .ref 8 [] true (dM []))] rfl ?_ ?_
  · simp <;> simp [ieq, ilt, ile]
  refine VW.sqc fun K3 hK3 hCK3 => ?_
  -- region 3
  refine VW.ws tau_ok Sound.none [some 9] [(0, .val (i64 a0)), (5, .val (dM v1)), (6, .val (i64 (v2.length : Int))), (7, .ref 7 [] true (dI [])), (8, .ref 8 [] true (dM [])), (9, .val (i64 0))] rfl ?_ ?_
  · simp <;> simp [ieq, ilt, ile]
  obtain ⟨x4, hx4, h⟩ := bind_some h
  refine VW.tlE [(0, .val (i64 a0)), (5, .val (dM v1)), (6, .val (i64 (v2.length : Int))), (7, .ref 7 [] true (dI x4)), (8, .ref 8 [] true (dM []))] (hCK3) ?_ ?_
  · clear hx4
    refine hK3 _ ?_
    refine VW.sqc fun K12 hK12 hCK12 => ?_
    -- region 7
    refine VW.ws tau_ok Sound.none [some 10] [(0, .val (i64 a0)), (5, .val (dM v1)), (6, .val (i64 (v2.length : Int))), (7, .ref 7 [] true (dI x4)), (8, .ref 8 [] true (dM [])), (10, .val (i64 0))] rfl ?_ ?_
    · simp <;> simp [ieq, ilt, ile]
    obtain ⟨x13, hx13, h⟩ := bind_some h
    refine VW.tlE [(0, .val (i64 a0)), (8, .ref 8 [] true (dM x13))] (hCK12) ?_ ?_
    · clear hx13
      refine hK12 _ ?_
      -- region 18
      obtain ⟨v38, hv38, h⟩ := bind_some h
      obtain ⟨v39, hv39, h⟩ := bind_some h
      refine VW.ws tau_ok ((Sound.none.add 78 (s_l02Basis_ok hv38) rfl).add 79 (s_l01Own2_ok hv39) rfl) [some 76, some 77, some 78, some 79, some 4] [(4, .ref 4 [] true (dM v39))] rfl ?_ ?_
      · simp <;> simp [ieq, ilt, ile]
      cases h
      refine VW.ret ?_
      simp [Post, PostM, PostC, PostC2, Nx, Bk]
    refine VW.block ?_
    refine VW.loopF (s_l02Kernel_L1 a0 v1 v2 x4) (fun s13 => [(0, .val (i64 a0)), (5, .val (dM v1)), (6, .val (i64 (v2.length : Int))), (7, .ref 7 [] true (dI x4)), (8, .ref 8 [] true (dM s13.1)), (10, .val (i64 s13.2))]) hx13 (Fits.of rfl) ?_
    clear hx13
    intro s13 ox13 hx13o hx13b
    unfold s_l02Kernel_L1 at hx13o
    refine VW.sqc fun K15 hK15 hCK15 => ?_
    -- region 8
    refine VW.ws tau_ok Sound.none [some 36, some 37, some 38] [(0, .val (i64 a0)), (5, .val (dM v1)), (6, .val (i64 (v2.length : Int))), (7, .ref 7 [] true (dI x4)), (8, .ref 8 [] true (dM s13.1)), (10, .val (i64 s13.2)), (38, .val (.bool (ilt s13.2 (v2.length : Int))))] rfl ?_ ?_
    · simp <;> simp [ieq, ilt, ile]
    refine VW.cond rfl (fun hb16 => ?_) (fun hb16 => ?_)
    rotate_left
    ·
      replace hb16 : ¬ (s13.2 < (v2.length : Int)) := by simpa [ieq, ilt, ile] using hb16
      rw [if_neg hb16] at hx13o
      refine VW.exit ?_
      cases hx13o
      have hq := hx13b _ rfl
      subst hq
      exact Fits.of rfl
    replace hb16 : s13.2 < (v2.length : Int) := by simpa [ieq, ilt, ile] using hb16
    rw [if_pos hb16] at hx13o
    refine VW.skip ?_
    refine hK15 _ ?_
    refine VW.sqc fun K17 hK17 hCK17 => ?_
    obtain ⟨x18, hx18, hx13o⟩ := bind_some hx13o
    refine VW.tlE [(0, .val (i64 a0)), (5, .val (dM v1)), (6, .val (i64 (v2.length : Int))), (7, .ref 7 [] true (dI x4)), (8, .ref 8 [] true (dM x18)), (10, .val (i64 s13.2))] (hCK17) ?_ ?_
    · clear hx18
      refine hK17 _ ?_
      -- region 9
      refine VW.wr tau_ok Sound.none [some 39, some 40, some 10] [(0, .val (i64 a0)), (5, .val (dM v1)), (6, .val (i64 (v2.length : Int))), (7, .ref 7 [] true (dI x4)), (8, .ref 8 [] true (dM x18)), (10, .val (i64 (w64 (s13.2 + 1))))] rfl ?_ ?_
      · simp <;> simp [ieq, ilt, ile]
      cases hx13o
      exact ⟨_, rfl, Fits.of rfl⟩
    refine VW.block ?_
    refine VW.sqc fun K20 hK20 hCK20 => ?_
    -- region 10
    obtain ⟨v21, hv21, hx18⟩ := bind_some hx18
    refine VW.ws tau_ok (Sound.none.add 43 (s_l01Has_ok hv21) rfl) [some 41, some 42, some 43] [(0, .val (i64 a0)), (5, .val (dM v1)), (6, .val (i64 (v2.length : Int))), (7, .ref 7 [] true (dI x4)), (8, .ref 8 [] true (dM s13.1)), (10, .val (i64 s13.2)), (43, .val (.bool v21))] rfl ?_ ?_
    · simp <;> simp [ieq, ilt, ile]
    refine VW.cond rfl (fun hb22 => ?_) (fun hb22 => ?_)
    ·
      replace hb22 : v21 = true := by simpa [ieq, ilt, ile] using hb22
      rw [if_pos hb22] at hx18
      refine VW.exit ?_
      cases hx18
      exact Fits.of rfl
    replace hb22 : ¬ (v21 = true) := by simpa [ieq, ilt, ile] using hb22
    rw [if_neg hb22] at hx18
    refine VW.skip ?_
    refine hK20 _ ?_
    -- region 11
    obtain ⟨hc23, hx18⟩ := chk_some hx18
    have hc23s := hc23
    try simp at hc23s
    refine VW.ws tau_ok Sound.none [some 44, some 45, some 11] [(0, .val (i64 a0)), (5, .val (dM v1)), (6, .val (i64 (v2.length : Int))), (7, .ref 7 [] true (dI x4)), (8, .ref 8 [] true (dM s13.1)), (10, .val (i64 s13.2)), (11, .ref 11 [] true (dI (List.replicate (v2.length : Int).toNat 0)))] rfl ?_ ?_
    · simp [hc23, hc23s] <;> simp [ieq, ilt, ile]
    obtain ⟨l24, hl24, hx18⟩ := bind_some hx18
    rw [Option.some.inj hl24]
    -- region 12
    obtain ⟨v25, hv25, hx18⟩ := bind_some hx18
    obtain ⟨hv25a, hv25b, hv25c, hv25d⟩ := idx_some hv25
    refine VW.ws tau_ok Sound.none [some 46, some 47, some 48, none] [(0, .val (i64 a0)), (5, .val (dM v1)), (6, .val (i64 (v2.length : Int))), (7, .ref 7 [] true (dI x4)), (8, .ref 8 [] true (dM s13.1)), (10, .val (i64 s13.2)), (11, .ref 11 [] true (dI (l24.set s13.2.toNat 1)))] rfl ?_ ?_
    · simp [hv25a, hv25b, hv25c, hv25d] <;> simp [ieq, ilt, ile]
    refine VW.sqc fun K26 hK26 hCK26 => ?_
    -- region 13
    refine VW.ws tau_ok Sound.none [some 12] [(0, .val (i64 a0)), (5, .val (dM v1)), (6, .val (i64 (v2.length : Int))), (7, .ref 7 [] true (dI x4)), (8, .ref 8 [] true (dM s13.1)), (10, .val (i64 s13.2)), (11, .ref 11 [] true (dI (l24.set s13.2.toNat 1))), (12, .val (i64 0))] rfl ?_ ?_
    · simp <;> simp [ieq, ilt, ile]
    obtain ⟨x27, hx27, hx18⟩ := bind_some hx18
    refine VW.tlE [(0, .val (i64 a0)), (5, .val (dM v1)), (6, .val (i64 (v2.length : Int))), (7, .ref 7 [] true (dI x4)), (8, .ref 8 [] true (dM s13.1)), (10, .val (i64 s13.2)), (11, .ref 11 [] true (dI x27))] (hCK26) ?_ ?_
    · clear hx27
      refine hK26 _ ?_
      -- region 17
      obtain ⟨hc37, hx18⟩ := chk_some hx18
      have hc37s := hc37
      try simp at hc37s
      refine VW.wr tau_ok Sound.none [some 72, some 73, some 74, some 75, some 8] [(0, .val (i64 a0)), (5, .val (dM v1)), (6, .val (i64 (v2.length : Int))), (7, .ref 7 [] true (dI x4)), (8, .ref 8 [] true (dM (s13.1 ++ [x27]))), (10, .val (i64 s13.2))] rfl ?_ ?_
      · simp [hc37, hc37s] <;> simp [ieq, ilt, ile]
      cases hx18
      exact Fits.of rfl
    refine VW.block ?_
    refine VW.loopF (s_l02Kernel_L2 a0 v1 x4 s13) (fun s27 => [(0, .val (i64 a0)), (5, .val (dM v1)), (6, .val (i64 (v2.length : Int))), (7, .ref 7 [] true (dI x4)), (8, .ref 8 [] true (dM s13.1)), (10, .val (i64 s13.2)), (11, .ref 11 [] true (dI s27.1)), (12, .val (i64 s27.2))]) hx27 (Fits.of rfl) ?_
    clear hx27
    intro s27 ox27 hx27o hx27b
    unfold s_l02Kernel_L2 at hx27o
    refine VW.sqc fun K29 hK29 hCK29 => ?_
    -- region 14
    refine VW.ws tau_ok Sound.none [some 49, some 50, some 51, some 52] [(0, .val (i64 a0)), (5, .val (dM v1)), (6, .val (i64 (v2.length : Int))), (7, .ref 7 [] true (dI x4)), (8, .ref 8 [] true (dM s13.1)), (10, .val (i64 s13.2)), (11, .ref 11 [] true (dI s27.1)), (12, .val (i64 s27.2)), (52, .val (.bool (ilt s27.2 (v1.length : Int))))] rfl ?_ ?_
    · simp <;> simp [ieq, ilt, ile]
    refine VW.cond rfl (fun hb30 => ?_) (fun hb30 => ?_)
    rotate_left
    ·
      replace hb30 : ¬ (s27.2 < (v1.length : Int)) := by simpa [ieq, ilt, ile] using hb30
      rw [if_neg hb30] at hx27o
      refine VW.exit ?_
      cases hx27o
      have hq := hx27b _ rfl
      subst hq
      exact Fits.of rfl
    replace hb30 : s27.2 < (v1.length : Int) := by simpa [ieq, ilt, ile] using hb30
    rw [if_pos hb30] at hx27o
    refine VW.skip ?_
    refine hK29 _ ?_
    refine VW.sqc fun K31 hK31 hCK31 => ?_
    refine VW.block ?_
    -- region 16
    obtain ⟨v32, hv32, hx27o⟩ := bind_some hx27o
    obtain ⟨hv32a, hv32b, hv32c, hv32d⟩ := idx_some hv32
    obtain ⟨v33, hv33, hx27o⟩ := bind_some hx27o
    obtain ⟨hv33a, hv33b, hv33c, hv33d⟩ := idx_some hv33
    obtain ⟨v34, hv34, hx27o⟩ := bind_some hx27o
    obtain ⟨hv34a, hv34b, hv34c, hv34d⟩ := idx_some hv34
    obtain ⟨hc35, hx27o⟩ := chk_some hx27o
    have hc35s := hc35
    try simp at hc35s
    obtain ⟨v36, hv36, hx27o⟩ := bind_some hx27o
    obtain ⟨hv36a, hv36b, hv36c, hv36d⟩ := idx_some hv36
    refine VW.wdr tau_ok Sound.none try_mixed [some 55, some 56, some 57, some 58, some 59, some 60, some 61, some 62, some 63, some 64, some 65, some 66, some 67, some 68, some 69, some 70, some 71, none] [(0, .val (i64 a0)), (5, .val (dM v1)), (6, .val (i64 (v2.length : Int))), (7, .ref 7 [] true (dI x4)), (8, .ref 8 [] true (dM s13.1)), (10, .val (i64 s13.2)), (11, .ref 11 [] true (dI (s27.1.set v32.toNat ((w64 (a0 - v34)).tmod a0)))), (12, .val (i64 s27.2))] 17 rfl (by kernel_rfl) (by rfl) ?_ ?_
    · simp [hv32a, hv32b, hv32c, hv32d, hv33a, hv33b, hv33c, hv33d, hv34a, hv34b, hv34c, hv34d, hc35, hc35s, hv36a, hv36b, hv36c, hv36d] <;> simp [ieq, ilt, ile]
    refine hK31 _ ?_
    -- region 15
    refine VW.wr tau_ok Sound.none [some 53, some 54, some 12] [(0, .val (i64 a0)), (5, .val (dM v1)), (6, .val (i64 (v2.length : Int))), (7, .ref 7 [] true (dI x4)), (8, .ref 8 [] true (dM s13.1)), (10, .val (i64 s13.2)), (11, .ref 11 [] true (dI (s27.1.set v32.toNat ((w64 (a0 - v34)).tmod a0)))), (12, .val (i64 (w64 (s27.2 + 1))))] rfl ?_ ?_
    · simp <;> simp [ieq, ilt, ile]
    cases hx27o
    exact ⟨_, rfl, Fits.of rfl⟩
  refine VW.block ?_
  refine VW.loopF (s_l02Kernel_L0 v1) (fun s4 => [(0, .val (i64 a0)), (5, .val (dM v1)), (6, .val (i64 (v2.length : Int))), (7, .ref 7 [] true (dI s4.1)), (8, .ref 8 [] true (dM [])), (9, .val (i64 s4.2))]) hx4 (Fits.of rfl) ?_
  clear hx4
  intro s4 ox4 hx4o hx4b
  unfold s_l02Kernel_L0 at hx4o
  refine VW.sqc fun K6 hK6 hCK6 => ?_
  -- region 4
  refine VW.ws tau_ok Sound.none [some 22, some 23, some 24, some 25] [(0, .val (i64 a0)), (5, .val (dM v1)), (6, .val (i64 (v2.length : Int))), (7, .ref 7 [] true (dI s4.1)), (8, .ref 8 [] true (dM [])), (9, .val (i64 s4.2)), (25, .val (.bool (ilt s4.2 (v1.length : Int))))] rfl ?_ ?_
  · simp <;> simp [ieq, ilt, ile]
  refine VW.cond rfl (fun hb7 => ?_) (fun hb7 => ?_)
  rotate_left
  ·
    replace hb7 : ¬ (s4.2 < (v1.length : Int)) := by simpa [ieq, ilt, ile] using hb7
    rw [if_neg hb7] at hx4o
    refine VW.exit ?_
    cases hx4o
    have hq := hx4b _ rfl
    subst hq
    exact Fits.of rfl
  replace hb7 : s4.2 < (v1.length : Int) := by simpa [ieq, ilt, ile] using hb7
  rw [if_pos hb7] at hx4o
  refine VW.skip ?_
  refine hK6 _ ?_
  refine VW.sqc fun K8 hK8 hCK8 => ?_
  refine VW.block ?_
  -- region 6
  obtain ⟨v9, hv9, hx4o⟩ := bind_some hx4o
  obtain ⟨hv9a, hv9b, hv9c, hv9d⟩ := idx_some hv9
  obtain ⟨v10, hv10, hx4o⟩ := bind_some hx4o
  obtain ⟨hc11, hx4o⟩ := chk_some hx4o
  have hc11s := hc11
  try simp at hc11s
  refine VW.wr tau_ok (Sound.none.add 33 (s_l02First_ok hv10) rfl) [some 28, some 29, some 30, some 31, some 32, some 33, some 34, some 35, some 7] [(0, .val (i64 a0)), (5, .val (dM v1)), (6, .val (i64 (v2.length : Int))), (7, .ref 7 [] true (dI (s4.1 ++ [v10]))), (8, .ref 8 [] true (dM [])), (9, .val (i64 s4.2))] rfl ?_ ?_
  · simp [hv9a, hv9b, hv9c, hv9d, hc11, hc11s] <;> simp [ieq, ilt, ile]
  refine hK8 _ ?_
  -- region 5
  refine VW.wr tau_ok Sound.none [some 26, some 27, some 9] [(0, .val (i64 a0)), (5, .val (dM v1)), (6, .val (i64 (v2.length : Int))), (7, .ref 7 [] true (dI (s4.1 ++ [v10]))), (8, .ref 8 [] true (dM [])), (9, .val (i64 (w64 (s4.2 + 1))))] rfl ?_ ?_
  · simp <;> simp [ieq, ilt, ile]
  cases hx4o
  exact ⟨_, rfl, Fits.of rfl⟩

theorem s_KernelBasis_ok {a0 : Int} {a1 : List (List Int)} {r : (List (List Int)) × Int} (h : s_KernelBasis a0 a1 = some r) :
    VCall Try.prog 58 [i64 a0, dM a1] [.own true (dM r.1), .sc (i64 r.2)] := by
  unfold s_KernelBasis at h
  refine VCall.enter Try.call58 Try.func58 rfl 13 Try.ntmps58 (by simp) [.tmp 4, .tmp 5] rfl ?_
  show VW _ _ _ (mk [(0, .val (i64 a0)), (1, .val (dM a1))]) _
  -- region 0
  refine VW.ws tau_ok Sound.none [some 4, some 5] [(0, .val (i64 a0)), (1, .val (dM a1))] rfl ?_ ?_
  · simp <;> simp [ieq, ilt, ile]
  refine VW.sqc fun K1 hK1 hCK1 => ?_
  -- region 1
  obtain ⟨v2, hv2, h⟩ := bind_some h
  refine VW.ws tau_ok (Sound.none.add 8 (s_l02Is_ok hv2) rfl) [some 6, some 7, some 8, some 9] [(0, .val (i64 a0)), (1, .val (dM a1)), (9, .val (.bool (!v2)))] rfl ?_ ?_
  · simp <;> simp [ieq, ilt, ile]
  refine VW.cond rfl (fun hb3 => ?_) (fun hb3 => ?_)
  ·
    replace hb3 : v2 = false := by simpa [ieq, ilt, ile] using hb3
    rw [if_pos hb3] at h
    -- region 2
    refine VW.ws tau_ok Sound.none [some 4, some 5] [(4, .ref 4 [] true (.list [])), (5, .val (i64 1))] rfl ?_ ?_
    · simp <;> simp [ieq, ilt, ile]
    cases h
    refine VW.ret ?_
    simp [Post, PostM, PostC, PostC2, Nx, Bk]
  replace hb3 : ¬ (v2 = false) := by simpa [ieq, ilt, ile] using hb3
  rw [if_neg hb3] at h
  refine VW.skip ?_
  refine hK1 _ ?_
  -- region 3
  obtain ⟨v4, hv4, h⟩ := bind_some h
  refine VW.ws tau_ok (Sound.none.add 12 (s_l02Kernel_ok hv4) rfl) [some 10, some 11, some 12, some 4, some 5] [(4, .ref 4 [] true (dM v4)), (5, .val (i64 0))] rfl ?_ ?_
  · simp <;> simp [ieq, ilt, ile]
  cases h
  refine VW.ret ?_
  simp [Post, PostM, PostC, PostC2, Nx, Bk]

theorem l_likeInts_ok {a0 : List Int} {a1 : List Int} {r : Bool} (h : l_likeInts a0 a1 = some r) :
    VCall Try.prog 67 [dI a0, dI a1] [.sc (.bool r)] := by
  unfold l_likeInts at h
  refine VCall.enter Try.call67 Try.func67 rfl 26 Try.ntmps67 (by simp) [.tmp 4] rfl ?_
  show VW _ _ _ (mk [(0, .val (dI a0)), (1, .val (dI a1))]) _
  -- region 0
  refine VW.ws tau_ok Sound.none [some 4] [(0, .val (dI a0)), (1, .val (dI a1))] rfl ?_ ?_
  · simp <;> simp [ieq, ilt, ile]
  refine VW.sqc fun K1 hK1 hCK1 => ?_
  -- region 1
  refine VW.ws tau_ok Sound.none [some 6, some 7, some 8, some 9, some 10] [(0, .val (dI a0)), (1, .val (dI a1)), (10, .val (.bool (!(ieq (a0.length : Int) (a1.length : Int)))))] rfl ?_ ?_
  · simp <;> simp [ieq, ilt, ile]
  refine VW.cond rfl (fun hb2 => ?_) (fun hb2 => ?_)
  ·
    replace hb2 : ¬ (a0.length : Int) = (a1.length : Int) := by simpa [ieq, ilt, ile] using hb2
    rw [if_pos hb2] at h
    -- region 2
    refine VW.ws tau_ok Sound.none [some 4] [(4, .val (.bool false))] rfl ?_ ?_
    · simp <;> simp [ieq, ilt, ile]
    cases h
    refine VW.ret ?_
    simp [Post, PostM, PostC, PostC2, Nx, Bk]
  replace hb2 : ¬ (¬ (a0.length : Int) = (a1.length : Int)) := by simpa [ieq, ilt, ile] using hb2
  rw [if_neg hb2] at h
  refine VW.skip ?_
  refine hK1 _ ?_
  refine VW.sqc fun K3 hK3 hCK3 => ?_
  -- region 3
  refine VW.ws tau_ok Sound.none [some 5] [(0, .val (dI a0)), (1, .val (dI a1)), (5, .val (i64 0))] rfl ?_ ?_
  · simp <;> simp [ieq, ilt, ile]
  obtain ⟨x4, hx4, h⟩ := bind_some h
  refine VW.tlO (fun y6 => []) x4 (hCK3) ?_ ?_
  · clear hx4
    rintro y6 rfl
    dsimp only at h
    refine hK3 _ ?_
    -- region 8
    refine VW.ws tau_ok Sound.none [some 4] [(4, .val (.bool true))] rfl ?_ ?_
    · simp <;> simp [ieq, ilt, ile]
    cases h
    refine VW.ret ?_
    simp [Post, PostM, PostC, PostC2, Nx, Bk]
  refine VW.block ?_
  refine VW.loopF (l_likeInts_L0 a0 a1) (fun s4 => [(0, .val (dI a0)), (1, .val (dI a1)), (5, .val (i64 s4))]) hx4 (Fits.of rfl) ?_
  clear hx4
  intro s4 ox4 hx4o hx4b
  unfold l_likeInts_L0 at hx4o
  refine VW.sqc fun K7 hK7 hCK7 => ?_
  -- region 4
  refine VW.ws tau_ok Sound.none [some 11, some 12, some 13, some 14] [(0, .val (dI a0)), (1, .val (dI a1)), (5, .val (i64 s4)), (14, .val (.bool (ilt s4 (a0.length : Int))))] rfl ?_ ?_
  · simp <;> simp [ieq, ilt, ile]
  refine VW.cond rfl (fun hb8 => ?_) (fun hb8 => ?_)
  rotate_left
  ·
    replace hb8 : ¬ (s4 < (a0.length : Int)) := by simpa [ieq, ilt, ile] using hb8
    rw [if_neg hb8] at hx4o
    refine VW.exit ?_
    cases hx4o
    have hq := hx4b _ rfl
    subst hq
    exact ⟨_, rfl, Fits.of rfl⟩
  replace hb8 : s4 < (a0.length : Int) := by simpa [ieq, ilt, ile] using hb8
  rw [if_pos hb8] at hx4o
  refine VW.skip ?_
  refine hK7 _ ?_
  refine VW.sqc fun K9 hK9 hCK9 => ?_
  refine VW.block ?_
  -- region 6
  obtain ⟨v10, hv10, hx4o⟩ := bind_some hx4o
  obtain ⟨hv10a, hv10b, hv10c, hv10d⟩ := idx_some hv10
  obtain ⟨v11, hv11, hx4o⟩ := bind_some hx4o
  obtain ⟨hv11a, hv11b, hv11c, hv11d⟩ := idx_some hv11
  refine VW.wds tau_ok Sound.none try_mixed [some 17, some 18, some 19, some 20, some 21, some 22, some 23, some 24, some 25] [(0, .val (dI a0)), (1, .val (dI a1)), (5, .val (i64 s4)), (25, .val (.bool (!(ieq v10 v11))))] 9 rfl (by kernel_rfl) (by rfl) ?_ ?_
  · simp [hv10a, hv10b, hv10c, hv10d, hv11a, hv11b, hv11c, hv11d] <;> simp [ieq, ilt, ile]
  refine VW.cond rfl (fun hb12 => ?_) (fun hb12 => ?_)
  rotate_left
  ·
    replace hb12 : ¬ (¬ v10 = v11) := by simpa [ieq, ilt, ile] using hb12
    rw [if_neg hb12] at hx4o
    refine VW.skip ?_
    refine hK9 _ ?_
    -- region 5
    refine VW.wr tau_ok Sound.none [some 15, some 16, some 5] [(0, .val (dI a0)), (1, .val (dI a1)), (5, .val (i64 (w64 (s4 + 1))))] rfl ?_ ?_
    · simp <;> simp [ieq, ilt, ile]
    cases hx4o
    exact ⟨_, rfl, Fits.of rfl⟩
  replace hb12 : ¬ v10 = v11 := by simpa [ieq, ilt, ile] using hb12
  rw [if_pos hb12] at hx4o
  -- region 7
  refine VW.ws tau_ok Sound.none [some 4] [(4, .val (.bool false))] rfl ?_ ?_
  · simp <;> simp [ieq, ilt, ile]
  cases hx4o
  have hq := hx4b _ rfl
  subst hq
  dsimp only at h
  cases h
  refine VW.ret ?_
  simp [Post, PostM, PostC, PostC2, Nx, Bk]

theorem l_likeRows5_ok {a0 : List (List Int)} {a1 : List (List Int)} {r : Bool} (h : l_likeRows5 a0 a1 = some r) :
    VCall Try.prog 42 [dM a0, dM a1] [.sc (.bool r)] := by
  unfold l_likeRows5 at h
  refine VCall.enter Try.call42 Try.func42 rfl 27 Try.ntmps42 (by simp) [.tmp 4] rfl ?_
  show VW _ _ _ (mk [(0, .val (dM a0)), (1, .val (dM a1))]) _
  -- region 0
  refine VW.ws tau_ok Sound.none [some 4] [(0, .val (dM a0)), (1, .val (dM a1))] rfl ?_ ?_
  · simp <;> simp [ieq, ilt, ile]
  refine VW.sqc fun K1 hK1 hCK1 => ?_
  -- region 1
  refine VW.ws tau_ok Sound.none [some 6, some 7, some 8, some 9, some 10] [(0, .val (dM a0)), (1, .val (dM a1)), (10, .val (.bool (!(ieq (a0.length : Int) (a1.length : Int)))))] rfl ?_ ?_
  · simp <;> simp [ieq, ilt, ile]
  refine VW.cond rfl (fun hb2 => ?_) (fun hb2 => ?_)
  ·
    replace hb2 : ¬ (a0.length : Int) = (a1.length : Int) := by simpa [ieq, ilt, ile] using hb2
    rw [if_pos hb2] at h
    -- region 2
    refine VW.ws tau_ok Sound.none [some 4] [(4, .val (.bool false))] rfl ?_ ?_
    · simp <;> simp [ieq, ilt, ile]
    cases h
    refine VW.ret ?_
    simp [Post, PostM, PostC, PostC2, Nx, Bk]
  replace hb2 : ¬ (¬ (a0.length : Int) = (a1.length : Int)) := by simpa [ieq, ilt, ile] using hb2
  rw [if_neg hb2] at h
  refine VW.skip ?_
  refine hK1 _ ?_
  refine VW.sqc fun K3 hK3 hCK3 => ?_
  -- region 3
  refine VW.ws tau_ok Sound.none [some 5] [(0, .val (dM a0)), (1, .val (dM a1)), (5, .val (i64 0))] rfl ?_ ?_
  · simp <;> simp [ieq, ilt, ile]
  obtain ⟨x4, hx4, h⟩ := bind_some h
  refine VW.tlO (fun y6 => []) x4 (hCK3) ?_ ?_
  · clear hx4
    rintro y6 rfl
    dsimp only at h
    refine hK3 _ ?_
    -- region 8
    refine VW.ws tau_ok Sound.none [some 4] [(4, .val (.bool true))] rfl ?_ ?_
    · simp <;> simp [ieq, ilt, ile]
    cases h
    refine VW.ret ?_
    simp [Post, PostM, PostC, PostC2, Nx, Bk]
  refine VW.block ?_
  refine VW.loopF (l_likeRows5_L0 a0 a1) (fun s4 => [(0, .val (dM a0)), (1, .val (dM a1)), (5, .val (i64 s4))]) hx4 (Fits.of rfl) ?_
  clear hx4
  intro s4 ox4 hx4o hx4b
  unfold l_likeRows5_L0 at hx4o
  refine VW.sqc fun K7 hK7 hCK7 => ?_
  -- region 4
  refine VW.ws tau_ok Sound.none [some 11, some 12, some 13, some 14] [(0, .val (dM a0)), (1, .val (dM a1)), (5, .val (i64 s4)), (14, .val (.bool (ilt s4 (a0.length : Int))))] rfl ?_ ?_
  · simp <;> simp [ieq, ilt, ile]
  refine VW.cond rfl (fun hb8 => ?_) (fun hb8 => ?_)
  rotate_left
  ·
    replace hb8 : ¬ (s4 < (a0.length : Int)) := by simpa [ieq, ilt, ile] using hb8
    rw [if_neg hb8] at hx4o
    refine VW.exit ?_
    cases hx4o
    have hq := hx4b _ rfl
    subst hq
    exact ⟨_, rfl, Fits.of rfl⟩
  replace hb8 : s4 < (a0.length : Int) := by simpa [ieq, ilt, ile] using hb8
  rw [if_pos hb8] at hx4o
  refine VW.skip ?_
  refine hK7 _ ?_
  refine VW.sqc fun K9 hK9 hCK9 => ?_
  refine VW.block ?_
  -- region 6
  obtain ⟨v10, hv10, hx4o⟩ := bind_some hx4o
  obtain ⟨hv10a, hv10b, hv10c, hv10d⟩ := idx_some hv10
  obtain ⟨v11, hv11, hx4o⟩ := bind_some hx4o
  obtain ⟨hv11a, hv11b, hv11c, hv11d⟩ := idx_some hv11
  obtain ⟨v12, hv12, hx4o⟩ := bind_some hx4o
  refine VW.wds tau_ok (Sound.none.add 25 (l_likeInts_ok hv12) rfl) try_mixed [some 17, some 18, some 19, some 20, some 21, some 22, some 23, some 24, some 25, some 26] [(0, .val (dM a0)), (1, .val (dM a1)), (5, .val (i64 s4)), (26, .val (.bool (!v12)))] 10 rfl (by kernel_rfl) (by rfl) ?_ ?_
  · simp [hv10a, hv10b, hv10c, hv10d, hv11a, hv11b, hv11c, hv11d] <;> simp [ieq, ilt, ile]
  refine VW.cond rfl (fun hb13 => ?_) (fun hb13 => ?_)
  rotate_left
  ·
    replace hb13 : ¬ (v12 = false) := by simpa [ieq, ilt, ile] using hb13
    rw [if_neg hb13] at hx4o
    refine VW.skip ?_
    refine hK9 _ ?_
    -- region 5
    refine VW.wr tau_ok Sound.none [some 15, some 16, some 5] [(0, .val (dM a0)), (1, .val (dM a1)), (5, .val (i64 (w64 (s4 + 1))))] rfl ?_ ?_
    · simp <;> simp [ieq, ilt, ile]
    cases hx4o
    exact ⟨_, rfl, Fits.of rfl⟩
  replace hb13 : v12 = false := by simpa [ieq, ilt, ile] using hb13
  rw [if_pos hb13] at hx4o
  -- region 7
  refine VW.ws tau_ok Sound.none [some 4] [(4, .val (.bool false))] rfl ?_ ?_
  · simp <;> simp [ieq, ilt, ile]
  cases hx4o
  have hq := hx4b _ rfl
  subst hq
  dsimp only at h
  cases h
  refine VW.ret ?_
  simp [Post, PostM, PostC, PostC2, Nx, Bk]

theorem i_length_LI_ok {a0 : List (List Int)} {r : Int} (h : i_length_LI a0 = some r) :
    VCall Try.prog 124 [dM a0] [.sc (i64 r)] := by
  unfold i_length_LI at h
  refine VCall.enter Try.call124 Try.func124 rfl 5 Try.ntmps124 (by simp) [.tmp 2] rfl ?_
  show VW _ _ _ (mk [(0, .val (dM a0))]) _
  -- region 0
  refine VW.ws tau_ok Sound.none [some 2] [(0, .val (dM a0))] rfl ?_ ?_
  · simp <;> simp [ieq, ilt, ile]
  -- region 1
  refine VW.ws tau_ok Sound.none [some 3, some 4, some 2] [(2, .val (i64 (a0.length : Int)))] rfl ?_ ?_
  · simp <;> simp [ieq, ilt, ile]
  cases h
  refine VW.ret ?_
  simp [Post, PostM, PostC, PostC2, Nx, Bk]

theorem i_RankOf_ok {a0 : Int} {a1 : List (List Int)} {r : Int × Int} (h : i_RankOf a0 a1 = some r) :
    VCall Try.prog 49 [i64 a0, dM a1] [.sc (i64 r.1), .sc (i64 r.2)] := by
  unfold i_RankOf at h
  refine VCall.enter Try.call49 Try.func49 rfl 18 Try.ntmps49 (by simp) [.tmp 4, .tmp 5] rfl ?_
  show VW _ _ _ (mk [(0, .val (i64 a0)), (1, .val (dM a1))]) _
  -- region 0
  refine VW.ws tau_ok Sound.none [some 4, some 5] [(0, .val (i64 a0)), (1, .val (dM a1))] rfl ?_ ?_
  · simp <;> simp [ieq, ilt, ile]
  refine VW.sqc fun K1 hK1 hCK1 => ?_
  -- region 1
  obtain ⟨v2, hv2, h⟩ := bind_some h
  refine VW.ws tau_ok (Sound.none.add 10 (i_checkMatrices_ok hv2) rfl) [some 7, some 8, some 9, some 10, some 6] [(0, .val (i64 a0)), (1, .val (dM a1)), (6, .val (i64 v2))] rfl ?_ ?_
  · simp <;> simp [ieq, ilt, ile]
  -- region 2
  refine VW.ws tau_ok Sound.none [some 11, some 12] [(0, .val (i64 a0)), (1, .val (dM a1)), (6, .val (i64 v2)), (12, .val (.bool (!(ieq v2 0))))] rfl ?_ ?_
  · simp <;> simp [ieq, ilt, ile]
  refine VW.cond rfl (fun hb3 => ?_) (fun hb3 => ?_)
  ·
    replace hb3 : ¬ v2 = 0 := by simpa [ieq, ilt, ile] using hb3
    rw [if_pos hb3] at h
    -- region 3
    refine VW.ws tau_ok Sound.none [some 13, some 4, some 5] [(4, .val (i64 0)), (5, .val (i64 v2))] rfl ?_ ?_
    · simp <;> simp [ieq, ilt, ile]
    cases h
    refine VW.ret ?_
    simp [Post, PostM, PostC, PostC2, Nx, Bk]
  replace hb3 : ¬ (¬ v2 = 0) := by simpa [ieq, ilt, ile] using hb3
  rw [if_neg hb3] at h
  refine VW.skip ?_
  refine hK1 _ ?_
  -- region 4
  obtain ⟨v4, hv4, h⟩ := bind_some h
  obtain ⟨v5, hv5, h⟩ := bind_some h
  refine VW.ws tau_ok ((Sound.none.add 16 (i_field_basis_ok hv4) rfl).add 17 (i_length_LI_ok hv5) rfl) [some 14, some 15, some 16, some 17, some 4, some 5] [(4, .val (i64 v5)), (5, .val (i64 0))] rfl ?_ ?_
  · simp <;> simp [ieq, ilt, ile]
  cases h
  refine VW.ret ?_
  simp [Post, PostM, PostC, PostC2, Nx, Bk]

theorem i_SpanBasis_ok {a0 : Int} {a1 : List (List Int)} {r : (List (List Int)) × Int} (h : i_SpanBasis a0 a1 = some r) :
    VCall Try.prog 59 [i64 a0, dM a1] [.own true (dM r.1), .sc (i64 r.2)] := by
  unfold i_SpanBasis at h
  refine VCall.enter Try.call59 Try.func59 rfl 18 Try.ntmps59 (by simp) [.tmp 4, .tmp 5] rfl ?_
  show VW _ _ _ (mk [(0, .val (i64 a0)), (1, .val (dM a1))]) _
  -- region 0
  refine VW.ws tau_ok Sound.none [some 4, some 5] [(0, .val (i64 a0)), (1, .val (dM a1))] rfl ?_ ?_
  · simp <;> simp [ieq, ilt, ile]
  refine VW.sqc fun K1 hK1 hCK1 => ?_
  -- region 1
  obtain ⟨x5, hx5, h⟩ := bind_some h
  refine VW.cut [(0, .val (i64 a0)), (1, .val (dM a1)), (14, .val (.bool x5))] ?_ fun hy => ?_
  rotate_left
  · clear h
    obtain ⟨v2, hv2, hx5⟩ := bind_some hx5
    by_cases hp3 : v2 = false
    · rw [if_pos hp3] at hx5
      have hp3b : v2 = false := by simpa [ieq, ilt, ile] using hp3
      have hp3s := hp3b
      try simp at hp3s
      cases hx5
      refine VW.ws tau_ok (Sound.none.add 7 (i_IsPrime_ok hv2) rfl) [some 6, some 7, some 8, some 9, some 10, some 11, some 12, some 13, some 14] _ rfl ?_ hy
      simp [hp3b, hp3s] <;> simp [ieq, ilt, ile]
    · rw [if_neg hp3] at hx5
      have hp3b : v2 = true := by simpa [ieq, ilt, ile] using hp3
      have hp3s := hp3b
      try simp at hp3s
      obtain ⟨v4, hv4, hx5⟩ := bind_some hx5
      cases hx5
      refine VW.ws tau_ok ((Sound.none.add 7 (i_IsPrime_ok hv2) rfl).add 12 (i_field_isTable_ok hv4) rfl) [some 6, some 7, some 8, some 9, some 10, some 11, some 12, some 13, some 14] _ rfl ?_ hy
      simp [hp3b, hp3s] <;> simp [ieq, ilt, ile]
  refine VW.cond rfl (fun hb6 => ?_) (fun hb6 => ?_)
  ·
    replace hb6 : x5 = true := by simpa [ieq, ilt, ile] using hb6
    rw [if_pos hb6] at h
    -- region 2
    refine VW.ws tau_ok Sound.none [some 4, some 5] [(4, .ref 4 [] true (.list [])), (5, .val (i64 1))] rfl ?_ ?_
    · simp <;> simp [ieq, ilt, ile]
    cases h
    refine VW.ret ?_
    simp [Post, PostM, PostC, PostC2, Nx, Bk]
  replace hb6 : ¬ (x5 = true) := by simpa [ieq, ilt, ile] using hb6
  rw [if_neg hb6] at h
  refine VW.skip ?_
  refine hK1 _ ?_
  -- region 3
  obtain ⟨v7, hv7, h⟩ := bind_some h
  refine VW.ws tau_ok (Sound.none.add 17 (i_field_basis_ok hv7) rfl) [some 15, some 16, some 17, some 4, some 5] [(4, .ref 4 [] true (dM v7)), (5, .val (i64 0))] rfl ?_ ?_
  · simp <;> simp [ieq, ilt, ile]
  cases h
  refine VW.ret ?_
  simp [Post, PostM, PostC, PostC2, Nx, Bk]

theorem s_l02List_ok {a0 : Int} {a1 : List (List Int)} {r : Bool} (h : s_l02List a0 a1 = some r) :
    VCall Try.prog 142 [i64 a0, dM a1] [.sc (.bool r)] := by
  unfold s_l02List at h
  refine VCall.enter Try.call142 Try.func142 rfl 17 Try.ntmps142 (by simp) [.tmp 4] rfl ?_
  show VW _ _ _ (mk [(0, .val (i64 a0)), (1, .val (dM a1))]) _
  -- region 0
  refine VW.ws tau_ok Sound.none [some 4] [(0, .val (i64 a0)), (1, .val (dM a1))] rfl ?_ ?_
  · simp <;> simp [ieq, ilt, ile]
  -- region 1
  obtain ⟨x5, hx5, h⟩ := bind_some h
  refine VW.cut [(4, .val (.bool x5))] ?_ fun hy => ?_
  rotate_left
  · clear h
    obtain ⟨v1, hv1, hx5⟩ := bind_some hx5
    by_cases hp2 : v1 = true
    · rw [if_pos hp2] at hx5
      have hp2b : v1 = true := by simpa [ieq, ilt, ile] using hp2
      have hp2s := hp2b
      try simp at hp2s
      by_cases hp3 : (a1.length : Int) = 0
      · rw [if_pos hp3] at hx5
        have hp3b : ieq (a1.length : Int) 0 = true := by simpa [ieq, ilt, ile] using hp3
        have hp3s := hp3b
        try simp at hp3s
        cases hx5
        refine VW.ws tau_ok (Sound.none.add 6 (s_l01Prime_ok hv1) rfl) [some 5, some 6, some 7, some 8, some 9, some 10, some 11, some 12, some 13, some 14, some 15, some 16, some 4] _ rfl ?_ hy
        simp [hp2b, hp2s, hp3b, hp3s] <;> simp [ieq, ilt, ile]
      · rw [if_neg hp3] at hx5
        have hp3b : ieq (a1.length : Int) 0 = false := by simpa [ieq, ilt, ile] using hp3
        have hp3s := hp3b
        try simp at hp3s
        obtain ⟨v4, hv4, hx5⟩ := bind_some hx5
        cases hx5
        refine VW.ws tau_ok ((Sound.none.add 6 (s_l01Prime_ok hv1) rfl).add 14 (s_l02Is_ok hv4) rfl) [some 5, some 6, some 7, some 8, some 9, some 10, some 11, some 12, some 13, some 14, some 15, some 16, some 4] _ rfl ?_ hy
        simp [hp2b, hp2s, hp3b, hp3s] <;> simp [ieq, ilt, ile]
    · rw [if_neg hp2] at hx5
      have hp2b : v1 = false := by simpa [ieq, ilt, ile] using hp2
      have hp2s := hp2b
      try simp at hp2s
      cases hx5
      refine VW.ws tau_ok (Sound.none.add 6 (s_l01Prime_ok hv1) rfl) [some 5, some 6, some 7, some 8, some 9, some 10, some 11, some 12, some 13, some 14, some 15, some 16, some 4] _ rfl ?_ hy
      simp [hp2b, hp2s] <;> simp [ieq, ilt, ile]
  cases h
  refine VW.ret ?_
  simp [Post, PostM, PostC, PostC2, Nx, Bk]

theorem s_SpanBasis_ok {a0 : Int} {a1 : List (List Int)} {r : (List (List Int)) × Int} (h : s_SpanBasis a0 a1 = some r) :
    VCall Try.prog 60 [i64 a0, dM a1] [.own true (dM r.1), .sc (i64 r.2)] := by
  unfold s_SpanBasis at h
  refine VCall.enter Try.call60 Try.func60 rfl 14 Try.ntmps60 (by simp) [.tmp 4, .tmp 5] rfl ?_
  show VW _ _ _ (mk [(0, .val (i64 a0)), (1, .val (dM a1))]) _
  -- region 0
  refine VW.ws tau_ok Sound.none [some 4, some 5] [(0, .val (i64 a0)), (1, .val (dM a1))] rfl ?_ ?_
  · simp <;> simp [ieq, ilt, ile]
  refine VW.sqc fun K1 hK1 hCK1 => ?_
  -- region 1
  obtain ⟨v2, hv2, h⟩ := bind_some h
  refine VW.ws tau_ok (Sound.none.add 8 (s_l02List_ok hv2) rfl) [some 6, some 7, some 8, some 9] [(0, .val (i64 a0)), (1, .val (dM a1)), (9, .val (.bool (!v2)))] rfl ?_ ?_
  · simp <;> simp [ieq, ilt, ile]
  refine VW.cond rfl (fun hb3 => ?_) (fun hb3 => ?_)
  ·
    replace hb3 : v2 = false := by simpa [ieq, ilt, ile] using hb3
    rw [if_pos hb3] at h
    -- region 2
    refine VW.ws tau_ok Sound.none [some 4, some 5] [(4, .ref 4 [] true (.list [])), (5, .val (i64 1))] rfl ?_ ?_
    · simp <;> simp [ieq, ilt, ile]
    cases h
    refine VW.ret ?_
    simp [Post, PostM, PostC, PostC2, Nx, Bk]
  replace hb3 : ¬ (v2 = false) := by simpa [ieq, ilt, ile] using hb3
  rw [if_neg hb3] at h
  refine VW.skip ?_
  refine hK1 _ ?_
  -- region 3
  obtain ⟨v4, hv4, h⟩ := bind_some h
  obtain ⟨v5, hv5, h⟩ := bind_some h
  refine VW.ws tau_ok ((Sound.none.add 12 (s_l02Basis_ok hv4) rfl).add 13 (s_l01Own2_ok hv5) rfl) [some 10, some 11, some 12, some 13, some 4, some 5] [(4, .ref 4 [] true (dM v5)), (5, .val (i64 0))] rfl ?_ ?_
  · simp <;> simp [ieq, ilt, ile]
  cases h
  refine VW.ret ?_
  simp [Post, PostM, PostC, PostC2, Nx, Bk]

theorem i_field_dot_ok {a0 : Int} {a1 : List Int} {a2 : List Int} {r : Int} (h : i_field_dot a0 a1 a2 = some r) :
    VCall Try.prog 215 [i64 a0, dI a1, dI a2] [.sc (i64 r)] := by
  unfold i_field_dot at h
  refine VCall.enter Try.call215 Try.func215 rfl 29 Try.ntmps215 (by simp) [.tmp 6] rfl ?_
  show VW _ _ _ (mk [(0, .val (i64 a0)), (1, .val (dI a1)), (2, .val (dI a2))]) _
  -- region 0
  refine VW.ws tau_ok Sound.none [some 6] [(0, .val (i64 a0)), (1, .val (dI a1)), (2, .val (dI a2))] rfl ?_ ?_
  · simp <;> simp [ieq, ilt, ile]
  -- region 1
  refine VW.ws tau_ok Sound.none [some 7] [(0, .val (i64 a0)), (1, .val (dI a1)), (2, .val (dI a2)), (7, .val (i64 0))] rfl ?_ ?_
  · simp <;> simp [ieq, ilt, ile]
  refine VW.sqc fun K1 hK1 hCK1 => ?_
  -- region 2
  refine VW.ws tau_ok Sound.none [some 10, some 11, some 12] [(0, .val (i64 a0)), (2, .val (dI a2)), (7, .val (i64 0)), (10, .val (dI a1)), (11, .val (i64 (a1.length : Int))), (12, .val (i64 0))] rfl ?_ ?_
  · simp <;> simp [ieq, ilt, ile]
  obtain ⟨x2, hx2, h⟩ := bind_some h
  refine VW.tlE [(0, .val (i64 a0)), (7, .val (i64 x2))] (hCK1) ?_ ?_
  · clear hx2
    refine hK1 _ ?_
    -- region 7
    obtain ⟨v9, hv9, h⟩ := bind_some h
    refine VW.ws tau_ok (Sound.none.add 28 (i_field_num_ok hv9) rfl) [some 26, some 27, some 28, some 6] [(6, .val (i64 v9))] rfl ?_ ?_
    · simp <;> simp [ieq, ilt, ile]
    cases h
    refine VW.ret ?_
    simp [Post, PostM, PostC, PostC2, Nx, Bk]
  refine VW.block ?_
  refine VW.loopF (i_field_dot_L0 a1 a2) (fun s2 => [(0, .val (i64 a0)), (2, .val (dI a2)), (7, .val (i64 s2.1)), (10, .val (dI a1)), (11, .val (i64 (a1.length : Int))), (12, .val (i64 s2.2))]) hx2 (Fits.of rfl) ?_
  clear hx2
  intro s2 ox2 hx2o hx2b
  unfold i_field_dot_L0 at hx2o
  -- region 3
  refine VW.ws tau_ok Sound.none [some 13] [(0, .val (i64 a0)), (2, .val (dI a2)), (7, .val (i64 s2.1)), (10, .val (dI a1)), (11, .val (i64 (a1.length : Int))), (12, .val (i64 s2.2)), (13, .val (.bool (ilt s2.2 (a1.length : Int))))] rfl ?_ ?_
  · simp <;> simp [ieq, ilt, ile]
  refine VW.sqc fun K4 hK4 hCK4 => ?_
  refine VW.cond rfl (fun hb5 => ?_) (fun hb5 => ?_)
  rotate_left
  ·
    replace hb5 : ¬ (s2.2 < (a1.length : Int)) := by simpa [ieq, ilt, ile] using hb5
    rw [if_neg hb5] at hx2o
    refine VW.exit ?_
    cases hx2o
    have hq := hx2b _ rfl
    subst hq
    exact Fits.of rfl
  replace hb5 : s2.2 < (a1.length : Int) := by simpa [ieq, ilt, ile] using hb5
  rw [if_pos hb5] at hx2o
  refine VW.skip ?_
  refine hK4 _ ?_
  refine VW.sqc fun K6 hK6 hCK6 => ?_
  refine VW.block ?_
  -- region 4
  obtain ⟨v7, hv7, hx2o⟩ := bind_some hx2o
  obtain ⟨hv7a, hv7b, hv7c, hv7d⟩ := idx_some hv7
  refine VW.ws tau_ok Sound.none [some 14, some 15, some 16, some 8, some 9] [(0, .val (i64 a0)), (2, .val (dI a2)), (7, .val (i64 s2.1)), (8, .val (i64 s2.2)), (9, .val (i64 v7)), (10, .val (dI a1)), (11, .val (i64 (a1.length : Int))), (12, .val (i64 s2.2))] rfl ?_ ?_
  · simp [hv7a, hv7b, hv7c, hv7d] <;> simp [ieq, ilt, ile]
  -- region 5
  obtain ⟨v8, hv8, hx2o⟩ := bind_some hx2o
  obtain ⟨hv8a, hv8b, hv8c, hv8d⟩ := idx_some hv8
  refine VW.wr tau_ok Sound.none [some 17, some 18, some 19, some 20, some 21, some 22, some 23, some 24, some 7] [(0, .val (i64 a0)), (2, .val (dI a2)), (7, .val (i64 (w64 (s2.1 + (w64 (v7 * v8)))))), (10, .val (dI a1)), (11, .val (i64 (a1.length : Int))), (12, .val (i64 s2.2))] rfl ?_ ?_
  · simp [hv8a, hv8b, hv8c, hv8d] <;> simp [ieq, ilt, ile]
  refine hK6 _ ?_
  -- region 6
  refine VW.wr tau_ok Sound.none [some 25, some 12] [(0, .val (i64 a0)), (2, .val (dI a2)), (7, .val (i64 (w64 (s2.1 + (w64 (v7 * v8)))))), (10, .val (dI a1)), (11, .val (i64 (a1.length : Int))), (12, .val (i64 (w64 (s2.2 + 1))))] rfl ?_ ?_
  · simp <;> simp [ieq, ilt, ile]
  cases hx2o
  exact ⟨_, rfl, Fits.of rfl⟩

theorem i_field_apply_ok {a0 : Int} {a1 : List (List Int)} {a2 : List Int} {r : List Int} (h : i_field_apply a0 a1 a2 = some r) :
    VCall Try.prog 146 [i64 a0, dM a1, dI a2] [.own true (dI r)] := by
  unfold i_field_apply at h
  refine VCall.enter Try.call146 Try.func146 rfl 26 Try.ntmps146 (by simp) [.tmp 6] rfl ?_
  show VW _ _ _ (mk [(0, .val (i64 a0)), (1, .val (dM a1)), (2, .val (dI a2))]) _
  -- region 0
  refine VW.ws tau_ok Sound.none [some 6] [(0, .val (i64 a0)), (1, .val (dM a1)), (2, .val (dI a2))] rfl ?_ ?_
  · simp <;> simp [ieq, ilt, ile]
  -- region 1
  refine VW.ws tau_ok Sound.none [some 10, some 7] [(0, .val (i64 a0)), (1, .val (dM a1)), (2, .val (dI a2)), (7, .ref 7 [] true (dI []))] rfl ?_ ?_
  · simp <;> simp [ieq, ilt, ile]
  refine VW.sqc fun K1 hK1 hCK1 => ?_
  -- region 2
  refine VW.ws tau_ok Sound.none [some 11, some 12, some 13] [(0, .val (i64 a0)), (2, .val (dI a2)), (7, .ref 7 [] true (dI [])), (11, .val (dM a1)), (12, .val (i64 (a1.length : Int))), (13, .val (i64 0))] rfl ?_ ?_
  · simp <;> simp [ieq, ilt, ile]
  obtain ⟨x2, hx2, h⟩ := bind_some h
  refine VW.tlE [(7, .ref 7 [] true (dI x2))] (hCK1) ?_ ?_
  · clear hx2
    refine hK1 _ ?_
    -- region 7
    refine VW.ws tau_ok Sound.none [some 25, some 6] [(6, .ref 6 [] true (dI x2))] rfl ?_ ?_
    · simp <;> simp [ieq, ilt, ile]
    cases h
    refine VW.ret ?_
    simp [Post, PostM, PostC, PostC2, Nx, Bk]
  refine VW.block ?_
  refine VW.loopF (i_field_apply_L0 a0 a1 a2) (fun s2 => [(0, .val (i64 a0)), (2, .val (dI a2)), (7, .ref 7 [] true (dI s2.1)), (11, .val (dM a1)), (12, .val (i64 (a1.length : Int))), (13, .val (i64 s2.2))]) hx2 (Fits.of rfl) ?_
  clear hx2
  intro s2 ox2 hx2o hx2b
  unfold i_field_apply_L0 at hx2o
  -- region 3
  refine VW.ws tau_ok Sound.none [some 14] [(0, .val (i64 a0)), (2, .val (dI a2)), (7, .ref 7 [] true (dI s2.1)), (11, .val (dM a1)), (12, .val (i64 (a1.length : Int))), (13, .val (i64 s2.2)), (14, .val (.bool (ilt s2.2 (a1.length : Int))))] rfl ?_ ?_
  · simp <;> simp [ieq, ilt, ile]
  refine VW.sqc fun K4 hK4 hCK4 => ?_
  refine VW.cond rfl (fun hb5 => ?_) (fun hb5 => ?_)
  rotate_left
  ·
    replace hb5 : ¬ (s2.2 < (a1.length : Int)) := by simpa [ieq, ilt, ile] using hb5
    rw [if_neg hb5] at hx2o
    refine VW.exit ?_
    cases hx2o
    have hq := hx2b _ rfl
    subst hq
    exact Fits.of rfl
  replace hb5 : s2.2 < (a1.length : Int) := by simpa [ieq, ilt, ile] using hb5
  rw [if_pos hb5] at hx2o
  refine VW.skip ?_
  refine hK4 _ ?_
  refine VW.sqc fun K6 hK6 hCK6 => ?_
  refine VW.block ?_
  -- region 4
  obtain ⟨v7, hv7, hx2o⟩ := bind_some hx2o
  obtain ⟨hv7a, hv7b, hv7c, hv7d⟩ := idx_some hv7
  refine VW.ws tau_ok Sound.none [some 15, some 16, some 9] [(0, .val (i64 a0)), (2, .val (dI a2)), (7, .ref 7 [] true (dI s2.1)), (9, .val (dI v7)), (11, .val (dM a1)), (12, .val (i64 (a1.length : Int))), (13, .val (i64 s2.2))] rfl ?_ ?_
  · simp [hv7a, hv7b, hv7c, hv7d] <;> simp [ieq, ilt, ile]
  -- region 5
  obtain ⟨v8, hv8, hx2o⟩ := bind_some hx2o
  obtain ⟨hc9, hx2o⟩ := chk_some hx2o
  have hc9s := hc9
  try simp at hc9s
  refine VW.wr tau_ok (Sound.none.add 21 (i_field_dot_ok hv8) rfl) [some 17, some 18, some 19, some 20, some 21, some 22, some 23, some 7] [(0, .val (i64 a0)), (2, .val (dI a2)), (7, .ref 7 [] true (dI (s2.1 ++ [v8]))), (11, .val (dM a1)), (12, .val (i64 (a1.length : Int))), (13, .val (i64 s2.2))] rfl ?_ ?_
  · simp [hc9, hc9s] <;> simp [ieq, ilt, ile]
  refine hK6 _ ?_
  -- region 6
  refine VW.wr tau_ok Sound.none [some 24, some 13] [(0, .val (i64 a0)), (2, .val (dI a2)), (7, .ref 7 [] true (dI (s2.1 ++ [v8]))), (11, .val (dM a1)), (12, .val (i64 (a1.length : Int))), (13, .val (i64 (w64 (s2.2 + 1))))] rfl ?_ ?_
  · simp <;> simp [ieq, ilt, ile]
  cases hx2o
  exact ⟨_, rfl, Fits.of rfl⟩

theorem i_ApplyMatrix_ok {a0 : Int} {a1 : List (List Int)} {a2 : List Int} {r : (List Int) × Int} (h : i_ApplyMatrix a0 a1 a2 = some r) :
    VCall Try.prog 61 [i64 a0, dM a1, dI a2] [.own true (dI r.1), .sc (i64 r.2)] := by
  unfold i_ApplyMatrix at h
  refine VCall.enter Try.call61 Try.func61 rfl 33 Try.ntmps61 (by simp) [.tmp 6, .tmp 7] rfl ?_
  show VW _ _ _ (mk [(0, .val (i64 a0)), (1, .val (dM a1)), (2, .val (dI a2))]) _
  -- region 0
  refine VW.ws tau_ok Sound.none [some 6, some 7] [(0, .val (i64 a0)), (1, .val (dM a1)), (2, .val (dI a2))] rfl ?_ ?_
  · simp <;> simp [ieq, ilt, ile]
  refine VW.sqc fun K1 hK1 hCK1 => ?_
  -- region 1
  obtain ⟨v2, hv2, h⟩ := bind_some h
  refine VW.ws tau_ok (Sound.none.add 12 (i_checkMatrices_ok hv2) rfl) [some 9, some 10, some 11, some 12, some 8] [(0, .val (i64 a0)), (1, .val (dM a1)), (2, .val (dI a2)), (8, .val (i64 v2))] rfl ?_ ?_
  · simp <;> simp [ieq, ilt, ile]
  -- region 2
  refine VW.ws tau_ok Sound.none [some 13, some 14] [(0, .val (i64 a0)), (1, .val (dM a1)), (2, .val (dI a2)), (8, .val (i64 v2)), (14, .val (.bool (!(ieq v2 0))))] rfl ?_ ?_
  · simp <;> simp [ieq, ilt, ile]
  refine VW.cond rfl (fun hb3 => ?_) (fun hb3 => ?_)
  ·
    replace hb3 : ¬ v2 = 0 := by simpa [ieq, ilt, ile] using hb3
    rw [if_pos hb3] at h
    -- region 3
    refine VW.ws tau_ok Sound.none [some 15, some 6, some 7] [(6, .ref 6 [] true (.list [])), (7, .val (i64 v2))] rfl ?_ ?_
    · simp <;> simp [ieq, ilt, ile]
    cases h
    refine VW.ret ?_
    simp [Post, PostM, PostC, PostC2, Nx, Bk]
  replace hb3 : ¬ (¬ v2 = 0) := by simpa [ieq, ilt, ile] using hb3
  rw [if_neg hb3] at h
  refine VW.skip ?_
  refine hK1 _ ?_
  refine VW.sqc fun K4 hK4 hCK4 => ?_
  -- region 4
  obtain ⟨x8, hx8, h⟩ := bind_some h
  refine VW.cut [(0, .val (i64 a0)), (1, .val (dM a1)), (2, .val (dI a2)), (28, .val (.bool x8))] ?_ fun hy => ?_
  rotate_left
  · clear h
    obtain ⟨v5, hv5, hx8⟩ := bind_some hx8
    obtain ⟨hv5a, hv5b, hv5c, hv5d⟩ := idx_some hv5
    replace hv5b : 0 < a1.length := hv5b
    replace hv5c : a1[0]? = some v5 := hv5c
    replace hv5d : ∀ h, a1[0]'h = v5 := hv5d
    by_cases hp6 : ¬ (a2.length : Int) = (v5.length : Int)
    · rw [if_pos hp6] at hx8
      have hp6b : ieq (a2.length : Int) (v5.length : Int) = false := by simpa [ieq, ilt, ile] using hp6
      have hp6s := hp6b
      try simp at hp6s
      cases hx8
      refine VW.ws tau_ok Sound.none [some 16, some 17, some 18, some 19, some 20, some 21, some 22, some 23, some 24, some 25, some 26, some 27, some 28] _ rfl ?_ hy
      simp [hv5a, hv5b, hv5c, hv5d, hp6b, hp6s] <;> simp [ieq, ilt, ile]
    · rw [if_neg hp6] at hx8
      have hp6b : ieq (a2.length : Int) (v5.length : Int) = true := by simpa [ieq, ilt, ile] using hp6
      have hp6s := hp6b
      try simp at hp6s
      obtain ⟨v7, hv7, hx8⟩ := bind_some hx8
      cases hx8
      refine VW.ws tau_ok (Sound.none.add 26 (i_field_is_ok hv7) rfl) [some 16, some 17, some 18, some 19, some 20, some 21, some 22, some 23, some 24, some 25, some 26, some 27, some 28] _ rfl ?_ hy
      simp [hv5a, hv5b, hv5c, hv5d, hp6b, hp6s] <;> simp [ieq, ilt, ile]
  refine VW.cond rfl (fun hb9 => ?_) (fun hb9 => ?_)
  ·
    replace hb9 : x8 = true := by simpa [ieq, ilt, ile] using hb9
    rw [if_pos hb9] at h
    -- region 5
    refine VW.ws tau_ok Sound.none [some 6, some 7] [(6, .ref 6 [] true (.list [])), (7, .val (i64 2))] rfl ?_ ?_
    · simp <;> simp [ieq, ilt, ile]
    cases h
    refine VW.ret ?_
    simp [Post, PostM, PostC, PostC2, Nx, Bk]
  replace hb9 : ¬ (x8 = true) := by simpa [ieq, ilt, ile] using hb9
  rw [if_neg hb9] at h
  refine VW.skip ?_
  refine hK4 _ ?_
  -- region 6
  obtain ⟨v10, hv10, h⟩ := bind_some h
  refine VW.ws tau_ok (Sound.none.add 32 (i_field_apply_ok hv10) rfl) [some 29, some 30, some 31, some 32, some 6, some 7] [(6, .ref 6 [] true (dI v10)), (7, .val (i64 0))] rfl ?_ ?_
  · simp <;> simp [ieq, ilt, ile]
  cases h
  refine VW.ret ?_
  simp [Post, PostM, PostC, PostC2, Nx, Bk]

theorem l_zero5_ok {a0 : List Int} {r : Bool} (h : l_zero5 a0 = some r) :
    VCall Try.prog 62 [dI a0] [.sc (.bool r)] := by
  unfold l_zero5 at h
  refine VCall.enter Try.call62 Try.func62 rfl 15 Try.ntmps62 (by simp) [.tmp 2] rfl ?_
  show VW _ _ _ (mk [(0, .val (dI a0))]) _
  -- region 0
  refine VW.ws tau_ok Sound.none [some 2] [(0, .val (dI a0))] rfl ?_ ?_
  · simp <;> simp [ieq, ilt, ile]
  refine VW.sqc fun K1 hK1 hCK1 => ?_
  -- region 1
  refine VW.ws tau_ok Sound.none [some 3] [(0, .val (dI a0)), (3, .val (i64 0))] rfl ?_ ?_
  · simp <;> simp [ieq, ilt, ile]
  obtain ⟨x2, hx2, h⟩ := bind_some h
  refine VW.tlO (fun y4 => []) x2 (hCK1) ?_ ?_
  · clear hx2
    rintro y4 rfl
    dsimp only at h
    refine hK1 _ ?_
    -- region 6
    refine VW.ws tau_ok Sound.none [some 2] [(2, .val (.bool true))] rfl ?_ ?_
    · simp <;> simp [ieq, ilt, ile]
    cases h
    refine VW.ret ?_
    simp [Post, PostM, PostC, PostC2, Nx, Bk]
  refine VW.block ?_
  refine VW.loopF (l_zero5_L0 a0) (fun s2 => [(0, .val (dI a0)), (3, .val (i64 s2))]) hx2 (Fits.of rfl) ?_
  clear hx2
  intro s2 ox2 hx2o hx2b
  unfold l_zero5_L0 at hx2o
  refine VW.sqc fun K5 hK5 hCK5 => ?_
  -- region 2
  refine VW.ws tau_ok Sound.none [some 4, some 5, some 6, some 7] [(0, .val (dI a0)), (3, .val (i64 s2)), (7, .val (.bool (ilt s2 (a0.length : Int))))] rfl ?_ ?_
  · simp <;> simp [ieq, ilt, ile]
  refine VW.cond rfl (fun hb6 => ?_) (fun hb6 => ?_)
  rotate_left
  ·
    replace hb6 : ¬ (s2 < (a0.length : Int)) := by simpa [ieq, ilt, ile] using hb6
    rw [if_neg hb6] at hx2o
    refine VW.exit ?_
    cases hx2o
    have hq := hx2b _ rfl
    subst hq
    exact ⟨_, rfl, Fits.of rfl⟩
  replace hb6 : s2 < (a0.length : Int) := by simpa [ieq, ilt, ile] using hb6
  rw [if_pos hb6] at hx2o
  refine VW.skip ?_
  refine hK5 _ ?_
  refine VW.sqc fun K7 hK7 hCK7 => ?_
  refine VW.block ?_
  -- region 4
  obtain ⟨v8, hv8, hx2o⟩ := bind_some hx2o
  obtain ⟨hv8a, hv8b, hv8c, hv8d⟩ := idx_some hv8
  refine VW.ws tau_ok Sound.none [some 10, some 11, some 12, some 13, some 14] [(0, .val (dI a0)), (3, .val (i64 s2)), (14, .val (.bool (!(ieq v8 0))))] rfl ?_ ?_
  · simp [hv8a, hv8b, hv8c, hv8d] <;> simp [ieq, ilt, ile]
  refine VW.cond rfl (fun hb9 => ?_) (fun hb9 => ?_)
  rotate_left
  ·
    replace hb9 : ¬ (¬ v8 = 0) := by simpa [ieq, ilt, ile] using hb9
    rw [if_neg hb9] at hx2o
    refine VW.skip ?_
    refine hK7 _ ?_
    -- region 3
    refine VW.wr tau_ok Sound.none [some 8, some 9, some 3] [(0, .val (dI a0)), (3, .val (i64 (w64 (s2 + 1))))] rfl ?_ ?_
    · simp <;> simp [ieq, ilt, ile]
    cases hx2o
    exact ⟨_, rfl, Fits.of rfl⟩
  replace hb9 : ¬ v8 = 0 := by simpa [ieq, ilt, ile] using hb9
  rw [if_pos hb9] at hx2o
  -- region 5
  refine VW.ws tau_ok Sound.none [some 2] [(2, .val (.bool false))] rfl ?_ ?_
  · simp <;> simp [ieq, ilt, ile]
  cases hx2o
  have hq := hx2b _ rfl
  subst hq
  dsimp only at h
  cases h
  refine VW.ret ?_
  simp [Post, PostM, PostC, PostC2, Nx, Bk]

theorem i_field_spans_ok {a0 : Int} {a1 : List (List Int)} {a2 : List Int} {r : Bool} (h : i_field_spans a0 a1 a2 = some r) :
    VCall Try.prog 147 [i64 a0, dM a1, dI a2] [.sc (.bool r)] := by
  unfold i_field_spans at h
  refine VCall.enter Try.call147 Try.func147 rfl 20 Try.ntmps147 (by simp) [.tmp 6] rfl ?_
  show VW _ _ _ (mk [(0, .val (i64 a0)), (1, .val (dM a1)), (2, .val (dI a2))]) _
  -- region 0
  refine VW.ws tau_ok Sound.none [some 6] [(0, .val (i64 a0)), (1, .val (dM a1)), (2, .val (dI a2))] rfl ?_ ?_
  · simp <;> simp [ieq, ilt, ile]
  -- region 1
  obtain ⟨v1, hv1, h⟩ := bind_some h
  obtain ⟨hc2, h⟩ := chk_some h
  have hc2s := hc2
  try simp at hc2s
  obtain ⟨v3, hv3, h⟩ := bind_some h
  obtain ⟨v4, hv4, h⟩ := bind_some h
  refine VW.ws tau_ok (((Sound.none.add 9 (i_cloneRows_ok hv1) rfl).add 13 (i_field_basis_ok hv3) rfl).add 17 (i_field_basis_ok hv4) rfl) [some 7, some 8, some 9, some 10, some 11, some 12, some 13, some 14, some 15, some 16, some 17, some 18, some 19, some 6] [(6, .val (.bool (ieq (v3.length : Int) (v4.length : Int))))] rfl ?_ ?_
  · simp [hc2, hc2s] <;> simp [ieq, ilt, ile]
  cases h
  refine VW.ret ?_
  simp [Post, PostM, PostC, PostC2, Nx, Bk]

theorem i_InSpan_ok {a0 : Int} {a1 : List (List Int)} {a2 : List Int} {r : Bool × Int} (h : i_InSpan a0 a1 a2 = some r) :
    VCall Try.prog 63 [i64 a0, dM a1, dI a2] [.sc (.bool r.1), .sc (i64 r.2)] := by
  unfold i_InSpan at h
  refine VCall.enter Try.call63 Try.func63 rfl 39 Try.ntmps63 (by simp) [.tmp 6, .tmp 7] rfl ?_
  show VW _ _ _ (mk [(0, .val (i64 a0)), (1, .val (dM a1)), (2, .val (dI a2))]) _
  -- region 0
  refine VW.ws tau_ok Sound.none [some 6, some 7] [(0, .val (i64 a0)), (1, .val (dM a1)), (2, .val (dI a2))] rfl ?_ ?_
  · simp <;> simp [ieq, ilt, ile]
  refine VW.sqc fun K1 hK1 hCK1 => ?_
  -- region 1
  obtain ⟨x5, hx5, h⟩ := bind_some h
  refine VW.cut [(0, .val (i64 a0)), (1, .val (dM a1)), (2, .val (dI a2)), (16, .val (.bool x5))] ?_ fun hy => ?_
  rotate_left
  · clear h
    obtain ⟨v2, hv2, hx5⟩ := bind_some hx5
    by_cases hp3 : v2 = false
    · rw [if_pos hp3] at hx5
      have hp3b : v2 = false := by simpa [ieq, ilt, ile] using hp3
      have hp3s := hp3b
      try simp at hp3s
      cases hx5
      refine VW.ws tau_ok (Sound.none.add 9 (i_IsPrime_ok hv2) rfl) [some 8, some 9, some 10, some 11, some 12, some 13, some 14, some 15, some 16] _ rfl ?_ hy
      simp [hp3b, hp3s] <;> simp [ieq, ilt, ile]
    · rw [if_neg hp3] at hx5
      have hp3b : v2 = true := by simpa [ieq, ilt, ile] using hp3
      have hp3s := hp3b
      try simp at hp3s
      obtain ⟨v4, hv4, hx5⟩ := bind_some hx5
      cases hx5
      refine VW.ws tau_ok ((Sound.none.add 9 (i_IsPrime_ok hv2) rfl).add 14 (i_field_isTable_ok hv4) rfl) [some 8, some 9, some 10, some 11, some 12, some 13, some 14, some 15, some 16] _ rfl ?_ hy
      simp [hp3b, hp3s] <;> simp [ieq, ilt, ile]
  refine VW.cond rfl (fun hb6 => ?_) (fun hb6 => ?_)
  ·
    replace hb6 : x5 = true := by simpa [ieq, ilt, ile] using hb6
    rw [if_pos hb6] at h
    -- region 2
    refine VW.ws tau_ok Sound.none [some 6, some 7] [(6, .val (.bool false)), (7, .val (i64 1))] rfl ?_ ?_
    · simp <;> simp [ieq, ilt, ile]
    cases h
    refine VW.ret ?_
    simp [Post, PostM, PostC, PostC2, Nx, Bk]
  replace hb6 : ¬ (x5 = true) := by simpa [ieq, ilt, ile] using hb6
  rw [if_neg hb6] at h
  refine VW.skip ?_
  refine hK1 _ ?_
  refine VW.sqc fun K7 hK7 hCK7 => ?_
  -- region 3
  obtain ⟨x12, hx12, h⟩ := bind_some h
  refine VW.cut [(0, .val (i64 a0)), (1, .val (dM a1)), (2, .val (dI a2)), (34, .val (.bool x12))] ?_ fun hy => ?_
  rotate_left
  · clear h
    by_cases hp8 : (a1.length : Int) = 0
    · rw [if_pos hp8] at hx12
      have hp8b : ieq (a1.length : Int) 0 = true := by simpa [ieq, ilt, ile] using hp8
      have hp8s := hp8b
      try simp at hp8s
      cases hx12
      refine VW.ws tau_ok Sound.none [some 17, some 18, some 19, some 20, some 21, some 22, some 23, some 24, some 25, some 26, some 27, some 28, some 29, some 30, some 31, some 32, some 33, some 34] _ rfl ?_ hy
      simp [hp8b, hp8s] <;> simp [ieq, ilt, ile]
    · rw [if_neg hp8] at hx12
      have hp8b : ieq (a1.length : Int) 0 = false := by simpa [ieq, ilt, ile] using hp8
      have hp8s := hp8b
      try simp at hp8s
      obtain ⟨v9, hv9, hx12⟩ := bind_some hx12
      obtain ⟨hv9a, hv9b, hv9c, hv9d⟩ := idx_some hv9
      replace hv9b : 0 < a1.length := hv9b
      replace hv9c : a1[0]? = some v9 := hv9c
      replace hv9d : ∀ h, a1[0]'h = v9 := hv9d
      by_cases hp10 : ¬ (a2.length : Int) = (v9.length : Int)
      · rw [if_pos hp10] at hx12
        have hp10b : ieq (a2.length : Int) (v9.length : Int) = false := by simpa [ieq, ilt, ile] using hp10
        have hp10s := hp10b
        try simp at hp10s
        cases hx12
        refine VW.ws tau_ok Sound.none [some 17, some 18, some 19, some 20, some 21, some 22, some 23, some 24, some 25, some 26, some 27, some 28, some 29, some 30, some 31, some 32, some 33, some 34] _ rfl ?_ hy
        simp [hp8b, hp8s, hv9a, hv9b, hv9c, hv9d, hp10b, hp10s] <;> simp [ieq, ilt, ile]
      · rw [if_neg hp10] at hx12
        have hp10b : ieq (a2.length : Int) (v9.length : Int) = true := by simpa [ieq, ilt, ile] using hp10
        have hp10s := hp10b
        try simp at hp10s
        obtain ⟨v11, hv11, hx12⟩ := bind_some hx12
        cases hx12
        refine VW.ws tau_ok (Sound.none.add 32 (i_field_is_ok hv11) rfl) [some 17, some 18, some 19, some 20, some 21, some 22, some 23, some 24, some 25, some 26, some 27, some 28, some 29, some 30, some 31, some 32, some 33, some 34] _ rfl ?_ hy
        simp [hp8b, hp8s, hv9a, hv9b, hv9c, hv9d, hp10b, hp10s] <;> simp [ieq, ilt, ile]
  refine VW.cond rfl (fun hb13 => ?_) (fun hb13 => ?_)
  ·
    replace hb13 : x12 = true := by simpa [ieq, ilt, ile] using hb13
    rw [if_pos hb13] at h
    -- region 4
    refine VW.ws tau_ok Sound.none [some 6, some 7] [(6, .val (.bool false)), (7, .val (i64 2))] rfl ?_ ?_
    · simp <;> simp [ieq, ilt, ile]
    cases h
    refine VW.ret ?_
    simp [Post, PostM, PostC, PostC2, Nx, Bk]
  replace hb13 : ¬ (x12 = true) := by simpa [ieq, ilt, ile] using hb13
  rw [if_neg hb13] at h
  refine VW.skip ?_
  refine hK7 _ ?_
  -- region 5
  obtain ⟨v14, hv14, h⟩ := bind_some h
  refine VW.ws tau_ok (Sound.none.add 38 (i_field_spans_ok hv14) rfl) [some 35, some 36, some 37, some 38, some 6, some 7] [(6, .val (.bool v14)), (7, .val (i64 0))] rfl ?_ ?_
  · simp <;> simp [ieq, ilt, ile]
  cases h
  refine VW.ret ?_
  simp [Post, PostM, PostC, PostC2, Nx, Bk]

theorem l_FnKernels_ok {a0 : List Int} {r : Bool} (h : l_FnKernels a0 = some r) :
    VCall Try.prog 9 [.list (a0.map (D.int .u8))] [.sc (.bool r)] := by
  unfold l_FnKernels at h
  refine VCall.enter Try.call9 Try.func9 rfl 154 Try.ntmps9 (by simp) [.tmp 2] rfl ?_
  show VW _ _ _ (mk [(0, .val (.list (a0.map (D.int .u8))))]) _
  -- region 0
  refine VW.ws tau_ok Sound.none [some 2] [(0, .val (.list (a0.map (D.int .u8))))] rfl ?_ ?_
  · simp <;> simp [ieq, ilt, ile]
  refine VW.sqc fun K1 hK1 hCK1 => ?_
  -- region 1
  obtain ⟨v2, hv2, h⟩ := bind_some h
  refine VW.ws tau_ok (Sound.none.add 22 (l_big_ok hv2) rfl) [some 21, some 22] [(0, .val (.list (a0.map (D.int .u8)))), (22, .val (.bool v2))] rfl ?_ ?_
  · simp <;> simp [ieq, ilt, ile]
  refine VW.cond rfl (fun hb3 => ?_) (fun hb3 => ?_)
  ·
    replace hb3 : v2 = true := by simpa [ieq, ilt, ile] using hb3
    rw [if_pos hb3] at h
    -- region 2
    refine VW.ws tau_ok Sound.none [some 2] [(2, .val (.bool true))] rfl ?_ ?_
    · simp <;> simp [ieq, ilt, ile]
    cases h
    refine VW.ret ?_
    simp [Post, PostM, PostC, PostC2, Nx, Bk]
  replace hb3 : ¬ (v2 = true) := by simpa [ieq, ilt, ile] using hb3
  rw [if_neg hb3] at h
  refine VW.skip ?_
  refine hK1 _ ?_
  -- region 3
  obtain ⟨v4, hv4, h⟩ := bind_some h
  refine VW.ws tau_ok (Sound.none.add 25 (s_DrawKernelBasis_ok hv4) rfl) [some 24, some 25, some 23, some 26, some 27, some 3, some 4] [(3, .val (i64 v4.1)), (4, .val (dM v4.2))] rfl ?_ ?_
  · simp <;> simp [ieq, ilt, ile]
  -- region 4
  obtain ⟨v5, hv5, h⟩ := bind_some h
  refine VW.ws tau_ok (Sound.none.add 31 (i_KernelBasis_ok hv5) rfl) [some 29, some 30, some 31, some 28, some 32, some 33, some 5, some 6] [(3, .val (i64 v4.1)), (4, .val (dM v4.2)), (5, .ref 5 [] true (dM v5.1)), (6, .val (i64 v5.2))] rfl ?_ ?_
  · simp <;> simp [ieq, ilt, ile]
  -- region 5
  obtain ⟨v6, hv6, h⟩ := bind_some h
  refine VW.ws tau_ok (Sound.none.add 37 (s_KernelBasis_ok hv6) rfl) [some 35, some 36, some 37, some 34, some 38, some 39, some 7, some 8] [(3, .val (i64 v4.1)), (4, .val (dM v4.2)), (5, .ref 5 [] true (dM v5.1)), (6, .val (i64 v5.2)), (7, .ref 7 [] true (dM v6.1)), (8, .val (i64 v6.2))] rfl ?_ ?_
  · simp <;> simp [ieq, ilt, ile]
  refine VW.sqc fun K7 hK7 hCK7 => ?_
  -- region 6
  obtain ⟨x10, hx10, h⟩ := bind_some h
  refine VW.cut [(3, .val (i64 v4.1)), (4, .val (dM v4.2)), (5, .ref 5 [] true (dM v5.1)), (6, .val (i64 v5.2)), (48, .val (.bool x10))] ?_ fun hy => ?_
  rotate_left
  · clear h
    by_cases hp8 : ¬ v5.2 = v6.2
    · rw [if_pos hp8] at hx10
      have hp8b : ieq v5.2 v6.2 = false := by simpa [ieq, ilt, ile] using hp8
      have hp8s := hp8b
      try simp at hp8s
      cases hx10
      refine VW.ws tau_ok Sound.none [some 40, some 41, some 42, some 43, some 44, some 45, some 46, some 47, some 48] _ rfl ?_ hy
      simp [hp8b, hp8s] <;> simp [ieq, ilt, ile]
    · rw [if_neg hp8] at hx10
      have hp8b : ieq v5.2 v6.2 = true := by simpa [ieq, ilt, ile] using hp8
      have hp8s := hp8b
      try simp at hp8s
      obtain ⟨v9, hv9, hx10⟩ := bind_some hx10
      cases hx10
      refine VW.ws tau_ok (Sound.none.add 46 (l_likeRows5_ok hv9) rfl) [some 40, some 41, some 42, some 43, some 44, some 45, some 46, some 47, some 48] _ rfl ?_ hy
      simp [hp8b, hp8s] <;> simp [ieq, ilt, ile]
  refine VW.cond rfl (fun hb11 => ?_) (fun hb11 => ?_)
  ·
    replace hb11 : x10 = true := by simpa [ieq, ilt, ile] using hb11
    rw [if_pos hb11] at h
    -- region 7
    refine VW.ws tau_ok Sound.none [some 2] [(2, .val (.bool false))] rfl ?_ ?_
    · simp <;> simp [ieq, ilt, ile]
    cases h
    refine VW.ret ?_
    simp [Post, PostM, PostC, PostC2, Nx, Bk]
  replace hb11 : ¬ (x10 = true) := by simpa [ieq, ilt, ile] using hb11
  rw [if_neg hb11] at h
  refine VW.skip ?_
  refine hK7 _ ?_
  refine VW.sqc fun K12 hK12 hCK12 => ?_
  -- region 8
  refine VW.ws tau_ok Sound.none [some 49, some 50] [(3, .val (i64 v4.1)), (4, .val (dM v4.2)), (5, .ref 5 [] true (dM v5.1)), (50, .val (.bool (!(ieq v5.2 0))))] rfl ?_ ?_
  · simp <;> simp [ieq, ilt, ile]
  refine VW.cond rfl (fun hb13 => ?_) (fun hb13 => ?_)
  ·
    replace hb13 : ¬ v5.2 = 0 := by simpa [ieq, ilt, ile] using hb13
    rw [if_pos hb13] at h
    -- region 9
    refine VW.ws tau_ok Sound.none [some 2] [(2, .val (.bool true))] rfl ?_ ?_
    · simp <;> simp [ieq, ilt, ile]
    cases h
    refine VW.ret ?_
    simp [Post, PostM, PostC, PostC2, Nx, Bk]
  replace hb13 : ¬ (¬ v5.2 = 0) := by simpa [ieq, ilt, ile] using hb13
  rw [if_neg hb13] at h
  refine VW.skip ?_
  refine hK12 _ ?_
  -- region 10
  obtain ⟨v14, hv14, h⟩ := bind_some h
  refine VW.ws tau_ok (Sound.none.add 54 (i_RankOf_ok hv14) rfl) [some 52, some 53, some 54, some 51, some 55, some 56, some 9, some 10] [(3, .val (i64 v4.1)), (4, .val (dM v4.2)), (5, .ref 5 [] true (dM v5.1)), (9, .val (i64 v14.1)), (10, .val (i64 v14.2))] rfl ?_ ?_
  · simp <;> simp [ieq, ilt, ile]
  -- region 11
  obtain ⟨v15, hv15, h⟩ := bind_some h
  refine VW.ws tau_ok (Sound.none.add 60 (i_SpanBasis_ok hv15) rfl) [some 58, some 59, some 60, some 57, some 61, some 62, some 11, some 12] [(3, .val (i64 v4.1)), (4, .val (dM v4.2)), (5, .ref 5 [] true (dM v5.1)), (9, .val (i64 v14.1)), (10, .val (i64 v14.2)), (11, .ref 11 [] true (dM v15.1)), (12, .val (i64 v15.2))] rfl ?_ ?_
  · simp <;> simp [ieq, ilt, ile]
  -- region 12
  obtain ⟨v16, hv16, h⟩ := bind_some h
  refine VW.ws tau_ok (Sound.none.add 66 (s_SpanBasis_ok hv16) rfl) [some 64, some 65, some 66, some 63, some 67, some 68, some 13, some 14] [(3, .val (i64 v4.1)), (4, .val (dM v4.2)), (5, .ref 5 [] true (dM v5.1)), (9, .val (i64 v14.1)), (10, .val (i64 v14.2)), (11, .ref 11 [] true (dM v15.1)), (12, .val (i64 v15.2)), (13, .ref 13 [] true (dM v16.1)), (14, .val (i64 v16.2))] rfl ?_ ?_
  · simp <;> simp [ieq, ilt, ile]
  refine VW.sqc fun K17 hK17 hCK17 => ?_
  -- region 13
  obtain ⟨x25, hx25, h⟩ := bind_some h
  refine VW.cut [(3, .val (i64 v4.1)), (4, .val (dM v4.2)), (5, .ref 5 [] true (dM v5.1)), (101, .val (.bool x25))] ?_ fun hy => ?_
  rotate_left
  · clear h
    by_cases hp18 : ¬ v14.2 = 0
    · rw [if_pos hp18] at hx25
      have hp18b : ieq v14.2 0 = false := by simpa [ieq, ilt, ile] using hp18
      have hp18s := hp18b
      try simp at hp18s
      cases hx25
      refine VW.ws tau_ok Sound.none [some 69, some 70, some 71, some 72, some 73, some 74, some 75, some 76, some 77, some 78, some 79, some 80, some 81, some 82, some 83, some 84, some 85, some 86, some 87, some 88, some 89, some 90, some 91, some 92, some 93, some 94, some 95, some 96, some 97, some 98, some 99, some 100, some 101] _ rfl ?_ hy
      simp [hp18b, hp18s] <;> simp [ieq, ilt, ile]
    · rw [if_neg hp18] at hx25
      have hp18b : ieq v14.2 0 = true := by simpa [ieq, ilt, ile] using hp18
      have hp18s := hp18b
      try simp at hp18s
      by_cases hp19 : ¬ v15.2 = 0
      · rw [if_pos hp19] at hx25
        have hp19b : ieq v15.2 0 = false := by simpa [ieq, ilt, ile] using hp19
        have hp19s := hp19b
        try simp at hp19s
        cases hx25
        refine VW.ws tau_ok Sound.none [some 69, some 70, some 71, some 72, some 73, some 74, some 75, some 76, some 77, some 78, some 79, some 80, some 81, some 82, some 83, some 84, some 85, some 86, some 87, some 88, some 89, some 90, some 91, some 92, some 93, some 94, some 95, some 96, some 97, some 98, some 99, some 100, some 101] _ rfl ?_ hy
        simp [hp18b, hp18s, hp19b, hp19s] <;> simp [ieq, ilt, ile]
      · rw [if_neg hp19] at hx25
        have hp19b : ieq v15.2 0 = true := by simpa [ieq, ilt, ile] using hp19
        have hp19s := hp19b
        try simp at hp19s
        by_cases hp20 : ¬ v16.2 = 0
        · rw [if_pos hp20] at hx25
          have hp20b : ieq v16.2 0 = false := by simpa [ieq, ilt, ile] using hp20
          have hp20s := hp20b
          try simp at hp20s
          cases hx25
          refine VW.ws tau_ok Sound.none [some 69, some 70, some 71, some 72, some 73, some 74, some 75, some 76, some 77, some 78, some 79, some 80, some 81, some 82, some 83, some 84, some 85, some 86, some 87, some 88, some 89, some 90, some 91, some 92, some 93, some 94, some 95, some 96, some 97, some 98, some 99, some 100, some 101] _ rfl ?_ hy
          simp [hp18b, hp18s, hp19b, hp19s, hp20b, hp20s] <;> simp [ieq, ilt, ile]
        · rw [if_neg hp20] at hx25
          have hp20b : ieq v16.2 0 = true := by simpa [ieq, ilt, ile] using hp20
          have hp20s := hp20b
          try simp at hp20s
          obtain ⟨v21, hv21, hx25⟩ := bind_some hx25
          by_cases hp22 : v21 = false
          · rw [if_pos hp22] at hx25
            have hp22b : v21 = false := by simpa [ieq, ilt, ile] using hp22
            have hp22s := hp22b
            try simp at hp22s
            cases hx25
            refine VW.ws tau_ok (Sound.none.add 82 (l_likeRows5_ok hv21) rfl) [some 69, some 70, some 71, some 72, some 73, some 74, some 75, some 76, some 77, some 78, some 79, some 80, some 81, some 82, some 83, some 84, some 85, some 86, some 87, some 88, some 89, some 90, some 91, some 92, some 93, some 94, some 95, some 96, some 97, some 98, some 99, some 100, some 101] _ rfl ?_ hy
            simp [hp18b, hp18s, hp19b, hp19s, hp20b, hp20s, hp22b, hp22s] <;> simp [ieq, ilt, ile]
          · rw [if_neg hp22] at hx25
            have hp22b : v21 = true := by simpa [ieq, ilt, ile] using hp22
            have hp22s := hp22b
            try simp at hp22s
            by_cases hp23 : ¬ v14.1 = (v15.1.length : Int)
            · rw [if_pos hp23] at hx25
              have hp23b : ieq v14.1 (v15.1.length : Int) = false := by simpa [ieq, ilt, ile] using hp23
              have hp23s := hp23b
              try simp at hp23s
              cases hx25
              refine VW.ws tau_ok (Sound.none.add 82 (l_likeRows5_ok hv21) rfl) [some 69, some 70, some 71, some 72, some 73, some 74, some 75, some 76, some 77, some 78, some 79, some 80, some 81, some 82, some 83, some 84, some 85, some 86, some 87, some 88, some 89, some 90, some 91, some 92, some 93, some 94, some 95, some 96, some 97, some 98, some 99, some 100, some 101] _ rfl ?_ hy
              simp [hp18b, hp18s, hp19b, hp19s, hp20b, hp20s, hp22b, hp22s, hp23b, hp23s] <;> simp [ieq, ilt, ile]
            · rw [if_neg hp23] at hx25
              have hp23b : ieq v14.1 (v15.1.length : Int) = true := by simpa [ieq, ilt, ile] using hp23
              have hp23s := hp23b
              try simp at hp23s
              obtain ⟨v24, hv24, hx25⟩ := bind_some hx25
              obtain ⟨hv24a, hv24b, hv24c, hv24d⟩ := idx_some hv24
              replace hv24b : 0 < v4.2.length := hv24b
              replace hv24c : v4.2[0]? = some v24 := hv24c
              replace hv24d : ∀ h, v4.2[0]'h = v24 := hv24d
              cases hx25
              refine VW.ws tau_ok (Sound.none.add 82 (l_likeRows5_ok hv21) rfl) [some 69, some 70, some 71, some 72, some 73, some 74, some 75, some 76, some 77, some 78, some 79, some 80, some 81, some 82, some 83, some 84, some 85, some 86, some 87, some 88, some 89, some 90, some 91, some 92, some 93, some 94, some 95, some 96, some 97, some 98, some 99, some 100, some 101] _ rfl ?_ hy
              simp [hp18b, hp18s, hp19b, hp19s, hp20b, hp20s, hp22b, hp22s, hp23b, hp23s, hv24a, hv24b, hv24c, hv24d] <;> simp [ieq, ilt, ile]
  refine VW.cond rfl (fun hb26 => ?_) (fun hb26 => ?_)
  ·
    replace hb26 : x25 = true := by simpa [ieq, ilt, ile] using hb26
    rw [if_pos hb26] at h
    -- region 14
    refine VW.ws tau_ok Sound.none [some 2] [(2, .val (.bool false))] rfl ?_ ?_
    · simp <;> simp [ieq, ilt, ile]
    cases h
    refine VW.ret ?_
    simp [Post, PostM, PostC, PostC2, Nx, Bk]
  replace hb26 : ¬ (x25 = true) := by simpa [ieq, ilt, ile] using hb26
  rw [if_neg hb26] at h
  refine VW.skip ?_
  refine hK17 _ ?_
  refine VW.sqc fun K27 hK27 hCK27 => ?_
  -- region 15
  refine VW.ws tau_ok Sound.none [some 15] [(3, .val (i64 v4.1)), (4, .val (dM v4.2)), (5, .ref 5 [] true (dM v5.1)), (15, .val (i64 0))] rfl ?_ ?_
  · simp <;> simp [ieq, ilt, ile]
  obtain ⟨x28, hx28, h⟩ := bind_some h
  refine VW.tlO (fun y30 => [(3, .val (i64 v4.1)), (4, .val (dM v4.2))]) x28 (hCK27) ?_ ?_
  · clear hx28
    rintro y30 rfl
    dsimp only at h
    refine hK27 _ ?_
    refine VW.sqc fun K41 hK41 hCK41 => ?_
    -- region 21
    refine VW.ws tau_ok Sound.none [some 18] [(3, .val (i64 v4.1)), (4, .val (dM v4.2)), (18, .val (i64 0))] rfl ?_ ?_
    · simp <;> simp [ieq, ilt, ile]
    obtain ⟨x42, hx42, h⟩ := bind_some h
    refine VW.tlO (fun y44 => []) x42 (hCK41) ?_ ?_
    · clear hx42
      rintro y44 rfl
      dsimp only at h
      refine hK41 _ ?_
      -- region 27
      refine VW.ws tau_ok Sound.none [some 2] [(2, .val (.bool true))] rfl ?_ ?_
      · simp <;> simp [ieq, ilt, ile]
      cases h
      refine VW.ret ?_
      simp [Post, PostM, PostC, PostC2, Nx, Bk]
    refine VW.block ?_
    refine VW.loopF (l_FnKernels_L1 v4) (fun s42 => [(3, .val (i64 v4.1)), (4, .val (dM v4.2)), (18, .val (i64 s42))]) hx42 (Fits.of rfl) ?_
    clear hx42
    intro s42 ox42 hx42o hx42b
    unfold l_FnKernels_L1 at hx42o
    refine VW.sqc fun K45 hK45 hCK45 => ?_
    -- region 22
    refine VW.ws tau_ok Sound.none [some 132, some 133, some 134, some 135] [(3, .val (i64 v4.1)), (4, .val (dM v4.2)), (18, .val (i64 s42)), (135, .val (.bool (ilt s42 (v4.2.length : Int))))] rfl ?_ ?_
    · simp <;> simp [ieq, ilt, ile]
    refine VW.cond rfl (fun hb46 => ?_) (fun hb46 => ?_)
    rotate_left
    ·
      replace hb46 : ¬ (s42 < (v4.2.length : Int)) := by simpa [ieq, ilt, ile] using hb46
      rw [if_neg hb46] at hx42o
      refine VW.exit ?_
      cases hx42o
      have hq := hx42b _ rfl
      subst hq
      exact ⟨_, rfl, Fits.of rfl⟩
    replace hb46 : s42 < (v4.2.length : Int) := by simpa [ieq, ilt, ile] using hb46
    rw [if_pos hb46] at hx42o
    refine VW.skip ?_
    refine hK45 _ ?_
    refine VW.sqc fun K47 hK47 hCK47 => ?_
    refine VW.block ?_
    -- region 24
    obtain ⟨v48, hv48, hx42o⟩ := bind_some hx42o
    obtain ⟨hv48a, hv48b, hv48c, hv48d⟩ := idx_some hv48
    obtain ⟨v49, hv49, hx42o⟩ := bind_some hx42o
    refine VW.ws tau_ok (Sound.none.add 145 (i_InSpan_ok hv49) rfl) [some 139, some 140, some 141, some 142, some 143, some 144, some 145, some 138, some 146, some 147, some 19, some 20] [(3, .val (i64 v4.1)), (4, .val (dM v4.2)), (18, .val (i64 s42)), (19, .val (.bool v49.1)), (20, .val (i64 v49.2))] rfl ?_ ?_
    · simp [hv48a, hv48b, hv48c, hv48d] <;> simp [ieq, ilt, ile]
    -- region 25
    obtain ⟨x51, hx51, hx42o⟩ := bind_some hx42o
    refine VW.cut [(3, .val (i64 v4.1)), (4, .val (dM v4.2)), (18, .val (i64 s42)), (153, .val (.bool x51))] ?_ fun hy => ?_
    rotate_left
    · clear hx42o
      by_cases hp50 : ¬ v49.2 = 0
      · rw [if_pos hp50] at hx51
        have hp50b : ieq v49.2 0 = false := by simpa [ieq, ilt, ile] using hp50
        have hp50s := hp50b
        try simp at hp50s
        cases hx51
        refine VW.ws tau_ok Sound.none [some 148, some 149, some 150, some 151, some 152, some 153] _ rfl ?_ hy
        simp [hp50b, hp50s] <;> simp [ieq, ilt, ile]
      · rw [if_neg hp50] at hx51
        have hp50b : ieq v49.2 0 = true := by simpa [ieq, ilt, ile] using hp50
        have hp50s := hp50b
        try simp at hp50s
        cases hx51
        refine VW.ws tau_ok Sound.none [some 148, some 149, some 150, some 151, some 152, some 153] _ rfl ?_ hy
        simp [hp50b, hp50s] <;> simp [ieq, ilt, ile]
    refine VW.cond rfl (fun hb52 => ?_) (fun hb52 => ?_)
    rotate_left
    ·
      replace hb52 : ¬ (x51 = true) := by simpa [ieq, ilt, ile] using hb52
      rw [if_neg hb52] at hx42o
      refine VW.skip ?_
      refine hK47 _ ?_
      -- region 23
      refine VW.wr tau_ok Sound.none [some 136, some 137, some 18] [(3, .val (i64 v4.1)), (4, .val (dM v4.2)), (18, .val (i64 (w64 (s42 + 1))))] rfl ?_ ?_
      · simp <;> simp [ieq, ilt, ile]
      cases hx42o
      exact ⟨_, rfl, Fits.of rfl⟩
    replace hb52 : x51 = true := by simpa [ieq, ilt, ile] using hb52
    rw [if_pos hb52] at hx42o
    -- region 26
    refine VW.ws tau_ok Sound.none [some 2] [(2, .val (.bool false))] rfl ?_ ?_
    · simp <;> simp [ieq, ilt, ile]
    cases hx42o
    have hq := hx42b _ rfl
    subst hq
    dsimp only at h
    cases h
    refine VW.ret ?_
    simp [Post, PostM, PostC, PostC2, Nx, Bk]
  refine VW.block ?_
  refine VW.loopF (l_FnKernels_L0 v4 v5) (fun s28 => [(3, .val (i64 v4.1)), (4, .val (dM v4.2)), (5, .ref 5 [] true (dM v5.1)), (15, .val (i64 s28))]) hx28 (Fits.of rfl) ?_
  clear hx28
  intro s28 ox28 hx28o hx28b
  unfold l_FnKernels_L0 at hx28o
  refine VW.sqc fun K31 hK31 hCK31 => ?_
  -- region 16
  refine VW.ws tau_ok Sound.none [some 102, some 103, some 104, some 105] [(3, .val (i64 v4.1)), (4, .val (dM v4.2)), (5, .ref 5 [] true (dM v5.1)), (15, .val (i64 s28)), (105, .val (.bool (ilt s28 (v5.1.length : Int))))] rfl ?_ ?_
  · simp <;> simp [ieq, ilt, ile]
  refine VW.cond rfl (fun hb32 => ?_) (fun hb32 => ?_)
  rotate_left
  ·
    replace hb32 : ¬ (s28 < (v5.1.length : Int)) := by simpa [ieq, ilt, ile] using hb32
    rw [if_neg hb32] at hx28o
    refine VW.exit ?_
    cases hx28o
    have hq := hx28b _ rfl
    subst hq
    exact ⟨_, rfl, Fits.of rfl⟩
  replace hb32 : s28 < (v5.1.length : Int) := by simpa [ieq, ilt, ile] using hb32
  rw [if_pos hb32] at hx28o
  refine VW.skip ?_
  refine hK31 _ ?_
  refine VW.sqc fun K33 hK33 hCK33 => ?_
  refine VW.block ?_
  -- region 18
  obtain ⟨v34, hv34, hx28o⟩ := bind_some hx28o
  obtain ⟨hv34a, hv34b, hv34c, hv34d⟩ := idx_some hv34
  obtain ⟨v35, hv35, hx28o⟩ := bind_some hx28o
  refine VW.ws tau_ok (Sound.none.add 115 (i_ApplyMatrix_ok hv35) rfl) [some 109, some 110, some 111, some 112, some 113, some 114, some 115, some 108, some 116, some 117, some 16, some 17] [(3, .val (i64 v4.1)), (4, .val (dM v4.2)), (5, .ref 5 [] true (dM v5.1)), (15, .val (i64 s28)), (16, .ref 16 [] true (dI v35.1)), (17, .val (i64 v35.2))] rfl ?_ ?_
  · simp [hv34a, hv34b, hv34c, hv34d] <;> simp [ieq, ilt, ile]
  -- region 19
  obtain ⟨x39, hx39, hx28o⟩ := bind_some hx28o
  refine VW.cut [(3, .val (i64 v4.1)), (4, .val (dM v4.2)), (5, .ref 5 [] true (dM v5.1)), (15, .val (i64 s28)), (131, .val (.bool x39))] ?_ fun hy => ?_
  rotate_left
  · clear hx28o
    by_cases hp36 : ¬ v35.2 = 0
    · rw [if_pos hp36] at hx39
      have hp36b : ieq v35.2 0 = false := by simpa [ieq, ilt, ile] using hp36
      have hp36s := hp36b
      try simp at hp36s
      cases hx39
      refine VW.ws tau_ok Sound.none [some 118, some 119, some 120, some 121, some 122, some 123, some 124, some 125, some 126, some 127, some 128, some 129, some 130, some 131] _ rfl ?_ hy
      simp [hp36b, hp36s] <;> simp [ieq, ilt, ile]
    · rw [if_neg hp36] at hx39
      have hp36b : ieq v35.2 0 = true := by simpa [ieq, ilt, ile] using hp36
      have hp36s := hp36b
      try simp at hp36s
      by_cases hp37 : ¬ (v35.1.length : Int) = (v4.2.length : Int)
      · rw [if_pos hp37] at hx39
        have hp37b : ieq (v35.1.length : Int) (v4.2.length : Int) = false := by simpa [ieq, ilt, ile] using hp37
        have hp37s := hp37b
        try simp at hp37s
        cases hx39
        refine VW.ws tau_ok Sound.none [some 118, some 119, some 120, some 121, some 122, some 123, some 124, some 125, some 126, some 127, some 128, some 129, some 130, some 131] _ rfl ?_ hy
        simp [hp36b, hp36s, hp37b, hp37s] <;> simp [ieq, ilt, ile]
      · rw [if_neg hp37] at hx39
        have hp37b : ieq (v35.1.length : Int) (v4.2.length : Int) = true := by simpa [ieq, ilt, ile] using hp37
        have hp37s := hp37b
        try simp at hp37s
        obtain ⟨v38, hv38, hx39⟩ := bind_some hx39
        cases hx39
        refine VW.ws tau_ok (Sound.none.add 129 (l_zero5_ok hv38) rfl) [some 118, some 119, some 120, some 121, some 122, some 123, some 124, some 125, some 126, some 127, some 128, some 129, some 130, some 131] _ rfl ?_ hy
        simp [hp36b, hp36s, hp37b, hp37s] <;> simp [ieq, ilt, ile]
  refine VW.cond rfl (fun hb40 => ?_) (fun hb40 => ?_)
  rotate_left
  ·
    replace hb40 : ¬ (x39 = true) := by simpa [ieq, ilt, ile] using hb40
    rw [if_neg hb40] at hx28o
    refine VW.skip ?_
    refine hK33 _ ?_
    -- region 17
    refine VW.wr tau_ok Sound.none [some 106, some 107, some 15] [(3, .val (i64 v4.1)), (4, .val (dM v4.2)), (5, .ref 5 [] true (dM v5.1)), (15, .val (i64 (w64 (s28 + 1))))] rfl ?_ ?_
    · simp <;> simp [ieq, ilt, ile]
    cases hx28o
    exact ⟨_, rfl, Fits.of rfl⟩
  replace hb40 : x39 = true := by simpa [ieq, ilt, ile] using hb40
  rw [if_pos hb40] at hx28o
  -- region 20
  refine VW.ws tau_ok Sound.none [some 2] [(2, .val (.bool false))] rfl ?_ ?_
  · simp <;> simp [ieq, ilt, ile]
  cases hx28o
  have hq := hx28b _ rfl
  subst hq
  dsimp only at h
  cases h
  refine VW.ret ?_
  simp [Post, PostM, PostC, PostC2, Nx, Bk]
end Go.Vam
