import Derived.Test.YteafapgnelhmmaaR2T
import Derived.Test.YteafapgnelhmmaaFnD
import Derived.Test.YteafapgnelhmmaaR2W1
import Derived.Test.YteafapgnelhmmaaR2W2
import Derived.Test.YteafapgnelhmmaaR2W4
import Derived.Test.YteafapgnelhmmaaR2W5
import Derived.Test.YteafapgnelhmmaaR2W6
import Derived.Test.YteafapgnelhmmaaR2W7
import Derived.Test.YteafapgnelhmmaaR2W9
import Derived.Test.YteafapgnelhmmaaR2W11
namespace Go.Vam
open Go Go.RowKit Go.Proofs
set_option maxRecDepth 100000
set_option linter.unusedSimpArgs false
set_option linter.unusedVariables false

theorem l_FnExactDeterminant_ok {a0 : Int} {a1 : List (List Int)} {r : Bool} (h : l_FnExactDeterminant a0 a1 = some r) :
    VCall Try.prog 8 [i64 a0, dM a1] [.sc (.bool r)] := by
  unfold l_FnExactDeterminant at h
  refine VCall.enter Try.call8 Try.func8 rfl 44 Try.ntmps8 (by simp) [.tmp 4] rfl ?_
  show VW _ _ _ (mk [(0, .val (i64 a0)), (1, .val (dM a1))]) _
  -- region 0
  refine VW.ws tau_ok Sound.none [some 4] [(0, .val (i64 a0)), (1, .val (dM a1))] rfl ?_ ?_
  · simp <;> simp [ieq, ilt, ile]
  -- region 1
  refine VW.ws tau_ok Sound.none [some 5] [(0, .val (i64 a0)), (1, .val (dM a1)), (5, .val (i64 1048576))] rfl ?_ ?_
  · simp <;> simp [ieq, ilt, ile]
  -- region 2
  obtain ⟨v1, hv1, h⟩ := bind_some h
  refine VW.ws tau_ok (Sound.none.add 13 (l_szInt64SS_ok hv1) rfl) [some 11, some 12, some 13, some 5] [(0, .val (i64 a0)), (1, .val (dM a1)), (5, .val (i64 v1))] rfl ?_ ?_
  · simp <;> simp [ieq, ilt, ile]
  refine VW.sqc fun K2 hK2 hCK2 => ?_
  -- region 3
  refine VW.ws tau_ok Sound.none [some 14, some 15] [(0, .val (i64 a0)), (1, .val (dM a1)), (15, .val (.bool (ilt v1 0)))] rfl ?_ ?_
  · simp <;> simp [ieq, ilt, ile]
  refine VW.cond rfl (fun hb3 => ?_) (fun hb3 => ?_)
  ·
    replace hb3 : v1 < 0 := by simpa [ieq, ilt, ile] using hb3
    rw [if_pos hb3] at h
    -- region 4
    refine VW.ws tau_ok Sound.none [some 4] [(4, .val (.bool true))] rfl ?_ ?_
    · simp <;> simp [ieq, ilt, ile]
    cases h
    refine VW.ret ?_
    simp [Post, PostM, PostC, PostC2, Nx, Bk]
  replace hb3 : ¬ (v1 < 0) := by simpa [ieq, ilt, ile] using hb3
  rw [if_neg hb3] at h
  refine VW.skip ?_
  refine hK2 _ ?_
  -- region 5
  obtain ⟨v4, hv4, h⟩ := bind_some h
  obtain ⟨v5, hv5, h⟩ := bind_some h
  refine VW.ws tau_ok ((Sound.none.add 19 (l_toInt64SS_ok hv4) rfl).add 20 (s_Determinant_ok hv5) rfl) [some 17, some 18, some 19, some 20, some 16, some 21, some 22, some 6, some 7] [(0, .val (i64 a0)), (1, .val (dM a1)), (6, .val (i64 v5.1)), (7, .val (i64 v5.2))] rfl ?_ ?_
  · simp <;> simp [ieq, ilt, ile]
  -- region 6
  obtain ⟨v6, hv6, h⟩ := bind_some h
  refine VW.ws tau_ok (Sound.none.add 24 (l_toInt64SS_ok hv6) rfl) [some 23, some 24, some 8] [(0, .val (i64 a0)), (1, .val (dM a1)), (6, .val (i64 v5.1)), (7, .val (i64 v5.2)), (8, .ref 8 [] true (dM v6))] rfl ?_ ?_
  · simp <;> simp [ieq, ilt, ile]
  -- region 7
  obtain ⟨v7, hv7, h⟩ := bind_some h
  refine VW.ws tau_ok (Sound.none.add 28 (i_Determinant_ok hv7) rfl) [some 26, some 27, some 28, some 25, some 29, some 30, some 9, some 10] [(1, .val (dM a1)), (6, .val (i64 v5.1)), (7, .val (i64 v5.2)), (8, .ref 8 [] true (dM v6)), (9, .val (i64 v7.1)), (10, .val (i64 v7.2))] rfl ?_ ?_
  · simp <;> simp [ieq, ilt, ile]
  refine VW.sqc fun K8 hK8 hCK8 => ?_
  -- region 8
  obtain ⟨x10, hx10, h⟩ := bind_some h
  refine VW.cut [(1, .val (dM a1)), (8, .ref 8 [] true (dM v6)), (38, .val (.bool x10))] ?_ fun hy => ?_
  rotate_left
  · clear h
    by_cases hp9 : ¬ v7.1 = v5.1
    · rw [if_pos hp9] at hx10
      have hp9b : ieq v7.1 v5.1 = false := by simpa [ieq, ilt, ile] using hp9
      have hp9s := hp9b
      try simp at hp9s
      cases hx10
      refine VW.ws tau_ok Sound.none [some 31, some 32, some 33, some 34, some 35, some 36, some 37, some 38] _ rfl ?_ hy
      simp [hp9b, hp9s] <;> simp [ieq, ilt, ile]
    · rw [if_neg hp9] at hx10
      have hp9b : ieq v7.1 v5.1 = true := by simpa [ieq, ilt, ile] using hp9
      have hp9s := hp9b
      try simp at hp9s
      cases hx10
      refine VW.ws tau_ok Sound.none [some 31, some 32, some 33, some 34, some 35, some 36, some 37, some 38] _ rfl ?_ hy
      simp [hp9b, hp9s] <;> simp [ieq, ilt, ile]
  refine VW.cond rfl (fun hb11 => ?_) (fun hb11 => ?_)
  ·
    replace hb11 : x10 = true := by simpa [ieq, ilt, ile] using hb11
    rw [if_pos hb11] at h
    -- region 9
    refine VW.ws tau_ok Sound.none [some 4] [(4, .val (.bool false))] rfl ?_ ?_
    · simp <;> simp [ieq, ilt, ile]
    cases h
    refine VW.ret ?_
    simp [Post, PostM, PostC, PostC2, Nx, Bk]
  replace hb11 : ¬ (x10 = true) := by simpa [ieq, ilt, ile] using hb11
  rw [if_neg hb11] at h
  refine VW.skip ?_
  refine hK8 _ ?_
  refine VW.sqc fun K12 hK12 hCK12 => ?_
  -- region 10
  obtain ⟨v13, hv13, h⟩ := bind_some h
  obtain ⟨v14, hv14, h⟩ := bind_some h
  refine VW.ws tau_ok ((Sound.none.add 41 (l_toInt64SS_ok hv13) rfl).add 42 (l_eqInt64SS_ok hv14) rfl) [some 39, some 40, some 41, some 42, some 43] [(43, .val (.bool (!v14)))] rfl ?_ ?_
  · simp <;> simp [ieq, ilt, ile]
  refine VW.cond rfl (fun hb15 => ?_) (fun hb15 => ?_)
  ·
    replace hb15 : v14 = false := by simpa [ieq, ilt, ile] using hb15
    rw [if_pos hb15] at h
    -- region 11
    refine VW.ws tau_ok Sound.none [some 4] [(4, .val (.bool false))] rfl ?_ ?_
    · simp <;> simp [ieq, ilt, ile]
    cases h
    refine VW.ret ?_
    simp [Post, PostM, PostC, PostC2, Nx, Bk]
  replace hb15 : ¬ (v14 = false) := by simpa [ieq, ilt, ile] using hb15
  rw [if_neg hb15] at h
  refine VW.skip ?_
  refine hK12 _ ?_
  -- region 12
  refine VW.ws tau_ok Sound.none [some 4] [(4, .val (.bool true))] rfl ?_ ?_
  · simp <;> simp [ieq, ilt, ile]
  cases h
  refine VW.ret ?_
  simp [Post, PostM, PostC, PostC2, Nx, Bk]

theorem s_l04Size_ok {a0_0 : Int} {a0_1 : List Int} {r : Int} (h : s_l04Size a0_0 a0_1 = some r) :
    VCall Try.prog 169 [.agg [i64 a0_0, dI a0_1]] [.sc (i64 r)] := by
  unfold s_l04Size at h
  refine VCall.enter Try.call169 Try.func169 rfl 8 Try.ntmps169 (by simp) [.tmp 2] rfl ?_
  show VW _ _ _ (mk [(0, .val (.agg [i64 a0_0, dI a0_1]))]) _
  -- region 0
  refine VW.ws tau_ok Sound.none [some 1, some 2] [(1, .val (.ptr [i64 a0_0, dI a0_1]))] rfl ?_ ?_
  · simp <;> simp [ieq, ilt, ile]
  -- region 1
  obtain ⟨hc1, h⟩ := chk_some h
  have hc1s := hc1
  try simp at hc1s
  refine VW.ws tau_ok Sound.none [some 3, some 4, some 5, some 6, some 7, some 2] [(2, .val (i64 (shl .i64 1 (IntKind.u64.wrap ((a0_1.length : Int))))))] rfl ?_ ?_
  · simp [hc1, hc1s] <;> simp [ieq, ilt, ile]
  cases h
  refine VW.ret ?_
  simp [Post, PostM, PostC, PostC2, Nx, Bk]

theorem s_l04Zero_ok {a0_0 : Int} {a0_1 : List Int} {r : List Int} (h : s_l04Zero a0_0 a0_1 = some r) :
    VCall Try.prog 99 [.agg [i64 a0_0, dI a0_1]] [.own true (dI r)] := by
  unfold s_l04Zero at h
  refine VCall.enter Try.call99 Try.func99 rfl 6 Try.ntmps99 (by simp) [.tmp 2] rfl ?_
  show VW _ _ _ (mk [(0, .val (.agg [i64 a0_0, dI a0_1]))]) _
  -- region 0
  refine VW.ws tau_ok Sound.none [some 1, some 2] [(1, .val (.ptr [i64 a0_0, dI a0_1]))] rfl ?_ ?_
  · simp <;> simp [ieq, ilt, ile]
  -- region 1
  obtain ⟨v1, hv1, h⟩ := bind_some h
  obtain ⟨hc2, h⟩ := chk_some h
  have hc2s := hc2
  try simp at hc2s
  refine VW.ws tau_ok (Sound.none.add 4 (s_l04Size_ok hv1) rfl) [some 3, some 4, some 5, some 2] [(2, .ref 2 [] true (dI (List.replicate v1.toNat 0)))] rfl ?_ ?_
  · simp [hc2, hc2s] <;> simp [ieq, ilt, ile]
  cases h
  refine VW.ret ?_
  simp [Post, PostM, PostC, PostC2, Nx, Bk]

theorem s_BivectorOfMatrix_ok {a0_0 : Int} {a0_1 : List Int} {a1 : List (List Int)} {r : (List Int) × Int} (h : s_BivectorOfMatrix a0_0 a0_1 a1 = some r) :
    VCall Try.prog 42 [.agg [i64 a0_0, dI a0_1], dM a1] [.own true (dI r.1), .sc (i64 r.2)] := by
  unfold s_BivectorOfMatrix at h
  refine VCall.enter Try.call42 Try.func42 rfl 69 Try.ntmps42 (by simp) [.tmp 4, .tmp 5] rfl ?_
  show VW _ _ _ (mk [(0, .val (.agg [i64 a0_0, dI a0_1])), (1, .val (dM a1))]) _
  -- region 0
  refine VW.ws tau_ok Sound.none [some 2, some 4, some 5] [(1, .val (dM a1)), (2, .val (.ptr [i64 a0_0, dI a0_1]))] rfl ?_ ?_
  · simp <;> simp [ieq, ilt, ile]
  -- region 1
  obtain ⟨v1, hv1, h⟩ := bind_some h
  refine VW.ws tau_ok (Sound.none.add 12 (s_l10Shape_ok hv1) rfl) [some 10, some 11, some 12, some 6] [(1, .val (dM a1)), (2, .val (.ptr [i64 a0_0, dI a0_1])), (6, .val (i64 v1))] rfl ?_ ?_
  · simp <;> simp [ieq, ilt, ile]
  refine VW.sqc fun K2 hK2 hCK2 => ?_
  -- region 2
  obtain ⟨x5, hx5, h⟩ := bind_some h
  refine VW.cut [(1, .val (dM a1)), (2, .val (.ptr [i64 a0_0, dI a0_1])), (6, .val (i64 v1)), (20, .val (.bool x5))] ?_ fun hy => ?_
  rotate_left
  · clear h
    by_cases hp3 : v1 = 0
    · rw [if_pos hp3] at hx5
      have hp3b : ieq v1 0 = true := by simpa [ieq, ilt, ile] using hp3
      have hp3s := hp3b
      try simp at hp3s
      obtain ⟨v4, hv4, hx5⟩ := bind_some hx5
      cases hx5
      refine VW.ws tau_ok (Sound.none.add 18 (s_l10Skew_ok hv4) rfl) [some 13, some 14, some 15, some 16, some 17, some 18, some 19, some 20] _ rfl ?_ hy
      simp [hp3b, hp3s] <;> simp [ieq, ilt, ile]
    · rw [if_neg hp3] at hx5
      have hp3b : ieq v1 0 = false := by simpa [ieq, ilt, ile] using hp3
      have hp3s := hp3b
      try simp at hp3s
      cases hx5
      refine VW.ws tau_ok Sound.none [some 13, some 14, some 15, some 16, some 17, some 18, some 19, some 20] _ rfl ?_ hy
      simp [hp3b, hp3s] <;> simp [ieq, ilt, ile]
  obtain ⟨x6, hx6, h⟩ := bind_some h
  refine VW.tlE [(1, .val (dM a1)), (2, .val (.ptr [i64 a0_0, dI a0_1])), (6, .val (i64 x6))] (hCK2) ?_ ?_
  · clear hx6
    refine hK2 _ ?_
    refine VW.sqc fun K9 hK9 hCK9 => ?_
    -- region 4
    refine VW.ws tau_ok Sound.none [some 21, some 22] [(1, .val (dM a1)), (2, .val (.ptr [i64 a0_0, dI a0_1])), (6, .val (i64 x6)), (22, .val (.bool (!(ieq x6 0))))] rfl ?_ ?_
    · simp <;> simp [ieq, ilt, ile]
    refine VW.cond rfl (fun hb10 => ?_) (fun hb10 => ?_)
    ·
      replace hb10 : ¬ x6 = 0 := by simpa [ieq, ilt, ile] using hb10
      rw [if_pos hb10] at h
      -- region 5
      refine VW.ws tau_ok Sound.none [some 23, some 4, some 5] [(4, .ref 4 [] true (.list [])), (5, .val (i64 x6))] rfl ?_ ?_
      · simp <;> simp [ieq, ilt, ile]
      cases h
      refine VW.ret ?_
      simp [Post, PostM, PostC, PostC2, Nx, Bk]
    replace hb10 : ¬ (¬ x6 = 0) := by simpa [ieq, ilt, ile] using hb10
    rw [if_neg hb10] at h
    refine VW.skip ?_
    refine hK9 _ ?_
    -- region 6
    obtain ⟨v11, hv11, h⟩ := bind_some h
    refine VW.ws tau_ok (Sound.none.add 25 (s_l04Zero_ok hv11) rfl) [some 24, some 25, some 7] [(1, .val (dM a1)), (2, .val (.ptr [i64 a0_0, dI a0_1])), (7, .ref 7 [] true (dI v11))] rfl ?_ ?_
    · simp <;> simp [ieq, ilt, ile]
    refine VW.sqc fun K12 hK12 hCK12 => ?_
    -- region 7
    refine VW.ws tau_ok Sound.none [some 8] [(1, .val (dM a1)), (2, .val (.ptr [i64 a0_0, dI a0_1])), (7, .ref 7 [] true (dI v11)), (8, .val (i64 0))] rfl ?_ ?_
    · simp <;> simp [ieq, ilt, ile]
    obtain ⟨x13, hx13, h⟩ := bind_some h
    refine VW.tlE [(7, .ref 7 [] true (dI x13))] (hCK12) ?_ ?_
    · clear hx13
      refine hK12 _ ?_
      -- region 14
      refine VW.ws tau_ok Sound.none [some 68, some 4, some 5] [(4, .ref 4 [] true (dI x13)), (5, .val (i64 0))] rfl ?_ ?_
      · simp <;> simp [ieq, ilt, ile]
      cases h
      refine VW.ret ?_
      simp [Post, PostM, PostC, PostC2, Nx, Bk]
    refine VW.block ?_
    refine VW.loopF (s_BivectorOfMatrix_L0 a0_0 a0_1 a1) (fun s13 => [(1, .val (dM a1)), (2, .val (.ptr [i64 a0_0, dI a0_1])), (7, .ref 7 [] true (dI s13.1)), (8, .val (i64 s13.2))]) hx13 (Fits.of rfl) ?_
    clear hx13
    intro s13 ox13 hx13o hx13b
    unfold s_BivectorOfMatrix_L0 at hx13o
    refine VW.sqc fun K15 hK15 hCK15 => ?_
    -- region 8
    refine VW.ws tau_ok Sound.none [some 26, some 27, some 28, some 29] [(1, .val (dM a1)), (2, .val (.ptr [i64 a0_0, dI a0_1])), (7, .ref 7 [] true (dI s13.1)), (8, .val (i64 s13.2)), (29, .val (.bool (ilt s13.2 (a1.length : Int))))] rfl ?_ ?_
    · simp <;> simp [ieq, ilt, ile]
    refine VW.cond rfl (fun hb16 => ?_) (fun hb16 => ?_)
    rotate_left
    ·
      replace hb16 : ¬ (s13.2 < (a1.length : Int)) := by simpa [ieq, ilt, ile] using hb16
      rw [if_neg hb16] at hx13o
      refine VW.exit ?_
      cases hx13o
      have hq := hx13b _ rfl
      subst hq
      exact Fits.of rfl
    replace hb16 : s13.2 < (a1.length : Int) := by simpa [ieq, ilt, ile] using hb16
    rw [if_pos hb16] at hx13o
    refine VW.skip ?_
    refine hK15 _ ?_
    refine VW.sqc fun K17 hK17 hCK17 => ?_
    refine VW.block ?_
    -- region 10
    refine VW.ws tau_ok Sound.none [some 32, some 33, some 9] [(1, .val (dM a1)), (2, .val (.ptr [i64 a0_0, dI a0_1])), (7, .ref 7 [] true (dI s13.1)), (8, .val (i64 s13.2)), (9, .val (i64 (w64 (s13.2 + 1))))] rfl ?_ ?_
    · simp <;> simp [ieq, ilt, ile]
    obtain ⟨x18, hx18, hx13o⟩ := bind_some hx13o
    refine VW.tlE [(1, .val (dM a1)), (2, .val (.ptr [i64 a0_0, dI a0_1])), (7, .ref 7 [] true (dI x18)), (8, .val (i64 s13.2))] (hCK17) ?_ ?_
    · clear hx18
      refine hK17 _ ?_
      -- region 9
      refine VW.wr tau_ok Sound.none [some 30, some 31, some 8] [(1, .val (dM a1)), (2, .val (.ptr [i64 a0_0, dI a0_1])), (7, .ref 7 [] true (dI x18)), (8, .val (i64 (w64 (s13.2 + 1))))] rfl ?_ ?_
      · simp <;> simp [ieq, ilt, ile]
      cases hx13o
      exact ⟨_, rfl, Fits.of rfl⟩
    refine VW.block ?_
    refine VW.loopF (s_BivectorOfMatrix_L1 a0_0 a0_1 a1 s13) (fun s18 => [(1, .val (dM a1)), (2, .val (.ptr [i64 a0_0, dI a0_1])), (7, .ref 7 [] true (dI s18.1)), (8, .val (i64 s13.2)), (9, .val (i64 s18.2))]) hx18 (Fits.of rfl) ?_
    clear hx18
    intro s18 ox18 hx18o hx18b
    unfold s_BivectorOfMatrix_L1 at hx18o
    refine VW.sqc fun K20 hK20 hCK20 => ?_
    -- region 11
    refine VW.ws tau_ok Sound.none [some 34, some 35, some 36, some 37] [(1, .val (dM a1)), (2, .val (.ptr [i64 a0_0, dI a0_1])), (7, .ref 7 [] true (dI s18.1)), (8, .val (i64 s13.2)), (9, .val (i64 s18.2)), (37, .val (.bool (ilt s18.2 (a1.length : Int))))] rfl ?_ ?_
    · simp <;> simp [ieq, ilt, ile]
    refine VW.cond rfl (fun hb21 => ?_) (fun hb21 => ?_)
    rotate_left
    ·
      replace hb21 : ¬ (s18.2 < (a1.length : Int)) := by simpa [ieq, ilt, ile] using hb21
      rw [if_neg hb21] at hx18o
      refine VW.exit ?_
      cases hx18o
      have hq := hx18b _ rfl
      subst hq
      exact Fits.of rfl
    replace hb21 : s18.2 < (a1.length : Int) := by simpa [ieq, ilt, ile] using hb21
    rw [if_pos hb21] at hx18o
    refine VW.skip ?_
    refine hK20 _ ?_
    refine VW.sqc fun K22 hK22 hCK22 => ?_
    refine VW.block ?_
    -- region 13
    obtain ⟨hc23, hx18o⟩ := chk_some hx18o
    have hc23s := hc23
    try simp at hc23s
    obtain ⟨hc24, hx18o⟩ := chk_some hx18o
    have hc24s := hc24
    try simp at hc24s
    obtain ⟨v25, hv25, hx18o⟩ := bind_some hx18o
    obtain ⟨hv25a, hv25b, hv25c, hv25d⟩ := idx_some hv25
    obtain ⟨v26, hv26, hx18o⟩ := bind_some hx18o
    obtain ⟨hv26a, hv26b, hv26c, hv26d⟩ := idx_some hv26
    obtain ⟨v27, hv27, hx18o⟩ := bind_some hx18o
    obtain ⟨hv27a, hv27b, hv27c, hv27d⟩ := idx_some hv27
    obtain ⟨v28, hv28, hx18o⟩ := bind_some hx18o
    obtain ⟨hc29, hx18o⟩ := chk_some hx18o
    have hc29s := hc29
    try simp at hc29s
    obtain ⟨v30, hv30, hx18o⟩ := bind_some hx18o
    obtain ⟨hv30a, hv30b, hv30c, hv30d⟩ := idx_some hv30
    refine VW.wdr tau_ok (Sound.none.add 62 (s_l01Inv_ok hv28) rfl) try_mixed [some 40, some 41, some 42, some 43, some 44, some 45, some 46, some 47, some 48, some 49, some 50, some 51, some 52, some 53, some 54, some 55, some 56, some 57, some 58, some 59, some 60, some 61, some 62, some 63, some 64, some 65, some 66, some 67, none] [(1, .val (dM a1)), (2, .val (.ptr [i64 a0_0, dI a0_1])), (7, .ref 7 [] true (dI (s18.1.set (w64 ((shl .i64 1 (IntKind.u64.wrap (s13.2))) + (shl .i64 1 (IntKind.u64.wrap (s18.2))))).toNat ((w64 (v26 * v28)).tmod a0_0)))), (8, .val (i64 s13.2)), (9, .val (i64 s18.2))] 28 rfl (by kernel_rfl) (by rfl) ?_ ?_
    · simp [hc23, hc23s, hc24, hc24s, hv25a, hv25b, hv25c, hv25d, hv26a, hv26b, hv26c, hv26d, hv27a, hv27b, hv27c, hv27d, hc29, hc29s, hv30a, hv30b, hv30c, hv30d] <;> simp [ieq, ilt, ile]
    refine hK22 _ ?_
    -- region 12
    refine VW.wr tau_ok Sound.none [some 38, some 39, some 9] [(1, .val (dM a1)), (2, .val (.ptr [i64 a0_0, dI a0_1])), (7, .ref 7 [] true (dI (s18.1.set (w64 ((shl .i64 1 (IntKind.u64.wrap (s13.2))) + (shl .i64 1 (IntKind.u64.wrap (s18.2))))).toNat ((w64 (v26 * v28)).tmod a0_0)))), (8, .val (i64 s13.2)), (9, .val (i64 (w64 (s18.2 + 1))))] rfl ?_ ?_
    · simp <;> simp [ieq, ilt, ile]
    cases hx18o
    exact ⟨_, rfl, Fits.of rfl⟩
  refine VW.cond rfl (fun hb8 => ?_) (fun hb8 => ?_)
  rotate_left
  ·
    replace hb8 : ¬ (x5 = true) := by simpa [ieq, ilt, ile] using hb8
    rw [if_neg hb8] at hx6
    refine VW.skip ?_
    cases hx6
    exact Fits.of rfl
  replace hb8 : x5 = true := by simpa [ieq, ilt, ile] using hb8
  rw [if_pos hb8] at hx6
  -- region 3
  refine VW.wr tau_ok Sound.none [some 6] [(1, .val (dM a1)), (2, .val (.ptr [i64 a0_0, dI a0_1])), (6, .val (i64 5))] rfl ?_ ?_
  · simp <;> simp [ieq, ilt, ile]
  cases hx6
  exact Fits.of rfl

theorem i_Space_nothing_ok {a0_0 : Int} {a0_1 : List Int} {r : List Int} (h : i_Space_nothing a0_0 a0_1 = some r) :
    VCall Try.prog 100 [.agg [i64 a0_0, dI a0_1]] [.own true (dI r)] := by
  unfold i_Space_nothing at h
  refine VCall.enter Try.call100 Try.func100 rfl 7 Try.ntmps100 (by simp) [.tmp 2] rfl ?_
  show VW _ _ _ (mk [(0, .val (.agg [i64 a0_0, dI a0_1]))]) _
  -- region 0
  refine VW.ws tau_ok Sound.none [some 1, some 2] [(1, .val (.ptr [i64 a0_0, dI a0_1]))] rfl ?_ ?_
  · simp <;> simp [ieq, ilt, ile]
  -- region 1
  obtain ⟨v1, hv1, h⟩ := bind_some h
  obtain ⟨hc2, h⟩ := chk_some h
  have hc2s := hc2
  try simp at hc2s
  obtain ⟨hc3, h⟩ := chk_some h
  have hc3s := hc3
  try simp at hc3s
  refine VW.ws tau_ok (Sound.none.add 4 (i_Space_dim_ok hv1) rfl) [some 3, some 4, some 5, some 6, some 2] [(2, .ref 2 [] true (dI (List.replicate (shl .i64 1 v1).toNat 0)))] rfl ?_ ?_
  · simp [hc2, hc2s, hc3, hc3s] <;> simp [ieq, ilt, ile]
  cases h
  refine VW.ret ?_
  simp [Post, PostM, PostC, PostC2, Nx, Bk]

theorem i_BivectorOfMatrix_ok {a0_0 : Int} {a0_1 : List Int} {a1 : List (List Int)} {r : (List Int) × Int} (h : i_BivectorOfMatrix a0_0 a0_1 a1 = some r) :
    VCall Try.prog 43 [.agg [i64 a0_0, dI a0_1], dM a1] [.own true (dI r.1), .sc (i64 r.2)] := by
  unfold i_BivectorOfMatrix at h
  refine VCall.enter Try.call43 Try.func43 rfl 63 Try.ntmps43 (by simp) [.tmp 4, .tmp 5] rfl ?_
  show VW _ _ _ (mk [(0, .val (.agg [i64 a0_0, dI a0_1])), (1, .val (dM a1))]) _
  -- region 0
  refine VW.ws tau_ok Sound.none [some 2, some 4, some 5] [(1, .val (dM a1)), (2, .val (.ptr [i64 a0_0, dI a0_1]))] rfl ?_ ?_
  · simp <;> simp [ieq, ilt, ile]
  refine VW.sqc fun K1 hK1 hCK1 => ?_
  -- region 1
  obtain ⟨v2, hv2, h⟩ := bind_some h
  refine VW.ws tau_ok (Sound.none.add 12 (i_checkFrame_ok hv2) rfl) [some 10, some 11, some 12, some 6] [(1, .val (dM a1)), (2, .val (.ptr [i64 a0_0, dI a0_1])), (6, .val (i64 v2))] rfl ?_ ?_
  · simp <;> simp [ieq, ilt, ile]
  -- region 2
  refine VW.ws tau_ok Sound.none [some 13, some 14] [(1, .val (dM a1)), (2, .val (.ptr [i64 a0_0, dI a0_1])), (6, .val (i64 v2)), (14, .val (.bool (!(ieq v2 0))))] rfl ?_ ?_
  · simp <;> simp [ieq, ilt, ile]
  refine VW.cond rfl (fun hb3 => ?_) (fun hb3 => ?_)
  ·
    replace hb3 : ¬ v2 = 0 := by simpa [ieq, ilt, ile] using hb3
    rw [if_pos hb3] at h
    -- region 3
    refine VW.ws tau_ok Sound.none [some 15, some 4, some 5] [(4, .ref 4 [] true (.list [])), (5, .val (i64 v2))] rfl ?_ ?_
    · simp <;> simp [ieq, ilt, ile]
    cases h
    refine VW.ret ?_
    simp [Post, PostM, PostC, PostC2, Nx, Bk]
  replace hb3 : ¬ (¬ v2 = 0) := by simpa [ieq, ilt, ile] using hb3
  rw [if_neg hb3] at h
  refine VW.skip ?_
  refine hK1 _ ?_
  refine VW.sqc fun K4 hK4 hCK4 => ?_
  -- region 4
  obtain ⟨v5, hv5, h⟩ := bind_some h
  refine VW.ws tau_ok (Sound.none.add 18 (i_Space_isSkew_ok hv5) rfl) [some 16, some 17, some 18, some 19] [(1, .val (dM a1)), (2, .val (.ptr [i64 a0_0, dI a0_1])), (19, .val (.bool (!v5)))] rfl ?_ ?_
  · simp <;> simp [ieq, ilt, ile]
  refine VW.cond rfl (fun hb6 => ?_) (fun hb6 => ?_)
  ·
    replace hb6 : v5 = false := by simpa [ieq, ilt, ile] using hb6
    rw [if_pos hb6] at h
    -- region 5
    refine VW.ws tau_ok Sound.none [some 4, some 5] [(4, .ref 4 [] true (.list [])), (5, .val (i64 5))] rfl ?_ ?_
    · simp <;> simp [ieq, ilt, ile]
    cases h
    refine VW.ret ?_
    simp [Post, PostM, PostC, PostC2, Nx, Bk]
  replace hb6 : ¬ (v5 = false) := by simpa [ieq, ilt, ile] using hb6
  rw [if_neg hb6] at h
  refine VW.skip ?_
  refine hK4 _ ?_
  -- region 6
  obtain ⟨v7, hv7, h⟩ := bind_some h
  refine VW.ws tau_ok (Sound.none.add 21 (i_Space_nothing_ok hv7) rfl) [some 20, some 21, some 7] [(1, .val (dM a1)), (2, .val (.ptr [i64 a0_0, dI a0_1])), (7, .ref 7 [] true (dI v7))] rfl ?_ ?_
  · simp <;> simp [ieq, ilt, ile]
  refine VW.sqc fun K8 hK8 hCK8 => ?_
  -- region 7
  refine VW.ws tau_ok Sound.none [some 22, some 23, some 24] [(1, .val (dM a1)), (2, .val (.ptr [i64 a0_0, dI a0_1])), (7, .ref 7 [] true (dI v7)), (23, .val (i64 (a1.length : Int))), (24, .val (i64 0))] rfl ?_ ?_
  · simp <;> simp [ieq, ilt, ile]
  obtain ⟨x9, hx9, h⟩ := bind_some h
  refine VW.tlE [(7, .ref 7 [] true (dI x9))] (hCK8) ?_ ?_
  · clear hx9
    refine hK8 _ ?_
    -- region 15
    refine VW.ws tau_ok Sound.none [some 62, some 4, some 5] [(4, .ref 4 [] true (dI x9)), (5, .val (i64 0))] rfl ?_ ?_
    · simp <;> simp [ieq, ilt, ile]
    cases h
    refine VW.ret ?_
    simp [Post, PostM, PostC, PostC2, Nx, Bk]
  refine VW.block ?_
  refine VW.loopF (i_BivectorOfMatrix_L0 a0_0 a0_1 a1) (fun s9 => [(1, .val (dM a1)), (2, .val (.ptr [i64 a0_0, dI a0_1])), (7, .ref 7 [] true (dI s9.1)), (23, .val (i64 (a1.length : Int))), (24, .val (i64 s9.2))]) hx9 (Fits.of rfl) ?_
  clear hx9
  intro s9 ox9 hx9o hx9b
  unfold i_BivectorOfMatrix_L0 at hx9o
  -- region 8
  refine VW.ws tau_ok Sound.none [some 25] [(1, .val (dM a1)), (2, .val (.ptr [i64 a0_0, dI a0_1])), (7, .ref 7 [] true (dI s9.1)), (23, .val (i64 (a1.length : Int))), (24, .val (i64 s9.2)), (25, .val (.bool (ilt s9.2 (a1.length : Int))))] rfl ?_ ?_
  · simp <;> simp [ieq, ilt, ile]
  refine VW.sqc fun K11 hK11 hCK11 => ?_
  refine VW.cond rfl (fun hb12 => ?_) (fun hb12 => ?_)
  rotate_left
  ·
    replace hb12 : ¬ (s9.2 < (a1.length : Int)) := by simpa [ieq, ilt, ile] using hb12
    rw [if_neg hb12] at hx9o
    refine VW.exit ?_
    cases hx9o
    have hq := hx9b _ rfl
    subst hq
    exact Fits.of rfl
  replace hb12 : s9.2 < (a1.length : Int) := by simpa [ieq, ilt, ile] using hb12
  rw [if_pos hb12] at hx9o
  refine VW.skip ?_
  refine hK11 _ ?_
  refine VW.sqc fun K13 hK13 hCK13 => ?_
  refine VW.block ?_
  -- region 9
  refine VW.ws tau_ok Sound.none [some 26, some 8] [(1, .val (dM a1)), (2, .val (.ptr [i64 a0_0, dI a0_1])), (7, .ref 7 [] true (dI s9.1)), (8, .val (i64 s9.2)), (23, .val (i64 (a1.length : Int))), (24, .val (i64 s9.2))] rfl ?_ ?_
  · simp <;> simp [ieq, ilt, ile]
  -- region 10
  refine VW.ws tau_ok Sound.none [some 27, some 28, some 9] [(1, .val (dM a1)), (2, .val (.ptr [i64 a0_0, dI a0_1])), (7, .ref 7 [] true (dI s9.1)), (8, .val (i64 s9.2)), (9, .val (i64 (w64 (s9.2 + 1)))), (23, .val (i64 (a1.length : Int))), (24, .val (i64 s9.2))] rfl ?_ ?_
  · simp <;> simp [ieq, ilt, ile]
  obtain ⟨x14, hx14, hx9o⟩ := bind_some hx9o
  refine VW.tlE [(1, .val (dM a1)), (2, .val (.ptr [i64 a0_0, dI a0_1])), (7, .ref 7 [] true (dI x14)), (23, .val (i64 (a1.length : Int))), (24, .val (i64 s9.2))] (hCK13) ?_ ?_
  · clear hx14
    refine hK13 _ ?_
    -- region 14
    refine VW.wr tau_ok Sound.none [some 61, some 24] [(1, .val (dM a1)), (2, .val (.ptr [i64 a0_0, dI a0_1])), (7, .ref 7 [] true (dI x14)), (23, .val (i64 (a1.length : Int))), (24, .val (i64 (w64 (s9.2 + 1))))] rfl ?_ ?_
    · simp <;> simp [ieq, ilt, ile]
    cases hx9o
    exact ⟨_, rfl, Fits.of rfl⟩
  refine VW.block ?_
  refine VW.loopF (i_BivectorOfMatrix_L1 a0_0 a0_1 a1 s9) (fun s14 => [(1, .val (dM a1)), (2, .val (.ptr [i64 a0_0, dI a0_1])), (7, .ref 7 [] true (dI s14.1)), (8, .val (i64 s9.2)), (9, .val (i64 s14.2)), (23, .val (i64 (a1.length : Int))), (24, .val (i64 s9.2))]) hx14 (Fits.of rfl) ?_
  clear hx14
  intro s14 ox14 hx14o hx14b
  unfold i_BivectorOfMatrix_L1 at hx14o
  refine VW.sqc fun K16 hK16 hCK16 => ?_
  -- region 11
  refine VW.ws tau_ok Sound.none [some 29, some 30, some 31, some 32] [(1, .val (dM a1)), (2, .val (.ptr [i64 a0_0, dI a0_1])), (7, .ref 7 [] true (dI s14.1)), (8, .val (i64 s9.2)), (9, .val (i64 s14.2)), (23, .val (i64 (a1.length : Int))), (24, .val (i64 s9.2)), (32, .val (.bool (ilt s14.2 (a1.length : Int))))] rfl ?_ ?_
  · simp <;> simp [ieq, ilt, ile]
  refine VW.cond rfl (fun hb17 => ?_) (fun hb17 => ?_)
  rotate_left
  ·
    replace hb17 : ¬ (s14.2 < (a1.length : Int)) := by simpa [ieq, ilt, ile] using hb17
    rw [if_neg hb17] at hx14o
    refine VW.exit ?_
    cases hx14o
    have hq := hx14b _ rfl
    subst hq
    exact Fits.of rfl
  replace hb17 : s14.2 < (a1.length : Int) := by simpa [ieq, ilt, ile] using hb17
  rw [if_pos hb17] at hx14o
  refine VW.skip ?_
  refine hK16 _ ?_
  refine VW.sqc fun K18 hK18 hCK18 => ?_
  refine VW.block ?_
  -- region 13
  obtain ⟨hc19, hx14o⟩ := chk_some hx14o
  have hc19s := hc19
  try simp at hc19s
  obtain ⟨hc20, hx14o⟩ := chk_some hx14o
  have hc20s := hc20
  try simp at hc20s
  obtain ⟨v21, hv21, hx14o⟩ := bind_some hx14o
  obtain ⟨v22, hv22, hx14o⟩ := bind_some hx14o
  obtain ⟨hv22a, hv22b, hv22c, hv22d⟩ := idx_some hv22
  obtain ⟨v23, hv23, hx14o⟩ := bind_some hx14o
  obtain ⟨hv23a, hv23b, hv23c, hv23d⟩ := idx_some hv23
  obtain ⟨v24, hv24, hx14o⟩ := bind_some hx14o
  obtain ⟨v25, hv25, hx14o⟩ := bind_some hx14o
  obtain ⟨hv25a, hv25b, hv25c, hv25d⟩ := idx_some hv25
  obtain ⟨v26, hv26, hx14o⟩ := bind_some hx14o
  obtain ⟨v27, hv27, hx14o⟩ := bind_some hx14o
  obtain ⟨v28, hv28, hx14o⟩ := bind_some hx14o
  obtain ⟨hv28a, hv28b, hv28c, hv28d⟩ := idx_some hv28
  refine VW.wdr tau_ok ((((Sound.none.add 42 (i_Space_field_ok hv21) rfl).add 51 (i_Space_field_ok hv24) rfl).add 57 (i_field_inv_ok hv26) rfl).add 59 (i_field_num_ok hv27) rfl) try_mixed [some 35, some 36, some 37, some 38, some 39, some 40, some 41, some 42, some 43, some 44, some 45, some 46, some 47, some 48, some 49, some 50, some 51, some 52, some 53, some 54, some 55, some 56, some 57, some 58, some 59, some 60, none] [(1, .val (dM a1)), (2, .val (.ptr [i64 a0_0, dI a0_1])), (7, .ref 7 [] true (dI (s14.1.set (bor .i64 (shl .i64 1 s9.2) (shl .i64 1 s14.2)).toNat v27))), (8, .val (i64 s9.2)), (9, .val (i64 s14.2)), (23, .val (i64 (a1.length : Int))), (24, .val (i64 s9.2))] 26 rfl (by kernel_rfl) (by rfl) ?_ ?_
  · simp [hc19, hc19s, hc20, hc20s, hv22a, hv22b, hv22c, hv22d, hv23a, hv23b, hv23c, hv23d, hv25a, hv25b, hv25c, hv25d, hv28a, hv28b, hv28c, hv28d] <;> simp [ieq, ilt, ile]
  refine hK18 _ ?_
  -- region 12
  refine VW.wr tau_ok Sound.none [some 33, some 34, some 9] [(1, .val (dM a1)), (2, .val (.ptr [i64 a0_0, dI a0_1])), (7, .ref 7 [] true (dI (s14.1.set (bor .i64 (shl .i64 1 s9.2) (shl .i64 1 s14.2)).toNat v27))), (8, .val (i64 s9.2)), (9, .val (i64 (w64 (s14.2 + 1)))), (23, .val (i64 (a1.length : Int))), (24, .val (i64 s9.2))] rfl ?_ ?_
  · simp <;> simp [ieq, ilt, ile]
  cases hx14o
  exact ⟨_, rfl, Fits.of rfl⟩

theorem l_markSpace_ok {a0_0 : Int} {a0_1 : List Int} {a1 : Int} {r : Int} (h : l_markSpace a0_0 a0_1 a1 = some r) :
    VSpoil Try.prog 44 (.agg [i64 a0_0, dI a0_1]) [i64 a1] (i64 r) := by
  unfold l_markSpace at h
  refine VSpoil.enter Try.call44 Try.func44 rfl 10 Try.ntmps44 (by simp) 4 rfl ?_
  show VW _ _ _ (mk [(0, .ref 0 [] true (.agg [i64 a0_0, dI a0_1])), (1, .val (i64 a1))]) _
  -- region 0
  refine VW.ws tau_ok Sound.none [some 2, some 4] [(1, .val (i64 a1)), (2, .ref 2 [] true (.ptr [i64 a0_0, dI a0_1]))] rfl ?_ ?_
  · simp <;> simp [ieq, ilt, ile]
  -- region 1
  obtain ⟨v1, hv1, h⟩ := bind_some h
  refine VW.ws tau_ok (Sound.none.mutc 8 (l_markInt64S_ok hv1)) [some 5, some 6, some 7, some 8, some 1] [(1, .val (i64 v1.1))] rfl ?_ ?_
  · simp <;> simp [ieq, ilt, ile]
  -- region 2
  refine VW.ws tau_ok Sound.none [some 9, some 4] [(4, .val (i64 v1.1))] rfl ?_ ?_
  · simp <;> simp [ieq, ilt, ile]
  cases h
  refine VW.ret ?_
  simp [Post, PostM, PostC, PostC2, Nx, Bk]
end Go.Vam
