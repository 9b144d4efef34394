import Derived.Test.YtijmfifejmgeaaaR9T
import Derived.Test.YtijmfifejmgeaaaFmG0
import Derived.Test.YtijmfifejmgeaaaR9CW1
namespace Go.Vam
open Go Go.RowKit Go.Proofs
set_option maxRecDepth 100000
set_option linter.unusedSimpArgs false
set_option linter.unusedVariables false

theorem s_SignedBasis_ok {a0_0 : Int} {a0_1 : List Int} {r : (List (List Int)) × Int} (h : s_SignedBasis a0_0 a0_1 = some r) :
    VCall Try.prog 26 [.agg [i64 a0_0, dI a0_1]] [.own true (dM r.1), .sc (i64 r.2)] := by
  unfold s_SignedBasis at h
  refine VCall.enter Try.call26 Try.func26 rfl 88 Try.ntmps26 (by simp) [.tmp 2, .tmp 3] rfl ?_
  show VW _ _ _ (mk [(0, .val (.agg [i64 a0_0, dI a0_1]))]) _
  -- region 0
  refine VW.ws tau_ok Sound.none [some 1, some 2, some 3] [(1, .val (.ptr [i64 a0_0, dI a0_1]))] rfl ?_ ?_
  · simp <;> simp [ieq, ilt, ile]
  refine VW.sqc fun K1 hK1 hCK1 => ?_
  -- region 1
  obtain ⟨v2, hv2, h⟩ := bind_some h
  refine VW.ws tau_ok (Sound.none.add 12 (s_l11Is_ok hv2) rfl) [some 11, some 12, some 13] [(1, .val (.ptr [i64 a0_0, dI a0_1])), (13, .val (.bool (!v2)))] rfl ?_ ?_
  · simp <;> simp [ieq, ilt, ile]
  refine VW.cond rfl (fun hb3 => ?_) (fun hb3 => ?_)
  ·
    replace hb3 : v2 = false := by simpa [ieq, ilt, ile] using hb3
    rw [if_pos hb3] at h
    -- region 2
    refine VW.ws tau_ok Sound.none [some 2, some 3] [(2, .ref 2 [] true (.list [])), (3, .val (i64 1))] rfl ?_ ?_
    · simp <;> simp [ieq, ilt, ile]
    cases h
    refine VW.ret ?_
    simp [Post, PostM, PostC, PostC2, Nx, Bk]
  replace hb3 : ¬ (v2 = false) := by simpa [ieq, ilt, ile] using hb3
  rw [if_neg hb3] at h
  refine VW.skip ?_
  refine hK1 _ ?_
  refine VW.sqc fun K4 hK4 hCK4 => ?_
  -- region 3
  refine VW.ws tau_ok Sound.none [some 4] [(1, .val (.ptr [i64 a0_0, dI a0_1])), (4, .val (i64 0))] rfl ?_ ?_
  · simp <;> simp [ieq, ilt, ile]
  obtain ⟨x5, hx5, h⟩ := bind_some h
  refine VW.tlO (fun y7 => [(1, .val (.ptr [i64 a0_0, dI a0_1]))]) x5 (hCK4) ?_ ?_
  · clear hx5
    rintro y7 rfl
    dsimp only at h
    refine hK4 _ ?_
    -- region 8
    obtain ⟨v15, hv15, h⟩ := bind_some h
    refine VW.ws tau_ok (Sound.none.add 39 (s_l11Basis_ok hv15) rfl) [some 38, some 39, some 40, some 5, some 6] [(1, .val (.ptr [i64 a0_0, dI a0_1])), (5, .ref 5 [] true (dM v15)), (6, .ref 6 [] true (dM []))] rfl ?_ ?_
    · simp <;> simp [ieq, ilt, ile]
    refine VW.sqc fun K16 hK16 hCK16 => ?_
    -- region 9
    refine VW.ws tau_ok Sound.none [some 7] [(1, .val (.ptr [i64 a0_0, dI a0_1])), (5, .ref 5 [] true (dM v15)), (6, .ref 6 [] true (dM [])), (7, .val (i64 0))] rfl ?_ ?_
    · simp <;> simp [ieq, ilt, ile]
    obtain ⟨x17, hx17, h⟩ := bind_some h
    refine VW.tlE [(6, .ref 6 [] true (dM x17))] (hCK16) ?_ ?_
    · clear hx17
      refine hK16 _ ?_
      -- region 21
      refine VW.ws tau_ok Sound.none [some 87, some 2, some 3] [(2, .ref 2 [] true (dM x17)), (3, .val (i64 0))] rfl ?_ ?_
      · simp <;> simp [ieq, ilt, ile]
      cases h
      refine VW.ret ?_
      simp [Post, PostM, PostC, PostC2, Nx, Bk]
    refine VW.block ?_
    refine VW.loopF (s_SignedBasis_L1 a0_0 a0_1 v15) (fun s17 => [(1, .val (.ptr [i64 a0_0, dI a0_1])), (5, .ref 5 [] true (dM v15)), (6, .ref 6 [] true (dM s17.1)), (7, .val (i64 s17.2))]) hx17 (Fits.of rfl) ?_
    clear hx17
    intro s17 ox17 hx17o hx17b
    unfold s_SignedBasis_L1 at hx17o
    refine VW.sqc fun K19 hK19 hCK19 => ?_
    -- region 10
    obtain ⟨v20, hv20, hx17o⟩ := bind_some hx17o
    refine VW.ws tau_ok (Sound.none.add 43 (s_l11Size_ok hv20) rfl) [some 41, some 42, some 43, some 44, some 45] [(1, .val (.ptr [i64 a0_0, dI a0_1])), (5, .ref 5 [] true (dM v15)), (6, .ref 6 [] true (dM s17.1)), (7, .val (i64 s17.2)), (45, .val (.bool (ilt s17.2 (w64 (2 * v20)))))] rfl ?_ ?_
    · simp <;> simp [ieq, ilt, ile]
    refine VW.cond rfl (fun hb21 => ?_) (fun hb21 => ?_)
    rotate_left
    ·
      replace hb21 : ¬ (s17.2 < (w64 (2 * v20))) := by simpa [ieq, ilt, ile] using hb21
      rw [if_neg hb21] at hx17o
      refine VW.exit ?_
      cases hx17o
      have hq := hx17b _ rfl
      subst hq
      exact Fits.of rfl
    replace hb21 : s17.2 < (w64 (2 * v20)) := by simpa [ieq, ilt, ile] using hb21
    rw [if_pos hb21] at hx17o
    refine VW.skip ?_
    refine hK19 _ ?_
    refine VW.sqc fun K22 hK22 hCK22 => ?_
    refine VW.block ?_
    -- region 12
    refine VW.ws tau_ok Sound.none [some 48, some 8] [(1, .val (.ptr [i64 a0_0, dI a0_1])), (5, .ref 5 [] true (dM v15)), (6, .ref 6 [] true (dM s17.1)), (7, .val (i64 s17.2)), (8, .ref 8 [] true (dI []))] rfl ?_ ?_
    · simp <;> simp [ieq, ilt, ile]
    refine VW.sqc fun K23 hK23 hCK23 => ?_
    -- region 13
    refine VW.ws tau_ok Sound.none [some 9] [(1, .val (.ptr [i64 a0_0, dI a0_1])), (5, .ref 5 [] true (dM v15)), (6, .ref 6 [] true (dM s17.1)), (7, .val (i64 s17.2)), (8, .ref 8 [] true (dI [])), (9, .val (i64 0))] rfl ?_ ?_
    · simp <;> simp [ieq, ilt, ile]
    obtain ⟨x24, hx24, hx17o⟩ := bind_some hx17o
    refine VW.tlE [(1, .val (.ptr [i64 a0_0, dI a0_1])), (5, .ref 5 [] true (dM v15)), (6, .ref 6 [] true (dM s17.1)), (7, .val (i64 s17.2)), (8, .ref 8 [] true (dI x24))] (hCK23) ?_ ?_
    · clear hx24
      refine hK23 _ ?_
      -- region 20
      obtain ⟨hc37, hx17o⟩ := chk_some hx17o
      have hc37s := hc37
      try simp at hc37s
      refine VW.wr tau_ok Sound.none [some 83, some 84, some 85, some 86, some 6] [(1, .val (.ptr [i64 a0_0, dI a0_1])), (5, .ref 5 [] true (dM v15)), (6, .ref 6 [] true (dM (s17.1 ++ [x24]))), (7, .val (i64 s17.2))] rfl ?_ ?_
      · simp [hc37, hc37s] <;> simp [ieq, ilt, ile]
      refine hK22 _ ?_
      -- region 11
      refine VW.wr tau_ok Sound.none [some 46, some 47, some 7] [(1, .val (.ptr [i64 a0_0, dI a0_1])), (5, .ref 5 [] true (dM v15)), (6, .ref 6 [] true (dM (s17.1 ++ [x24]))), (7, .val (i64 (w64 (s17.2 + 1))))] rfl ?_ ?_
      · simp <;> simp [ieq, ilt, ile]
      cases hx17o
      exact ⟨_, rfl, Fits.of rfl⟩
    refine VW.block ?_
    refine VW.loopF (s_SignedBasis_L2 a0_0 a0_1 v15 s17) (fun s24 => [(1, .val (.ptr [i64 a0_0, dI a0_1])), (5, .ref 5 [] true (dM v15)), (6, .ref 6 [] true (dM s17.1)), (7, .val (i64 s17.2)), (8, .ref 8 [] true (dI s24.1)), (9, .val (i64 s24.2))]) hx24 (Fits.of rfl) ?_
    clear hx24
    intro s24 ox24 hx24o hx24b
    unfold s_SignedBasis_L2 at hx24o
    refine VW.sqc fun K26 hK26 hCK26 => ?_
    -- region 14
    obtain ⟨v27, hv27, hx24o⟩ := bind_some hx24o
    refine VW.ws tau_ok (Sound.none.add 51 (s_l11Size_ok hv27) rfl) [some 49, some 50, some 51, some 52, some 53] [(1, .val (.ptr [i64 a0_0, dI a0_1])), (5, .ref 5 [] true (dM v15)), (6, .ref 6 [] true (dM s17.1)), (7, .val (i64 s17.2)), (8, .ref 8 [] true (dI s24.1)), (9, .val (i64 s24.2)), (53, .val (.bool (ilt s24.2 (w64 (2 * v27)))))] rfl ?_ ?_
    · simp <;> simp [ieq, ilt, ile]
    refine VW.cond rfl (fun hb28 => ?_) (fun hb28 => ?_)
    rotate_left
    ·
      replace hb28 : ¬ (s24.2 < (w64 (2 * v27))) := by simpa [ieq, ilt, ile] using hb28
      rw [if_neg hb28] at hx24o
      refine VW.exit ?_
      cases hx24o
      have hq := hx24b _ rfl
      subst hq
      exact Fits.of rfl
    replace hb28 : s24.2 < (w64 (2 * v27)) := by simpa [ieq, ilt, ile] using hb28
    rw [if_pos hb28] at hx24o
    refine VW.skip ?_
    refine hK26 _ ?_
    refine VW.sqc fun K29 hK29 hCK29 => ?_
    refine VW.block ?_
    -- region 16
    refine VW.ws tau_ok Sound.none [some 56, some 57, some 58, some 59, some 10] [(1, .val (.ptr [i64 a0_0, dI a0_1])), (5, .ref 5 [] true (dM v15)), (6, .ref 6 [] true (dM s17.1)), (7, .val (i64 s17.2)), (8, .ref 8 [] true (dI s24.1)), (9, .val (i64 s24.2)), (10, .val (i64 ((w64 (s17.2 + s24.2)).tmod 2)))] rfl ?_ ?_
    · simp <;> simp [ieq, ilt, ile]
    refine VW.sqc fun K30 hK30 hCK30 => ?_
    -- region 17
    obtain ⟨v31, hv31, hx24o⟩ := bind_some hx24o
    obtain ⟨hv31a, hv31b, hv31c, hv31d⟩ := idx_some hv31
    obtain ⟨v32, hv32, hx24o⟩ := bind_some hx24o
    obtain ⟨hv32a, hv32b, hv32c, hv32d⟩ := idx_some hv32
    refine VW.ws tau_ok Sound.none [some 60, some 61, some 62, some 63, some 64, some 65, some 66, some 67, some 68, some 69] [(1, .val (.ptr [i64 a0_0, dI a0_1])), (5, .ref 5 [] true (dM v15)), (6, .ref 6 [] true (dM s17.1)), (7, .val (i64 s17.2)), (8, .ref 8 [] true (dI s24.1)), (9, .val (i64 s24.2)), (10, .val (i64 ((w64 (s17.2 + s24.2)).tmod 2))), (69, .val (.bool (!(ieq v32 1))))] rfl ?_ ?_
    · simp [hv31a, hv31b, hv31c, hv31d, hv32a, hv32b, hv32c, hv32d] <;> simp [ieq, ilt, ile]
    obtain ⟨x33, hx33, hx24o⟩ := bind_some hx24o
    refine VW.tlE [(1, .val (.ptr [i64 a0_0, dI a0_1])), (5, .ref 5 [] true (dM v15)), (6, .ref 6 [] true (dM s17.1)), (7, .val (i64 s17.2)), (8, .ref 8 [] true (dI s24.1)), (9, .val (i64 s24.2)), (10, .val (i64 x33))] (hCK30) ?_ ?_
    · clear hx33
      refine hK30 _ ?_
      -- region 19
      obtain ⟨hc36, hx24o⟩ := chk_some hx24o
      have hc36s := hc36
      try simp at hc36s
      refine VW.wr tau_ok Sound.none [some 72, some 73, some 74, some 75, some 76, some 77, some 78, some 79, some 80, some 81, some 82, some 8] [(1, .val (.ptr [i64 a0_0, dI a0_1])), (5, .ref 5 [] true (dM v15)), (6, .ref 6 [] true (dM s17.1)), (7, .val (i64 s17.2)), (8, .ref 8 [] true (dI (s24.1 ++ [w64 ((w64 (2 * (bxor .i64 (w64 (s17.2.tdiv 2)) (w64 (s24.2.tdiv 2))))) + x33)]))), (9, .val (i64 s24.2))] rfl ?_ ?_
      · simp [hc36, hc36s] <;> simp [ieq, ilt, ile]
      refine hK29 _ ?_
      -- region 15
      refine VW.wr tau_ok Sound.none [some 54, some 55, some 9] [(1, .val (.ptr [i64 a0_0, dI a0_1])), (5, .ref 5 [] true (dM v15)), (6, .ref 6 [] true (dM s17.1)), (7, .val (i64 s17.2)), (8, .ref 8 [] true (dI (s24.1 ++ [w64 ((w64 (2 * (bxor .i64 (w64 (s17.2.tdiv 2)) (w64 (s24.2.tdiv 2))))) + x33)]))), (9, .val (i64 (w64 (s24.2 + 1))))] rfl ?_ ?_
      · simp <;> simp [ieq, ilt, ile]
      cases hx24o
      exact ⟨_, rfl, Fits.of rfl⟩
    refine VW.cond rfl (fun hb35 => ?_) (fun hb35 => ?_)
    rotate_left
    ·
      replace hb35 : ¬ (¬ v32 = 1) := by simpa [ieq, ilt, ile] using hb35
      rw [if_neg hb35] at hx33
      refine VW.skip ?_
      cases hx33
      exact Fits.of rfl
    replace hb35 : ¬ v32 = 1 := by simpa [ieq, ilt, ile] using hb35
    rw [if_pos hb35] at hx33
    -- region 18
    refine VW.wr tau_ok Sound.none [some 70, some 71, some 10] [(1, .val (.ptr [i64 a0_0, dI a0_1])), (5, .ref 5 [] true (dM v15)), (6, .ref 6 [] true (dM s17.1)), (7, .val (i64 s17.2)), (8, .ref 8 [] true (dI s24.1)), (9, .val (i64 s24.2)), (10, .val (i64 (w64 (1 - ((w64 (s17.2 + s24.2)).tmod 2)))))] rfl ?_ ?_
    · simp <;> simp [ieq, ilt, ile]
    cases hx33
    exact Fits.of rfl
  refine VW.block ?_
  refine VW.loopF (s_SignedBasis_L0 a0_0 a0_1) (fun s5 => [(1, .val (.ptr [i64 a0_0, dI a0_1])), (4, .val (i64 s5))]) hx5 (Fits.of rfl) ?_
  clear hx5
  intro s5 ox5 hx5o hx5b
  unfold s_SignedBasis_L0 at hx5o
  refine VW.sqc fun K8 hK8 hCK8 => ?_
  -- region 4
  refine VW.ws tau_ok Sound.none [some 14, some 15, some 16, some 17, some 18] [(1, .val (.ptr [i64 a0_0, dI a0_1])), (4, .val (i64 s5)), (18, .val (.bool (ilt s5 (a0_1.length : Int))))] rfl ?_ ?_
  · simp <;> simp [ieq, ilt, ile]
  refine VW.cond rfl (fun hb9 => ?_) (fun hb9 => ?_)
  rotate_left
  ·
    replace hb9 : ¬ (s5 < (a0_1.length : Int)) := by simpa [ieq, ilt, ile] using hb9
    rw [if_neg hb9] at hx5o
    refine VW.exit ?_
    cases hx5o
    have hq := hx5b _ rfl
    subst hq
    exact ⟨_, rfl, Fits.of rfl⟩
  replace hb9 : s5 < (a0_1.length : Int) := by simpa [ieq, ilt, ile] using hb9
  rw [if_pos hb9] at hx5o
  refine VW.skip ?_
  refine hK8 _ ?_
  refine VW.sqc fun K10 hK10 hCK10 => ?_
  refine VW.block ?_
  -- region 6
  obtain ⟨x13, hx13, hx5o⟩ := bind_some hx5o
  refine VW.cut [(1, .val (.ptr [i64 a0_0, dI a0_1])), (4, .val (i64 s5)), (37, .val (.bool x13))] ?_ fun hy => ?_
  rotate_left
  · clear hx5o
    obtain ⟨v11, hv11, hx13⟩ := bind_some hx13
    obtain ⟨hv11a, hv11b, hv11c, hv11d⟩ := idx_some hv11
    by_cases hp12 : ¬ v11 = 1
    · rw [if_pos hp12] at hx13
      have hp12b : ieq v11 1 = false := by simpa [ieq, ilt, ile] using hp12
      have hp12s := hp12b
      try simp at hp12s
      cases hx13
      refine VW.wds tau_ok Sound.none try_mixed [some 21, some 22, some 23, some 24, some 25, some 26, some 27, some 28, some 29, some 30, some 31, some 32, some 33, some 34, some 35, some 36, some 37] _ 17 rfl (by kernel_rfl) (by rfl) ?_ hy
      simp [hv11a, hv11b, hv11c, hv11d, hp12b, hp12s] <;> simp [ieq, ilt, ile]
    · rw [if_neg hp12] at hx13
      have hp12b : ieq v11 1 = true := by simpa [ieq, ilt, ile] using hp12
      have hp12s := hp12b
      try simp at hp12s
      cases hx13
      refine VW.wds tau_ok Sound.none try_mixed [some 21, some 22, some 23, some 24, some 25, some 26, some 27, some 28, some 29, some 30, some 31, some 32, some 33, some 34, some 35, some 36, some 37] _ 17 rfl (by kernel_rfl) (by rfl) ?_ hy
      simp [hv11a, hv11b, hv11c, hv11d, hp12b, hp12s] <;> simp [ieq, ilt, ile]
  refine VW.cond rfl (fun hb14 => ?_) (fun hb14 => ?_)
  rotate_left
  ·
    replace hb14 : ¬ (x13 = true) := by simpa [ieq, ilt, ile] using hb14
    rw [if_neg hb14] at hx5o
    refine VW.skip ?_
    refine hK10 _ ?_
    -- region 5
    refine VW.wr tau_ok Sound.none [some 19, some 20, some 4] [(1, .val (.ptr [i64 a0_0, dI a0_1])), (4, .val (i64 (w64 (s5 + 1))))] rfl ?_ ?_
    · simp <;> simp [ieq, ilt, ile]
    cases hx5o
    exact ⟨_, rfl, Fits.of rfl⟩
  replace hb14 : x13 = true := by simpa [ieq, ilt, ile] using hb14
  rw [if_pos hb14] at hx5o
  -- region 7
  refine VW.ws tau_ok Sound.none [some 2, some 3] [(2, .ref 2 [] true (.list [])), (3, .val (i64 5))] rfl ?_ ?_
  · simp <;> simp [ieq, ilt, ile]
  cases hx5o
  have hq := hx5b _ rfl
  subst hq
  dsimp only at h
  cases h
  refine VW.ret ?_
  simp [Post, PostM, PostC, PostC2, Nx, Bk]

theorem l_likeInts_ok {a0 : List Int} {a1 : List Int} {r : Bool} (h : l_likeInts a0 a1 = some r) :
    VCall Try.prog 39 [dI a0, dI a1] [.sc (.bool r)] := by
  unfold l_likeInts at h
  refine VCall.enter Try.call39 Try.func39 rfl 26 Try.ntmps39 (by simp) [.tmp 4] rfl ?_
  show VW _ _ _ (mk [(0, .val (dI a0)), (1, .val (dI a1))]) _
  -- region 0
  refine VW.ws tau_ok Sound.none [some 4] [(0, .val (dI a0)), (1, .val (dI a1))] rfl ?_ ?_
  · simp <;> simp [ieq, ilt, ile]
  refine VW.sqc fun K1 hK1 hCK1 => ?_
  -- region 1
  refine VW.ws tau_ok Sound.none [some 6, some 7, some 8, some 9, some 10] [(0, .val (dI a0)), (1, .val (dI a1)), (10, .val (.bool (!(ieq (a0.length : Int) (a1.length : Int)))))] rfl ?_ ?_
  · simp <;> simp [ieq, ilt, ile]
  refine VW.cond rfl (fun hb2 => ?_) (fun hb2 => ?_)
  ·
    replace hb2 : ¬ (a0.length : Int) = (a1.length : Int) := by simpa [ieq, ilt, ile] using hb2
    rw [if_pos hb2] at h
    -- region 2
    refine VW.ws tau_ok Sound.none [some 4] [(4, .val (.bool false))] rfl ?_ ?_
    · simp <;> simp [ieq, ilt, ile]
    cases h
    refine VW.ret ?_
    simp [Post, PostM, PostC, PostC2, Nx, Bk]
  replace hb2 : ¬ (¬ (a0.length : Int) = (a1.length : Int)) := by simpa [ieq, ilt, ile] using hb2
  rw [if_neg hb2] at h
  refine VW.skip ?_
  refine hK1 _ ?_
  refine VW.sqc fun K3 hK3 hCK3 => ?_
  -- region 3
  refine VW.ws tau_ok Sound.none [some 5] [(0, .val (dI a0)), (1, .val (dI a1)), (5, .val (i64 0))] rfl ?_ ?_
  · simp <;> simp [ieq, ilt, ile]
  obtain ⟨x4, hx4, h⟩ := bind_some h
  refine VW.tlO (fun y6 => []) x4 (hCK3) ?_ ?_
  · clear hx4
    rintro y6 rfl
    dsimp only at h
    refine hK3 _ ?_
    -- region 8
    refine VW.ws tau_ok Sound.none [some 4] [(4, .val (.bool true))] rfl ?_ ?_
    · simp <;> simp [ieq, ilt, ile]
    cases h
    refine VW.ret ?_
    simp [Post, PostM, PostC, PostC2, Nx, Bk]
  refine VW.block ?_
  refine VW.loopF (l_likeInts_L0 a0 a1) (fun s4 => [(0, .val (dI a0)), (1, .val (dI a1)), (5, .val (i64 s4))]) hx4 (Fits.of rfl) ?_
  clear hx4
  intro s4 ox4 hx4o hx4b
  unfold l_likeInts_L0 at hx4o
  refine VW.sqc fun K7 hK7 hCK7 => ?_
  -- region 4
  refine VW.ws tau_ok Sound.none [some 11, some 12, some 13, some 14] [(0, .val (dI a0)), (1, .val (dI a1)), (5, .val (i64 s4)), (14, .val (.bool (ilt s4 (a0.length : Int))))] rfl ?_ ?_
  · simp <;> simp [ieq, ilt, ile]
  refine VW.cond rfl (fun hb8 => ?_) (fun hb8 => ?_)
  rotate_left
  ·
    replace hb8 : ¬ (s4 < (a0.length : Int)) := by simpa [ieq, ilt, ile] using hb8
    rw [if_neg hb8] at hx4o
    refine VW.exit ?_
    cases hx4o
    have hq := hx4b _ rfl
    subst hq
    exact ⟨_, rfl, Fits.of rfl⟩
  replace hb8 : s4 < (a0.length : Int) := by simpa [ieq, ilt, ile] using hb8
  rw [if_pos hb8] at hx4o
  refine VW.skip ?_
  refine hK7 _ ?_
  refine VW.sqc fun K9 hK9 hCK9 => ?_
  refine VW.block ?_
  -- region 6
  obtain ⟨v10, hv10, hx4o⟩ := bind_some hx4o
  obtain ⟨hv10a, hv10b, hv10c, hv10d⟩ := idx_some hv10
  obtain ⟨v11, hv11, hx4o⟩ := bind_some hx4o
  obtain ⟨hv11a, hv11b, hv11c, hv11d⟩ := idx_some hv11
  refine VW.wds tau_ok Sound.none try_mixed [some 17, some 18, some 19, some 20, some 21, some 22, some 23, some 24, some 25] [(0, .val (dI a0)), (1, .val (dI a1)), (5, .val (i64 s4)), (25, .val (.bool (!(ieq v10 v11))))] 9 rfl (by kernel_rfl) (by rfl) ?_ ?_
  · simp [hv10a, hv10b, hv10c, hv10d, hv11a, hv11b, hv11c, hv11d] <;> simp [ieq, ilt, ile]
  refine VW.cond rfl (fun hb12 => ?_) (fun hb12 => ?_)
  rotate_left
  ·
    replace hb12 : ¬ (¬ v10 = v11) := by simpa [ieq, ilt, ile] using hb12
    rw [if_neg hb12] at hx4o
    refine VW.skip ?_
    refine hK9 _ ?_
    -- region 5
    refine VW.wr tau_ok Sound.none [some 15, some 16, some 5] [(0, .val (dI a0)), (1, .val (dI a1)), (5, .val (i64 (w64 (s4 + 1))))] rfl ?_ ?_
    · simp <;> simp [ieq, ilt, ile]
    cases hx4o
    exact ⟨_, rfl, Fits.of rfl⟩
  replace hb12 : ¬ v10 = v11 := by simpa [ieq, ilt, ile] using hb12
  rw [if_pos hb12] at hx4o
  -- region 7
  refine VW.ws tau_ok Sound.none [some 4] [(4, .val (.bool false))] rfl ?_ ?_
  · simp <;> simp [ieq, ilt, ile]
  cases hx4o
  have hq := hx4b _ rfl
  subst hq
  dsimp only at h
  cases h
  refine VW.ret ?_
  simp [Post, PostM, PostC, PostC2, Nx, Bk]

theorem l_same9_ok {a0 : List (List Int)} {a1 : List (List Int)} {r : Bool} (h : l_same9 a0 a1 = some r) :
    VCall Try.prog 27 [dM a0, dM a1] [.sc (.bool r)] := by
  unfold l_same9 at h
  refine VCall.enter Try.call27 Try.func27 rfl 27 Try.ntmps27 (by simp) [.tmp 4] rfl ?_
  show VW _ _ _ (mk [(0, .val (dM a0)), (1, .val (dM a1))]) _
  -- region 0
  refine VW.ws tau_ok Sound.none [some 4] [(0, .val (dM a0)), (1, .val (dM a1))] rfl ?_ ?_
  · simp <;> simp [ieq, ilt, ile]
  refine VW.sqc fun K1 hK1 hCK1 => ?_
  -- region 1
  refine VW.ws tau_ok Sound.none [some 6, some 7, some 8, some 9, some 10] [(0, .val (dM a0)), (1, .val (dM a1)), (10, .val (.bool (!(ieq (a0.length : Int) (a1.length : Int)))))] rfl ?_ ?_
  · simp <;> simp [ieq, ilt, ile]
  refine VW.cond rfl (fun hb2 => ?_) (fun hb2 => ?_)
  ·
    replace hb2 : ¬ (a0.length : Int) = (a1.length : Int) := by simpa [ieq, ilt, ile] using hb2
    rw [if_pos hb2] at h
    -- region 2
    refine VW.ws tau_ok Sound.none [some 4] [(4, .val (.bool false))] rfl ?_ ?_
    · simp <;> simp [ieq, ilt, ile]
    cases h
    refine VW.ret ?_
    simp [Post, PostM, PostC, PostC2, Nx, Bk]
  replace hb2 : ¬ (¬ (a0.length : Int) = (a1.length : Int)) := by simpa [ieq, ilt, ile] using hb2
  rw [if_neg hb2] at h
  refine VW.skip ?_
  refine hK1 _ ?_
  refine VW.sqc fun K3 hK3 hCK3 => ?_
  -- region 3
  refine VW.ws tau_ok Sound.none [some 5] [(0, .val (dM a0)), (1, .val (dM a1)), (5, .val (i64 0))] rfl ?_ ?_
  · simp <;> simp [ieq, ilt, ile]
  obtain ⟨x4, hx4, h⟩ := bind_some h
  refine VW.tlO (fun y6 => []) x4 (hCK3) ?_ ?_
  · clear hx4
    rintro y6 rfl
    dsimp only at h
    refine hK3 _ ?_
    -- region 8
    refine VW.ws tau_ok Sound.none [some 4] [(4, .val (.bool true))] rfl ?_ ?_
    · simp <;> simp [ieq, ilt, ile]
    cases h
    refine VW.ret ?_
    simp [Post, PostM, PostC, PostC2, Nx, Bk]
  refine VW.block ?_
  refine VW.loopF (l_same9_L0 a0 a1) (fun s4 => [(0, .val (dM a0)), (1, .val (dM a1)), (5, .val (i64 s4))]) hx4 (Fits.of rfl) ?_
  clear hx4
  intro s4 ox4 hx4o hx4b
  unfold l_same9_L0 at hx4o
  refine VW.sqc fun K7 hK7 hCK7 => ?_
  -- region 4
  refine VW.ws tau_ok Sound.none [some 11, some 12, some 13, some 14] [(0, .val (dM a0)), (1, .val (dM a1)), (5, .val (i64 s4)), (14, .val (.bool (ilt s4 (a0.length : Int))))] rfl ?_ ?_
  · simp <;> simp [ieq, ilt, ile]
  refine VW.cond rfl (fun hb8 => ?_) (fun hb8 => ?_)
  rotate_left
  ·
    replace hb8 : ¬ (s4 < (a0.length : Int)) := by simpa [ieq, ilt, ile] using hb8
    rw [if_neg hb8] at hx4o
    refine VW.exit ?_
    cases hx4o
    have hq := hx4b _ rfl
    subst hq
    exact ⟨_, rfl, Fits.of rfl⟩
  replace hb8 : s4 < (a0.length : Int) := by simpa [ieq, ilt, ile] using hb8
  rw [if_pos hb8] at hx4o
  refine VW.skip ?_
  refine hK7 _ ?_
  refine VW.sqc fun K9 hK9 hCK9 => ?_
  refine VW.block ?_
  -- region 6
  obtain ⟨v10, hv10, hx4o⟩ := bind_some hx4o
  obtain ⟨hv10a, hv10b, hv10c, hv10d⟩ := idx_some hv10
  obtain ⟨v11, hv11, hx4o⟩ := bind_some hx4o
  obtain ⟨hv11a, hv11b, hv11c, hv11d⟩ := idx_some hv11
  obtain ⟨v12, hv12, hx4o⟩ := bind_some hx4o
  refine VW.wds tau_ok (Sound.none.add 25 (l_likeInts_ok hv12) rfl) try_mixed [some 17, some 18, some 19, some 20, some 21, some 22, some 23, some 24, some 25, some 26] [(0, .val (dM a0)), (1, .val (dM a1)), (5, .val (i64 s4)), (26, .val (.bool (!v12)))] 10 rfl (by kernel_rfl) (by rfl) ?_ ?_
  · simp [hv10a, hv10b, hv10c, hv10d, hv11a, hv11b, hv11c, hv11d] <;> simp [ieq, ilt, ile]
  refine VW.cond rfl (fun hb13 => ?_) (fun hb13 => ?_)
  rotate_left
  ·
    replace hb13 : ¬ (v12 = false) := by simpa [ieq, ilt, ile] using hb13
    rw [if_neg hb13] at hx4o
    refine VW.skip ?_
    refine hK9 _ ?_
    -- region 5
    refine VW.wr tau_ok Sound.none [some 15, some 16, some 5] [(0, .val (dM a0)), (1, .val (dM a1)), (5, .val (i64 (w64 (s4 + 1))))] rfl ?_ ?_
    · simp <;> simp [ieq, ilt, ile]
    cases hx4o
    exact ⟨_, rfl, Fits.of rfl⟩
  replace hb13 : v12 = false := by simpa [ieq, ilt, ile] using hb13
  rw [if_pos hb13] at hx4o
  -- region 7
  refine VW.ws tau_ok Sound.none [some 4] [(4, .val (.bool false))] rfl ?_ ?_
  · simp <;> simp [ieq, ilt, ile]
  cases hx4o
  have hq := hx4b _ rfl
  subst hq
  dsimp only at h
  cases h
  refine VW.ret ?_
  simp [Post, PostM, PostC, PostC2, Nx, Bk]

theorem i_length_I_ok {a0 : List Int} {r : Int} (h : i_length_I a0 = some r) :
    VCall Try.prog 174 [dI a0] [.sc (i64 r)] := by
  unfold i_length_I at h
  refine VCall.enter Try.call174 Try.func174 rfl 5 Try.ntmps174 (by simp) [.tmp 2] rfl ?_
  show VW _ _ _ (mk [(0, .val (dI a0))]) _
  -- region 0
  refine VW.ws tau_ok Sound.none [some 2] [(0, .val (dI a0))] rfl ?_ ?_
  · simp <;> simp [ieq, ilt, ile]
  -- region 1
  refine VW.ws tau_ok Sound.none [some 3, some 4, some 2] [(2, .val (i64 (a0.length : Int)))] rfl ?_ ?_
  · simp <;> simp [ieq, ilt, ile]
  cases h
  refine VW.ret ?_
  simp [Post, PostM, PostC, PostC2, Nx, Bk]

theorem i_isOnce_ok {a0 : List Int} {r : Bool} (h : i_isOnce a0 = some r) :
    VCall Try.prog 101 [dI a0] [.sc (.bool r)] := by
  unfold i_isOnce at h
  refine VCall.enter Try.call101 Try.func101 rfl 31 Try.ntmps101 (by simp) [.tmp 2] rfl ?_
  show VW _ _ _ (mk [(0, .val (dI a0))]) _
  -- region 0
  refine VW.ws tau_ok Sound.none [some 2] [(0, .val (dI a0))] rfl ?_ ?_
  · simp <;> simp [ieq, ilt, ile]
  -- region 1
  obtain ⟨hc1, h⟩ := chk_some h
  have hc1s := hc1
  try simp at hc1s
  refine VW.ws tau_ok Sound.none [some 6, some 7, some 8, some 3] [(0, .val (dI a0)), (3, .ref 3 [] true (dB (List.replicate (a0.length : Int).toNat false)))] rfl ?_ ?_
  · simp [hc1, hc1s] <;> simp [ieq, ilt, ile]
  refine VW.sqc fun K2 hK2 hCK2 => ?_
  -- region 2
  refine VW.ws tau_ok Sound.none [some 9, some 10, some 11] [(0, .val (dI a0)), (3, .ref 3 [] true (dB (List.replicate (a0.length : Int).toNat false))), (9, .val (dI a0)), (10, .val (i64 (a0.length : Int))), (11, .val (i64 0))] rfl ?_ ?_
  · simp <;> simp [ieq, ilt, ile]
  obtain ⟨x3, hx3, h⟩ := bind_some h
  refine VW.tlO (fun y5 => []) x3 (hCK2) ?_ ?_
  · clear hx3
    rintro y5 rfl
    dsimp only at h
    refine hK2 _ ?_
    -- region 9
    refine VW.ws tau_ok Sound.none [some 2] [(2, .val (.bool true))] rfl ?_ ?_
    · simp <;> simp [ieq, ilt, ile]
    cases h
    refine VW.ret ?_
    simp [Post, PostM, PostC, PostC2, Nx, Bk]
  refine VW.block ?_
  refine VW.loopF (i_isOnce_L0 a0) (fun s3 => [(0, .val (dI a0)), (3, .ref 3 [] true (dB s3.1)), (9, .val (dI a0)), (10, .val (i64 (a0.length : Int))), (11, .val (i64 s3.2))]) hx3 (Fits.of rfl) ?_
  clear hx3
  intro s3 ox3 hx3o hx3b
  unfold i_isOnce_L0 at hx3o
  -- region 3
  refine VW.ws tau_ok Sound.none [some 12] [(0, .val (dI a0)), (3, .ref 3 [] true (dB s3.1)), (9, .val (dI a0)), (10, .val (i64 (a0.length : Int))), (11, .val (i64 s3.2)), (12, .val (.bool (ilt s3.2 (a0.length : Int))))] rfl ?_ ?_
  · simp <;> simp [ieq, ilt, ile]
  refine VW.sqc fun K6 hK6 hCK6 => ?_
  refine VW.cond rfl (fun hb7 => ?_) (fun hb7 => ?_)
  rotate_left
  ·
    replace hb7 : ¬ (s3.2 < (a0.length : Int)) := by simpa [ieq, ilt, ile] using hb7
    rw [if_neg hb7] at hx3o
    refine VW.exit ?_
    cases hx3o
    have hq := hx3b _ rfl
    subst hq
    exact ⟨_, rfl, Fits.of rfl⟩
  replace hb7 : s3.2 < (a0.length : Int) := by simpa [ieq, ilt, ile] using hb7
  rw [if_pos hb7] at hx3o
  refine VW.skip ?_
  refine hK6 _ ?_
  refine VW.sqc fun K8 hK8 hCK8 => ?_
  refine VW.block ?_
  -- region 4
  obtain ⟨v9, hv9, hx3o⟩ := bind_some hx3o
  obtain ⟨hv9a, hv9b, hv9c, hv9d⟩ := idx_some hv9
  refine VW.ws tau_ok Sound.none [some 13, some 14, some 5] [(0, .val (dI a0)), (3, .ref 3 [] true (dB s3.1)), (5, .val (i64 v9)), (9, .val (dI a0)), (10, .val (i64 (a0.length : Int))), (11, .val (i64 s3.2))] rfl ?_ ?_
  · simp [hv9a, hv9b, hv9c, hv9d] <;> simp [ieq, ilt, ile]
  refine VW.sqc fun K10 hK10 hCK10 => ?_
  -- region 5
  obtain ⟨x15, hx15, hx3o⟩ := bind_some hx3o
  refine VW.cut [(0, .val (dI a0)), (3, .ref 3 [] true (dB s3.1)), (5, .val (i64 v9)), (9, .val (dI a0)), (10, .val (i64 (a0.length : Int))), (11, .val (i64 s3.2)), (26, .val (.bool x15))] ?_ fun hy => ?_
  rotate_left
  · clear hx3o
    obtain ⟨v11, hv11, hx15⟩ := bind_some hx15
    obtain ⟨v12, hv12, hx15⟩ := bind_some hx15
    by_cases hp13 : v12 = false
    · rw [if_pos hp13] at hx15
      have hp13b : v12 = false := by simpa [ieq, ilt, ile] using hp13
      have hp13s := hp13b
      try simp at hp13s
      cases hx15
      refine VW.ws tau_ok ((Sound.none.add 17 (i_length_I_ok hv11) rfl).add 19 (i_inRange_ok hv12) rfl) [some 15, some 16, some 17, some 18, some 19, some 20, some 21, some 22, some 23, some 24, some 25, some 26] _ rfl ?_ hy
      simp [hp13b, hp13s] <;> simp [ieq, ilt, ile]
    · rw [if_neg hp13] at hx15
      have hp13b : v12 = true := by simpa [ieq, ilt, ile] using hp13
      have hp13s := hp13b
      try simp at hp13s
      obtain ⟨v14, hv14, hx15⟩ := bind_some hx15
      obtain ⟨hv14a, hv14b, hv14c, hv14d⟩ := idx_some hv14
      cases hx15
      refine VW.ws tau_ok ((Sound.none.add 17 (i_length_I_ok hv11) rfl).add 19 (i_inRange_ok hv12) rfl) [some 15, some 16, some 17, some 18, some 19, some 20, some 21, some 22, some 23, some 24, some 25, some 26] _ rfl ?_ hy
      simp [hp13b, hp13s, hv14a, hv14b, hv14c, hv14d] <;> simp [ieq, ilt, ile]
  refine VW.cond rfl (fun hb16 => ?_) (fun hb16 => ?_)
  ·
    replace hb16 : x15 = true := by simpa [ieq, ilt, ile] using hb16
    rw [if_pos hb16] at hx3o
    -- region 6
    refine VW.ws tau_ok Sound.none [some 2] [(2, .val (.bool false))] rfl ?_ ?_
    · simp <;> simp [ieq, ilt, ile]
    cases hx3o
    have hq := hx3b _ rfl
    subst hq
    dsimp only at h
    cases h
    refine VW.ret ?_
    simp [Post, PostM, PostC, PostC2, Nx, Bk]
  replace hb16 : ¬ (x15 = true) := by simpa [ieq, ilt, ile] using hb16
  rw [if_neg hb16] at hx3o
  refine VW.skip ?_
  refine hK10 _ ?_
  -- region 7
  obtain ⟨v17, hv17, hx3o⟩ := bind_some hx3o
  obtain ⟨hv17a, hv17b, hv17c, hv17d⟩ := idx_some hv17
  refine VW.wr tau_ok Sound.none [some 27, some 28, some 29, none] [(0, .val (dI a0)), (3, .ref 3 [] true (dB (s3.1.set v9.toNat true))), (9, .val (dI a0)), (10, .val (i64 (a0.length : Int))), (11, .val (i64 s3.2))] rfl ?_ ?_
  · simp [hv17a, hv17b, hv17c, hv17d] <;> simp [ieq, ilt, ile]
  refine hK8 _ ?_
  -- region 8
  refine VW.wr tau_ok Sound.none [some 30, some 11] [(0, .val (dI a0)), (3, .ref 3 [] true (dB (s3.1.set v9.toNat true))), (9, .val (dI a0)), (10, .val (i64 (a0.length : Int))), (11, .val (i64 (w64 (s3.2 + 1))))] rfl ?_ ?_
  · simp <;> simp [ieq, ilt, ile]
  cases hx3o
  exact ⟨_, rfl, Fits.of rfl⟩

theorem i_transpose_ok {a0 : List (List Int)} {r : List (List Int)} (h : i_transpose a0 = some r) :
    VCall Try.prog 100 [dM a0] [.own true (dM r)] := by
  unfold i_transpose at h
  refine VCall.enter Try.call100 Try.func100 rfl 38 Try.ntmps100 (by simp) [.tmp 2] rfl ?_
  show VW _ _ _ (mk [(0, .val (dM a0))]) _
  -- region 0
  refine VW.ws tau_ok Sound.none [some 2] [(0, .val (dM a0))] rfl ?_ ?_
  · simp <;> simp [ieq, ilt, ile]
  -- region 1
  refine VW.ws tau_ok Sound.none [some 7, some 3] [(0, .val (dM a0)), (3, .ref 3 [] true (dM []))] rfl ?_ ?_
  · simp <;> simp [ieq, ilt, ile]
  refine VW.sqc fun K1 hK1 hCK1 => ?_
  -- region 2
  obtain ⟨v2, hv2, h⟩ := bind_some h
  obtain ⟨hv2a, hv2b, hv2c, hv2d⟩ := idx_some hv2
  replace hv2b : 0 < a0.length := hv2b
  replace hv2c : a0[0]? = some v2 := hv2c
  replace hv2d : ∀ h, a0[0]'h = v2 := hv2d
  refine VW.ws tau_ok Sound.none [some 8, some 9, some 10, some 11, some 12] [(0, .val (dM a0)), (3, .ref 3 [] true (dM [])), (11, .val (i64 (v2.length : Int))), (12, .val (i64 0))] rfl ?_ ?_
  · simp [hv2a, hv2b, hv2c, hv2d] <;> simp [ieq, ilt, ile]
  obtain ⟨x3, hx3, h⟩ := bind_some h
  refine VW.tlE [(3, .ref 3 [] true (dM x3))] (hCK1) ?_ ?_
  · clear hx3
    refine hK1 _ ?_
    -- region 13
    refine VW.ws tau_ok Sound.none [some 37, some 2] [(2, .ref 2 [] true (dM x3))] rfl ?_ ?_
    · simp <;> simp [ieq, ilt, ile]
    cases h
    refine VW.ret ?_
    simp [Post, PostM, PostC, PostC2, Nx, Bk]
  refine VW.block ?_
  refine VW.loopF (i_transpose_L0 a0 v2) (fun s3 => [(0, .val (dM a0)), (3, .ref 3 [] true (dM s3.1)), (11, .val (i64 (v2.length : Int))), (12, .val (i64 s3.2))]) hx3 (Fits.of rfl) ?_
  clear hx3
  intro s3 ox3 hx3o hx3b
  unfold i_transpose_L0 at hx3o
  -- region 3
  refine VW.ws tau_ok Sound.none [some 13] [(0, .val (dM a0)), (3, .ref 3 [] true (dM s3.1)), (11, .val (i64 (v2.length : Int))), (12, .val (i64 s3.2)), (13, .val (.bool (ilt s3.2 (v2.length : Int))))] rfl ?_ ?_
  · simp <;> simp [ieq, ilt, ile]
  refine VW.sqc fun K5 hK5 hCK5 => ?_
  refine VW.cond rfl (fun hb6 => ?_) (fun hb6 => ?_)
  rotate_left
  ·
    replace hb6 : ¬ (s3.2 < (v2.length : Int)) := by simpa [ieq, ilt, ile] using hb6
    rw [if_neg hb6] at hx3o
    refine VW.exit ?_
    cases hx3o
    have hq := hx3b _ rfl
    subst hq
    exact Fits.of rfl
  replace hb6 : s3.2 < (v2.length : Int) := by simpa [ieq, ilt, ile] using hb6
  rw [if_pos hb6] at hx3o
  refine VW.skip ?_
  refine hK5 _ ?_
  refine VW.sqc fun K7 hK7 hCK7 => ?_
  refine VW.block ?_
  -- region 4
  refine VW.ws tau_ok Sound.none [some 14, some 4] [(0, .val (dM a0)), (3, .ref 3 [] true (dM s3.1)), (4, .val (i64 s3.2)), (11, .val (i64 (v2.length : Int))), (12, .val (i64 s3.2))] rfl ?_ ?_
  · simp <;> simp [ieq, ilt, ile]
  -- region 5
  refine VW.ws tau_ok Sound.none [some 15, some 5] [(0, .val (dM a0)), (3, .ref 3 [] true (dM s3.1)), (4, .val (i64 s3.2)), (5, .ref 5 [] true (dI [])), (11, .val (i64 (v2.length : Int))), (12, .val (i64 s3.2))] rfl ?_ ?_
  · simp <;> simp [ieq, ilt, ile]
  refine VW.sqc fun K8 hK8 hCK8 => ?_
  -- region 6
  refine VW.ws tau_ok Sound.none [some 16, some 17, some 18] [(0, .val (dM a0)), (3, .ref 3 [] true (dM s3.1)), (4, .val (i64 s3.2)), (5, .ref 5 [] true (dI [])), (11, .val (i64 (v2.length : Int))), (12, .val (i64 s3.2)), (17, .val (i64 (a0.length : Int))), (18, .val (i64 0))] rfl ?_ ?_
  · simp <;> simp [ieq, ilt, ile]
  obtain ⟨x9, hx9, hx3o⟩ := bind_some hx3o
  refine VW.tlE [(0, .val (dM a0)), (3, .ref 3 [] true (dM s3.1)), (5, .ref 5 [] true (dI x9)), (11, .val (i64 (v2.length : Int))), (12, .val (i64 s3.2))] (hCK8) ?_ ?_
  · clear hx9
    refine hK8 _ ?_
    -- region 11
    obtain ⟨hc17, hx3o⟩ := chk_some hx3o
    have hc17s := hc17
    try simp at hc17s
    refine VW.wr tau_ok Sound.none [some 32, some 33, some 34, some 35, some 3] [(0, .val (dM a0)), (3, .ref 3 [] true (dM (s3.1 ++ [x9]))), (11, .val (i64 (v2.length : Int))), (12, .val (i64 s3.2))] rfl ?_ ?_
    · simp [hc17, hc17s] <;> simp [ieq, ilt, ile]
    refine hK7 _ ?_
    -- region 12
    refine VW.wr tau_ok Sound.none [some 36, some 12] [(0, .val (dM a0)), (3, .ref 3 [] true (dM (s3.1 ++ [x9]))), (11, .val (i64 (v2.length : Int))), (12, .val (i64 (w64 (s3.2 + 1))))] rfl ?_ ?_
    · simp <;> simp [ieq, ilt, ile]
    cases hx3o
    exact ⟨_, rfl, Fits.of rfl⟩
  refine VW.block ?_
  refine VW.loopF (i_transpose_L1 a0 s3) (fun s9 => [(0, .val (dM a0)), (3, .ref 3 [] true (dM s3.1)), (4, .val (i64 s3.2)), (5, .ref 5 [] true (dI s9.1)), (11, .val (i64 (v2.length : Int))), (12, .val (i64 s3.2)), (17, .val (i64 (a0.length : Int))), (18, .val (i64 s9.2))]) hx9 (Fits.of rfl) ?_
  clear hx9
  intro s9 ox9 hx9o hx9b
  unfold i_transpose_L1 at hx9o
  -- region 7
  refine VW.ws tau_ok Sound.none [some 19] [(0, .val (dM a0)), (3, .ref 3 [] true (dM s3.1)), (4, .val (i64 s3.2)), (5, .ref 5 [] true (dI s9.1)), (11, .val (i64 (v2.length : Int))), (12, .val (i64 s3.2)), (17, .val (i64 (a0.length : Int))), (18, .val (i64 s9.2)), (19, .val (.bool (ilt s9.2 (a0.length : Int))))] rfl ?_ ?_
  · simp <;> simp [ieq, ilt, ile]
  refine VW.sqc fun K11 hK11 hCK11 => ?_
  refine VW.cond rfl (fun hb12 => ?_) (fun hb12 => ?_)
  rotate_left
  ·
    replace hb12 : ¬ (s9.2 < (a0.length : Int)) := by simpa [ieq, ilt, ile] using hb12
    rw [if_neg hb12] at hx9o
    refine VW.exit ?_
    cases hx9o
    have hq := hx9b _ rfl
    subst hq
    exact Fits.of rfl
  replace hb12 : s9.2 < (a0.length : Int) := by simpa [ieq, ilt, ile] using hb12
  rw [if_pos hb12] at hx9o
  refine VW.skip ?_
  refine hK11 _ ?_
  refine VW.sqc fun K13 hK13 hCK13 => ?_
  refine VW.block ?_
  -- region 8
  refine VW.ws tau_ok Sound.none [some 20, some 6] [(0, .val (dM a0)), (3, .ref 3 [] true (dM s3.1)), (4, .val (i64 s3.2)), (5, .ref 5 [] true (dI s9.1)), (6, .val (i64 s9.2)), (11, .val (i64 (v2.length : Int))), (12, .val (i64 s3.2)), (17, .val (i64 (a0.length : Int))), (18, .val (i64 s9.2))] rfl ?_ ?_
  · simp <;> simp [ieq, ilt, ile]
  -- region 9
  obtain ⟨v14, hv14, hx9o⟩ := bind_some hx9o
  obtain ⟨hv14a, hv14b, hv14c, hv14d⟩ := idx_some hv14
  obtain ⟨v15, hv15, hx9o⟩ := bind_some hx9o
  obtain ⟨hv15a, hv15b, hv15c, hv15d⟩ := idx_some hv15
  obtain ⟨hc16, hx9o⟩ := chk_some hx9o
  have hc16s := hc16
  try simp at hc16s
  refine VW.wr tau_ok Sound.none [some 21, some 22, some 23, some 24, some 25, some 26, some 27, some 28, some 29, some 30, some 5] [(0, .val (dM a0)), (3, .ref 3 [] true (dM s3.1)), (4, .val (i64 s3.2)), (5, .ref 5 [] true (dI (s9.1 ++ [v15]))), (11, .val (i64 (v2.length : Int))), (12, .val (i64 s3.2)), (17, .val (i64 (a0.length : Int))), (18, .val (i64 s9.2))] rfl ?_ ?_
  · simp [hv14a, hv14b, hv14c, hv14d, hv15a, hv15b, hv15c, hv15d, hc16, hc16s] <;> simp [ieq, ilt, ile]
  refine hK13 _ ?_
  -- region 10
  refine VW.wr tau_ok Sound.none [some 31, some 18] [(0, .val (dM a0)), (3, .ref 3 [] true (dM s3.1)), (4, .val (i64 s3.2)), (5, .ref 5 [] true (dI (s9.1 ++ [v15]))), (11, .val (i64 (v2.length : Int))), (12, .val (i64 s3.2)), (17, .val (i64 (a0.length : Int))), (18, .val (i64 (w64 (s9.2 + 1))))] rfl ?_ ?_
  · simp <;> simp [ieq, ilt, ile]
  cases hx9o
  exact ⟨_, rfl, Fits.of rfl⟩

theorem i_IsLoop_c1_ok {a0 : List Int} {r : Bool} (h : i_IsLoop_c1 a0 = some r) :
    VCall Try.prog 103 [dI a0] [.sc (.bool r)] := by
  unfold i_IsLoop_c1 at h
  refine VCall.enter Try.call103 Try.func103 rfl 6 Try.ntmps103 (by simp) [.tmp 2] rfl ?_
  show VW _ _ _ (mk [(0, .val (dI a0))]) _
  -- region 0
  refine VW.ws tau_ok Sound.none [some 2] [(0, .val (dI a0))] rfl ?_ ?_
  · simp <;> simp [ieq, ilt, ile]
  -- region 1
  obtain ⟨v1, hv1, h⟩ := bind_some h
  refine VW.ws tau_ok (Sound.none.add 4 (i_isOnce_ok hv1) rfl) [some 3, some 4, some 5, some 2] [(2, .val (.bool (!v1)))] rfl ?_ ?_
  · simp <;> simp [ieq, ilt, ile]
  cases h
  refine VW.ret ?_
  simp [Post, PostM, PostC, PostC2, Nx, Bk]

theorem g_slices_IndexFunc_LLI_LI_of_i_IsLoop_c1_ok {a0 : List (List Int)} {r : Int} (h : g_slices_IndexFunc_LLI_LI_of_i_IsLoop_c1 a0 = some r) :
    VCall Try.prog 175 [dM a0, .fn 103 []] [.sc (i64 r)] := by
  unfold g_slices_IndexFunc_LLI_LI_of_i_IsLoop_c1 at h
  refine VCall.enter Try.call175 Try.func175 rfl 19 Try.ntmps175 (by simp) [.tmp 4] rfl ?_
  show VW _ _ _ (mk [(0, .val (dM a0)), (1, .val (.fn 103 []))]) _
  -- region 0
  refine VW.ws tau_ok Sound.none [some 4] [(0, .val (dM a0)), (1, .val (.fn 103 []))] rfl ?_ ?_
  · simp <;> simp [ieq, ilt, ile]
  refine VW.sqc fun K1 hK1 hCK1 => ?_
  -- region 1
  refine VW.ws tau_ok Sound.none [some 6, some 7, some 8] [(0, .val (dM a0)), (1, .val (.fn 103 [])), (7, .val (i64 (a0.length : Int))), (8, .val (i64 0))] rfl ?_ ?_
  · simp <;> simp [ieq, ilt, ile]
  obtain ⟨x2, hx2, h⟩ := bind_some h
  refine VW.tlO (fun y4 => []) x2 (hCK1) ?_ ?_
  · clear hx2
    rintro y4 rfl
    dsimp only at h
    refine hK1 _ ?_
    -- region 7
    refine VW.ws tau_ok Sound.none [some 4] [(4, .val (i64 (-1)))] rfl ?_ ?_
    · simp <;> simp [ieq, ilt, ile]
    cases h
    refine VW.ret ?_
    simp [Post, PostM, PostC, PostC2, Nx, Bk]
  refine VW.block ?_
  refine VW.loopF (g_slices_IndexFunc_LLI_LI_of_i_IsLoop_c1_L0 a0) (fun s2 => [(0, .val (dM a0)), (1, .val (.fn 103 [])), (7, .val (i64 (a0.length : Int))), (8, .val (i64 s2))]) hx2 (Fits.of rfl) ?_
  clear hx2
  intro s2 ox2 hx2o hx2b
  unfold g_slices_IndexFunc_LLI_LI_of_i_IsLoop_c1_L0 at hx2o
  -- region 2
  refine VW.ws tau_ok Sound.none [some 9] [(0, .val (dM a0)), (1, .val (.fn 103 [])), (7, .val (i64 (a0.length : Int))), (8, .val (i64 s2)), (9, .val (.bool (ilt s2 (a0.length : Int))))] rfl ?_ ?_
  · simp <;> simp [ieq, ilt, ile]
  refine VW.sqc fun K5 hK5 hCK5 => ?_
  refine VW.cond rfl (fun hb6 => ?_) (fun hb6 => ?_)
  rotate_left
  ·
    replace hb6 : ¬ (s2 < (a0.length : Int)) := by simpa [ieq, ilt, ile] using hb6
    rw [if_neg hb6] at hx2o
    refine VW.exit ?_
    cases hx2o
    have hq := hx2b _ rfl
    subst hq
    exact ⟨_, rfl, Fits.of rfl⟩
  replace hb6 : s2 < (a0.length : Int) := by simpa [ieq, ilt, ile] using hb6
  rw [if_pos hb6] at hx2o
  refine VW.skip ?_
  refine hK5 _ ?_
  refine VW.sqc fun K7 hK7 hCK7 => ?_
  refine VW.block ?_
  -- region 3
  refine VW.ws tau_ok Sound.none [some 10, some 5] [(0, .val (dM a0)), (1, .val (.fn 103 [])), (5, .val (i64 s2)), (7, .val (i64 (a0.length : Int))), (8, .val (i64 s2))] rfl ?_ ?_
  · simp <;> simp [ieq, ilt, ile]
  -- region 4
  obtain ⟨v8, hv8, hx2o⟩ := bind_some hx2o
  obtain ⟨hv8a, hv8b, hv8c, hv8d⟩ := idx_some hv8
  obtain ⟨v9, hv9, hx2o⟩ := bind_some hx2o
  refine VW.ws tau_ok (Sound.none.add 16 (i_IsLoop_c1_ok hv9) rfl) [some 11, some 12, some 13, some 14, some 15, some 16] [(0, .val (dM a0)), (1, .val (.fn 103 [])), (5, .val (i64 s2)), (7, .val (i64 (a0.length : Int))), (8, .val (i64 s2)), (16, .val (.bool v9))] rfl ?_ ?_
  · simp [hv8a, hv8b, hv8c, hv8d] <;> simp [ieq, ilt, ile]
  refine VW.cond rfl (fun hb10 => ?_) (fun hb10 => ?_)
  rotate_left
  ·
    replace hb10 : ¬ (v9 = true) := by simpa [ieq, ilt, ile] using hb10
    rw [if_neg hb10] at hx2o
    refine VW.skip ?_
    refine hK7 _ ?_
    -- region 6
    refine VW.wr tau_ok Sound.none [some 18, some 8] [(0, .val (dM a0)), (1, .val (.fn 103 [])), (7, .val (i64 (a0.length : Int))), (8, .val (i64 (w64 (s2 + 1))))] rfl ?_ ?_
    · simp <;> simp [ieq, ilt, ile]
    cases hx2o
    exact ⟨_, rfl, Fits.of rfl⟩
  replace hb10 : v9 = true := by simpa [ieq, ilt, ile] using hb10
  rw [if_pos hb10] at hx2o
  -- region 5
  refine VW.ws tau_ok Sound.none [some 17, some 4] [(4, .val (i64 s2))] rfl ?_ ?_
  · simp <;> simp [ieq, ilt, ile]
  cases hx2o
  have hq := hx2b _ rfl
  subst hq
  dsimp only at h
  cases h
  refine VW.ret ?_
  simp [Post, PostM, PostC, PostC2, Nx, Bk]

theorem g_slices_ContainsFunc_LLI_LI_of_i_IsLoop_c1_ok {a0 : List (List Int)} {r : Bool} (h : g_slices_ContainsFunc_LLI_LI_of_i_IsLoop_c1 a0 = some r) :
    VCall Try.prog 102 [dM a0, .fn 103 []] [.sc (.bool r)] := by
  unfold g_slices_ContainsFunc_LLI_LI_of_i_IsLoop_c1 at h
  refine VCall.enter Try.call102 Try.func102 rfl 9 Try.ntmps102 (by simp) [.tmp 4] rfl ?_
  show VW _ _ _ (mk [(0, .val (dM a0)), (1, .val (.fn 103 []))]) _
  -- region 0
  refine VW.ws tau_ok Sound.none [some 4] [(0, .val (dM a0)), (1, .val (.fn 103 []))] rfl ?_ ?_
  · simp <;> simp [ieq, ilt, ile]
  -- region 1
  obtain ⟨v1, hv1, h⟩ := bind_some h
  refine VW.ws tau_ok (Sound.none.add 7 (g_slices_IndexFunc_LLI_LI_of_i_IsLoop_c1_ok hv1) rfl) [some 5, some 6, some 7, some 8, some 4] [(4, .val (.bool (ile 0 v1)))] rfl ?_ ?_
  · simp <;> simp [ieq, ilt, ile]
  cases h
  refine VW.ret ?_
  simp [Post, PostM, PostC, PostC2, Nx, Bk]

theorem i_IsLoop_ok {a0 : List (List Int)} {r : Bool} (h : i_IsLoop a0 = some r) :
    VCall Try.prog 31 [dM a0] [.sc (.bool r)] := by
  unfold i_IsLoop at h
  refine VCall.enter Try.call31 Try.func31 rfl 59 Try.ntmps31 (by simp) [.tmp 2] rfl ?_
  show VW _ _ _ (mk [(0, .val (dM a0))]) _
  -- region 0
  refine VW.ws tau_ok Sound.none [some 2] [(0, .val (dM a0))] rfl ?_ ?_
  · simp <;> simp [ieq, ilt, ile]
  -- region 1
  refine VW.ws tau_ok Sound.none [some 8, some 9, some 3] [(0, .val (dM a0)), (3, .val (i64 (a0.length : Int)))] rfl ?_ ?_
  · simp <;> simp [ieq, ilt, ile]
  refine VW.sqc fun K1 hK1 hCK1 => ?_
  -- region 2
  obtain ⟨x3, hx3, h⟩ := bind_some h
  refine VW.cut [(0, .val (dM a0)), (3, .val (i64 (a0.length : Int))), (15, .val (.bool x3))] ?_ fun hy => ?_
  rotate_left
  · clear h
    by_cases hp2 : (a0.length : Int) < 1
    · rw [if_pos hp2] at hx3
      have hp2b : ilt (a0.length : Int) 1 = true := by simpa [ieq, ilt, ile] using hp2
      have hp2s := hp2b
      try simp at hp2s
      cases hx3
      refine VW.ws tau_ok Sound.none [some 10, some 11, some 12, some 13, some 14, some 15] _ rfl ?_ hy
      simp [hp2b, hp2s] <;> simp [ieq, ilt, ile]
    · rw [if_neg hp2] at hx3
      have hp2b : ilt (a0.length : Int) 1 = false := by simpa [ieq, ilt, ile] using hp2
      have hp2s := hp2b
      try simp at hp2s
      cases hx3
      refine VW.ws tau_ok Sound.none [some 10, some 11, some 12, some 13, some 14, some 15] _ rfl ?_ hy
      simp [hp2b, hp2s] <;> simp [ieq, ilt, ile]
  refine VW.cond rfl (fun hb4 => ?_) (fun hb4 => ?_)
  ·
    replace hb4 : x3 = true := by simpa [ieq, ilt, ile] using hb4
    rw [if_pos hb4] at h
    -- region 3
    refine VW.ws tau_ok Sound.none [some 2] [(2, .val (.bool false))] rfl ?_ ?_
    · simp <;> simp [ieq, ilt, ile]
    cases h
    refine VW.ret ?_
    simp [Post, PostM, PostC, PostC2, Nx, Bk]
  replace hb4 : ¬ (x3 = true) := by simpa [ieq, ilt, ile] using hb4
  rw [if_neg hb4] at h
  refine VW.skip ?_
  refine hK1 _ ?_
  refine VW.sqc fun K5 hK5 hCK5 => ?_
  -- region 4
  refine VW.ws tau_ok Sound.none [some 16, some 17, some 18] [(0, .val (dM a0)), (3, .val (i64 (a0.length : Int))), (16, .val (dM a0)), (17, .val (i64 (a0.length : Int))), (18, .val (i64 0))] rfl ?_ ?_
  · simp <;> simp [ieq, ilt, ile]
  obtain ⟨x6, hx6, h⟩ := bind_some h
  refine VW.tlO (fun y8 => [(0, .val (dM a0))]) x6 (hCK5) ?_ ?_
  · clear hx6
    rintro y8 rfl
    dsimp only at h
    refine hK5 _ ?_
    refine VW.sqc fun K14 hK14 hCK14 => ?_
    -- region 10
    refine VW.ws tau_ok Sound.none [some 27, some 28, some 29] [(0, .val (dM a0)), (27, .val (dM a0)), (28, .val (i64 (a0.length : Int))), (29, .val (i64 0))] rfl ?_ ?_
    · simp <;> simp [ieq, ilt, ile]
    obtain ⟨x15, hx15, h⟩ := bind_some h
    refine VW.tlO (fun y17 => [(0, .val (dM a0))]) x15 (hCK14) ?_ ?_
    · clear hx15
      rintro y17 rfl
      dsimp only at h
      refine hK14 _ ?_
      -- region 16
      obtain ⟨v30, hv30, h⟩ := bind_some h
      obtain ⟨v31, hv31, h⟩ := bind_some h
      refine VW.ws tau_ok ((Sound.none.add 56 (i_transpose_ok hv30) rfl).add 57 (g_slices_ContainsFunc_LLI_LI_of_i_IsLoop_c1_ok hv31) rfl) [some 55, some 56, some 57, some 58, some 2] [(2, .val (.bool (!v31)))] rfl ?_ ?_
      · simp <;> simp [ieq, ilt, ile]
      cases h
      refine VW.ret ?_
      simp [Post, PostM, PostC, PostC2, Nx, Bk]
    refine VW.block ?_
    refine VW.loopF (i_IsLoop_L1 a0) (fun s15 => [(0, .val (dM a0)), (27, .val (dM a0)), (28, .val (i64 (a0.length : Int))), (29, .val (i64 s15))]) hx15 (Fits.of rfl) ?_
    clear hx15
    intro s15 ox15 hx15o hx15b
    unfold i_IsLoop_L1 at hx15o
    -- region 11
    refine VW.ws tau_ok Sound.none [some 30] [(0, .val (dM a0)), (27, .val (dM a0)), (28, .val (i64 (a0.length : Int))), (29, .val (i64 s15)), (30, .val (.bool (ilt s15 (a0.length : Int))))] rfl ?_ ?_
    · simp <;> simp [ieq, ilt, ile]
    refine VW.sqc fun K18 hK18 hCK18 => ?_
    refine VW.cond rfl (fun hb19 => ?_) (fun hb19 => ?_)
    rotate_left
    ·
      replace hb19 : ¬ (s15 < (a0.length : Int)) := by simpa [ieq, ilt, ile] using hb19
      rw [if_neg hb19] at hx15o
      refine VW.exit ?_
      cases hx15o
      have hq := hx15b _ rfl
      subst hq
      exact ⟨_, rfl, Fits.of rfl⟩
    replace hb19 : s15 < (a0.length : Int) := by simpa [ieq, ilt, ile] using hb19
    rw [if_pos hb19] at hx15o
    refine VW.skip ?_
    refine hK18 _ ?_
    refine VW.sqc fun K20 hK20 hCK20 => ?_
    refine VW.block ?_
    -- region 12
    obtain ⟨v21, hv21, hx15o⟩ := bind_some hx15o
    obtain ⟨hv21a, hv21b, hv21c, hv21d⟩ := idx_some hv21
    refine VW.ws tau_ok Sound.none [some 31, some 32, some 33, some 6, some 7] [(0, .val (dM a0)), (6, .val (i64 s15)), (7, .val (dI v21)), (27, .val (dM a0)), (28, .val (i64 (a0.length : Int))), (29, .val (i64 s15))] rfl ?_ ?_
    · simp [hv21a, hv21b, hv21c, hv21d] <;> simp [ieq, ilt, ile]
    -- region 13
    obtain ⟨x28, hx28, hx15o⟩ := bind_some hx15o
    refine VW.cut [(0, .val (dM a0)), (27, .val (dM a0)), (28, .val (i64 (a0.length : Int))), (29, .val (i64 s15)), (53, .val (.bool x28))] ?_ fun hy => ?_
    rotate_left
    · clear hx15o
      obtain ⟨v22, hv22, hx28⟩ := bind_some hx28
      obtain ⟨hv22a, hv22b, hv22c, hv22d⟩ := idx_some hv22
      replace hv22b : 0 < v21.length := hv22b
      replace hv22c : v21[0]? = some v22 := hv22c
      replace hv22d : ∀ h, v21[0]'h = v22 := hv22d
      by_cases hp23 : ¬ v22 = s15
      · rw [if_pos hp23] at hx28
        have hp23b : ieq v22 s15 = false := by simpa [ieq, ilt, ile] using hp23
        have hp23s := hp23b
        try simp at hp23s
        cases hx28
        refine VW.ws tau_ok Sound.none [some 34, some 35, some 36, some 37, some 38, some 39, some 40, some 41, some 42, some 43, some 44, some 45, some 46, some 47, some 48, some 49, some 50, some 51, some 52, some 53] _ rfl ?_ hy
        simp [hv22a, hv22b, hv22c, hv22d, hp23b, hp23s] <;> simp [ieq, ilt, ile]
      · rw [if_neg hp23] at hx28
        have hp23b : ieq v22 s15 = true := by simpa [ieq, ilt, ile] using hp23
        have hp23s := hp23b
        try simp at hp23s
        obtain ⟨v24, hv24, hx28⟩ := bind_some hx28
        obtain ⟨hv24a, hv24b, hv24c, hv24d⟩ := idx_some hv24
        replace hv24b : 0 < a0.length := hv24b
        replace hv24c : a0[0]? = some v24 := hv24c
        replace hv24d : ∀ h, a0[0]'h = v24 := hv24d
        obtain ⟨v25, hv25, hx28⟩ := bind_some hx28
        obtain ⟨hv25a, hv25b, hv25c, hv25d⟩ := idx_some hv25
        by_cases hp26 : ¬ v25 = s15
        · rw [if_pos hp26] at hx28
          have hp26b : ieq v25 s15 = false := by simpa [ieq, ilt, ile] using hp26
          have hp26s := hp26b
          try simp at hp26s
          cases hx28
          refine VW.ws tau_ok Sound.none [some 34, some 35, some 36, some 37, some 38, some 39, some 40, some 41, some 42, some 43, some 44, some 45, some 46, some 47, some 48, some 49, some 50, some 51, some 52, some 53] _ rfl ?_ hy
          simp [hv22a, hv22b, hv22c, hv22d, hp23b, hp23s, hv24a, hv24b, hv24c, hv24d, hv25a, hv25b, hv25c, hv25d, hp26b, hp26s] <;> simp [ieq, ilt, ile]
        · rw [if_neg hp26] at hx28
          have hp26b : ieq v25 s15 = true := by simpa [ieq, ilt, ile] using hp26
          have hp26s := hp26b
          try simp at hp26s
          obtain ⟨v27, hv27, hx28⟩ := bind_some hx28
          cases hx28
          refine VW.ws tau_ok (Sound.none.add 51 (i_isOnce_ok hv27) rfl) [some 34, some 35, some 36, some 37, some 38, some 39, some 40, some 41, some 42, some 43, some 44, some 45, some 46, some 47, some 48, some 49, some 50, some 51, some 52, some 53] _ rfl ?_ hy
          simp [hv22a, hv22b, hv22c, hv22d, hp23b, hp23s, hv24a, hv24b, hv24c, hv24d, hv25a, hv25b, hv25c, hv25d, hp26b, hp26s] <;> simp [ieq, ilt, ile]
    refine VW.cond rfl (fun hb29 => ?_) (fun hb29 => ?_)
    rotate_left
    ·
      replace hb29 : ¬ (x28 = true) := by simpa [ieq, ilt, ile] using hb29
      rw [if_neg hb29] at hx15o
      refine VW.skip ?_
      refine hK20 _ ?_
      -- region 15
      refine VW.wr tau_ok Sound.none [some 54, some 29] [(0, .val (dM a0)), (27, .val (dM a0)), (28, .val (i64 (a0.length : Int))), (29, .val (i64 (w64 (s15 + 1))))] rfl ?_ ?_
      · simp <;> simp [ieq, ilt, ile]
      cases hx15o
      exact ⟨_, rfl, Fits.of rfl⟩
    replace hb29 : x28 = true := by simpa [ieq, ilt, ile] using hb29
    rw [if_pos hb29] at hx15o
    -- region 14
    refine VW.ws tau_ok Sound.none [some 2] [(2, .val (.bool false))] rfl ?_ ?_
    · simp <;> simp [ieq, ilt, ile]
    cases hx15o
    have hq := hx15b _ rfl
    subst hq
    dsimp only at h
    cases h
    refine VW.ret ?_
    simp [Post, PostM, PostC, PostC2, Nx, Bk]
  refine VW.block ?_
  refine VW.loopF (i_IsLoop_L0 a0) (fun s6 => [(0, .val (dM a0)), (3, .val (i64 (a0.length : Int))), (16, .val (dM a0)), (17, .val (i64 (a0.length : Int))), (18, .val (i64 s6))]) hx6 (Fits.of rfl) ?_
  clear hx6
  intro s6 ox6 hx6o hx6b
  unfold i_IsLoop_L0 at hx6o
  -- region 5
  refine VW.ws tau_ok Sound.none [some 19] [(0, .val (dM a0)), (3, .val (i64 (a0.length : Int))), (16, .val (dM a0)), (17, .val (i64 (a0.length : Int))), (18, .val (i64 s6)), (19, .val (.bool (ilt s6 (a0.length : Int))))] rfl ?_ ?_
  · simp <;> simp [ieq, ilt, ile]
  refine VW.sqc fun K9 hK9 hCK9 => ?_
  refine VW.cond rfl (fun hb10 => ?_) (fun hb10 => ?_)
  rotate_left
  ·
    replace hb10 : ¬ (s6 < (a0.length : Int)) := by simpa [ieq, ilt, ile] using hb10
    rw [if_neg hb10] at hx6o
    refine VW.exit ?_
    cases hx6o
    have hq := hx6b _ rfl
    subst hq
    exact ⟨_, rfl, Fits.of rfl⟩
  replace hb10 : s6 < (a0.length : Int) := by simpa [ieq, ilt, ile] using hb10
  rw [if_pos hb10] at hx6o
  refine VW.skip ?_
  refine hK9 _ ?_
  refine VW.sqc fun K11 hK11 hCK11 => ?_
  refine VW.block ?_
  -- region 6
  obtain ⟨v12, hv12, hx6o⟩ := bind_some hx6o
  obtain ⟨hv12a, hv12b, hv12c, hv12d⟩ := idx_some hv12
  refine VW.ws tau_ok Sound.none [some 20, some 21, some 5] [(0, .val (dM a0)), (3, .val (i64 (a0.length : Int))), (5, .val (dI v12)), (16, .val (dM a0)), (17, .val (i64 (a0.length : Int))), (18, .val (i64 s6))] rfl ?_ ?_
  · simp [hv12a, hv12b, hv12c, hv12d] <;> simp [ieq, ilt, ile]
  -- region 7
  refine VW.ws tau_ok Sound.none [some 22, some 23, some 24, some 25] [(0, .val (dM a0)), (3, .val (i64 (a0.length : Int))), (16, .val (dM a0)), (17, .val (i64 (a0.length : Int))), (18, .val (i64 s6)), (25, .val (.bool (!(ieq (v12.length : Int) (a0.length : Int)))))] rfl ?_ ?_
  · simp <;> simp [ieq, ilt, ile]
  refine VW.cond rfl (fun hb13 => ?_) (fun hb13 => ?_)
  rotate_left
  ·
    replace hb13 : ¬ (¬ (v12.length : Int) = (a0.length : Int)) := by simpa [ieq, ilt, ile] using hb13
    rw [if_neg hb13] at hx6o
    refine VW.skip ?_
    refine hK11 _ ?_
    -- region 9
    refine VW.wr tau_ok Sound.none [some 26, some 18] [(0, .val (dM a0)), (3, .val (i64 (a0.length : Int))), (16, .val (dM a0)), (17, .val (i64 (a0.length : Int))), (18, .val (i64 (w64 (s6 + 1))))] rfl ?_ ?_
    · simp <;> simp [ieq, ilt, ile]
    cases hx6o
    exact ⟨_, rfl, Fits.of rfl⟩
  replace hb13 : ¬ (v12.length : Int) = (a0.length : Int) := by simpa [ieq, ilt, ile] using hb13
  rw [if_pos hb13] at hx6o
  -- region 8
  refine VW.ws tau_ok Sound.none [some 2] [(2, .val (.bool false))] rfl ?_ ?_
  · simp <;> simp [ieq, ilt, ile]
  cases hx6o
  have hq := hx6b _ rfl
  subst hq
  dsimp only at h
  cases h
  refine VW.ret ?_
  simp [Post, PostM, PostC, PostC2, Nx, Bk]

theorem i_length_LI_ok {a0 : List (List Int)} {r : Int} (h : i_length_LI a0 = some r) :
    VCall Try.prog 81 [dM a0] [.sc (i64 r)] := by
  unfold i_length_LI at h
  refine VCall.enter Try.call81 Try.func81 rfl 5 Try.ntmps81 (by simp) [.tmp 2] rfl ?_
  show VW _ _ _ (mk [(0, .val (dM a0))]) _
  -- region 0
  refine VW.ws tau_ok Sound.none [some 2] [(0, .val (dM a0))] rfl ?_ ?_
  · simp <;> simp [ieq, ilt, ile]
  -- region 1
  refine VW.ws tau_ok Sound.none [some 3, some 4, some 2] [(2, .val (i64 (a0.length : Int)))] rfl ?_ ?_
  · simp <;> simp [ieq, ilt, ile]
  cases h
  refine VW.ret ?_
  simp [Post, PostM, PostC, PostC2, Nx, Bk]

theorem i_checkLoop_c1_ok {a0 : Int} {a1_0 : List (List Int)} {r : Bool} (h : i_checkLoop_c1 a0 a1_0 = some r) :
    VCall Try.prog 159 [i64 a0, .ptr [dM a1_0]] [.sc (.bool r)] := by
  unfold i_checkLoop_c1 at h
  refine VCall.enter Try.call159 Try.func159 rfl 10 Try.ntmps159 (by simp) [.tmp 3] rfl ?_
  show VW _ _ _ (mk [(0, .val (i64 a0)), (1, .val (.ptr [dM a1_0]))]) _
  -- region 0
  refine VW.ws tau_ok Sound.none [some 3] [(0, .val (i64 a0)), (1, .val (.ptr [dM a1_0]))] rfl ?_ ?_
  · simp <;> simp [ieq, ilt, ile]
  -- region 1
  obtain ⟨v1, hv1, h⟩ := bind_some h
  obtain ⟨v2, hv2, h⟩ := bind_some h
  refine VW.ws tau_ok ((Sound.none.add 6 (i_length_LI_ok hv1) rfl).add 8 (i_inRange_ok hv2) rfl) [some 4, some 5, some 6, some 7, some 8, some 9, some 3] [(3, .val (.bool (!v2)))] rfl ?_ ?_
  · simp <;> simp [ieq, ilt, ile]
  cases h
  refine VW.ret ?_
  simp [Post, PostM, PostC, PostC2, Nx, Bk]

theorem g_slices_IndexFunc_LI_I_of_i_checkLoop_c1_ok {a0 : List Int} {a1_0_0 : List (List Int)} {r : Int} (h : g_slices_IndexFunc_LI_I_of_i_checkLoop_c1 a0 a1_0_0 = some r) :
    VCall Try.prog 163 [dI a0, .fn 159 [.ptr [dM a1_0_0]]] [.sc (i64 r)] := by
  unfold g_slices_IndexFunc_LI_I_of_i_checkLoop_c1 at h
  refine VCall.enter Try.call163 Try.func163 rfl 19 Try.ntmps163 (by simp) [.tmp 4] rfl ?_
  show VW _ _ _ (mk [(0, .val (dI a0)), (1, .val (.fn 159 [.ptr [dM a1_0_0]]))]) _
  -- region 0
  refine VW.ws tau_ok Sound.none [some 4] [(0, .val (dI a0)), (1, .val (.fn 159 [.ptr [dM a1_0_0]]))] rfl ?_ ?_
  · simp <;> simp [ieq, ilt, ile]
  refine VW.sqc fun K1 hK1 hCK1 => ?_
  -- region 1
  refine VW.ws tau_ok Sound.none [some 6, some 7, some 8] [(0, .val (dI a0)), (1, .val (.fn 159 [.ptr [dM a1_0_0]])), (7, .val (i64 (a0.length : Int))), (8, .val (i64 0))] rfl ?_ ?_
  · simp <;> simp [ieq, ilt, ile]
  obtain ⟨x2, hx2, h⟩ := bind_some h
  refine VW.tlO (fun y4 => []) x2 (hCK1) ?_ ?_
  · clear hx2
    rintro y4 rfl
    dsimp only at h
    refine hK1 _ ?_
    -- region 7
    refine VW.ws tau_ok Sound.none [some 4] [(4, .val (i64 (-1)))] rfl ?_ ?_
    · simp <;> simp [ieq, ilt, ile]
    cases h
    refine VW.ret ?_
    simp [Post, PostM, PostC, PostC2, Nx, Bk]
  refine VW.block ?_
  refine VW.loopF (g_slices_IndexFunc_LI_I_of_i_checkLoop_c1_L0 a0 a1_0_0) (fun s2 => [(0, .val (dI a0)), (1, .val (.fn 159 [.ptr [dM a1_0_0]])), (7, .val (i64 (a0.length : Int))), (8, .val (i64 s2))]) hx2 (Fits.of rfl) ?_
  clear hx2
  intro s2 ox2 hx2o hx2b
  unfold g_slices_IndexFunc_LI_I_of_i_checkLoop_c1_L0 at hx2o
  -- region 2
  refine VW.ws tau_ok Sound.none [some 9] [(0, .val (dI a0)), (1, .val (.fn 159 [.ptr [dM a1_0_0]])), (7, .val (i64 (a0.length : Int))), (8, .val (i64 s2)), (9, .val (.bool (ilt s2 (a0.length : Int))))] rfl ?_ ?_
  · simp <;> simp [ieq, ilt, ile]
  refine VW.sqc fun K5 hK5 hCK5 => ?_
  refine VW.cond rfl (fun hb6 => ?_) (fun hb6 => ?_)
  rotate_left
  ·
    replace hb6 : ¬ (s2 < (a0.length : Int)) := by simpa [ieq, ilt, ile] using hb6
    rw [if_neg hb6] at hx2o
    refine VW.exit ?_
    cases hx2o
    have hq := hx2b _ rfl
    subst hq
    exact ⟨_, rfl, Fits.of rfl⟩
  replace hb6 : s2 < (a0.length : Int) := by simpa [ieq, ilt, ile] using hb6
  rw [if_pos hb6] at hx2o
  refine VW.skip ?_
  refine hK5 _ ?_
  refine VW.sqc fun K7 hK7 hCK7 => ?_
  refine VW.block ?_
  -- region 3
  refine VW.ws tau_ok Sound.none [some 10, some 5] [(0, .val (dI a0)), (1, .val (.fn 159 [.ptr [dM a1_0_0]])), (5, .val (i64 s2)), (7, .val (i64 (a0.length : Int))), (8, .val (i64 s2))] rfl ?_ ?_
  · simp <;> simp [ieq, ilt, ile]
  -- region 4
  obtain ⟨v8, hv8, hx2o⟩ := bind_some hx2o
  obtain ⟨hv8a, hv8b, hv8c, hv8d⟩ := idx_some hv8
  obtain ⟨v9, hv9, hx2o⟩ := bind_some hx2o
  refine VW.ws tau_ok (Sound.none.add 16 (i_checkLoop_c1_ok hv9) rfl) [some 11, some 12, some 13, some 14, some 15, some 16] [(0, .val (dI a0)), (1, .val (.fn 159 [.ptr [dM a1_0_0]])), (5, .val (i64 s2)), (7, .val (i64 (a0.length : Int))), (8, .val (i64 s2)), (16, .val (.bool v9))] rfl ?_ ?_
  · simp [hv8a, hv8b, hv8c, hv8d] <;> simp [ieq, ilt, ile]
  refine VW.cond rfl (fun hb10 => ?_) (fun hb10 => ?_)
  rotate_left
  ·
    replace hb10 : ¬ (v9 = true) := by simpa [ieq, ilt, ile] using hb10
    rw [if_neg hb10] at hx2o
    refine VW.skip ?_
    refine hK7 _ ?_
    -- region 6
    refine VW.wr tau_ok Sound.none [some 18, some 8] [(0, .val (dI a0)), (1, .val (.fn 159 [.ptr [dM a1_0_0]])), (7, .val (i64 (a0.length : Int))), (8, .val (i64 (w64 (s2 + 1))))] rfl ?_ ?_
    · simp <;> simp [ieq, ilt, ile]
    cases hx2o
    exact ⟨_, rfl, Fits.of rfl⟩
  replace hb10 : v9 = true := by simpa [ieq, ilt, ile] using hb10
  rw [if_pos hb10] at hx2o
  -- region 5
  refine VW.ws tau_ok Sound.none [some 17, some 4] [(4, .val (i64 s2))] rfl ?_ ?_
  · simp <;> simp [ieq, ilt, ile]
  cases hx2o
  have hq := hx2b _ rfl
  subst hq
  dsimp only at h
  cases h
  refine VW.ret ?_
  simp [Post, PostM, PostC, PostC2, Nx, Bk]

theorem g_slices_ContainsFunc_LI_I_of_i_checkLoop_c1_ok {a0 : List Int} {a1_0_0 : List (List Int)} {r : Bool} (h : g_slices_ContainsFunc_LI_I_of_i_checkLoop_c1 a0 a1_0_0 = some r) :
    VCall Try.prog 82 [dI a0, .fn 159 [.ptr [dM a1_0_0]]] [.sc (.bool r)] := by
  unfold g_slices_ContainsFunc_LI_I_of_i_checkLoop_c1 at h
  refine VCall.enter Try.call82 Try.func82 rfl 9 Try.ntmps82 (by simp) [.tmp 4] rfl ?_
  show VW _ _ _ (mk [(0, .val (dI a0)), (1, .val (.fn 159 [.ptr [dM a1_0_0]]))]) _
  -- region 0
  refine VW.ws tau_ok Sound.none [some 4] [(0, .val (dI a0)), (1, .val (.fn 159 [.ptr [dM a1_0_0]]))] rfl ?_ ?_
  · simp <;> simp [ieq, ilt, ile]
  -- region 1
  obtain ⟨v1, hv1, h⟩ := bind_some h
  refine VW.ws tau_ok (Sound.none.add 7 (g_slices_IndexFunc_LI_I_of_i_checkLoop_c1_ok hv1) rfl) [some 5, some 6, some 7, some 8, some 4] [(4, .val (.bool (ile 0 v1)))] rfl ?_ ?_
  · simp <;> simp [ieq, ilt, ile]
  cases h
  refine VW.ret ?_
  simp [Post, PostM, PostC, PostC2, Nx, Bk]

theorem i_checkLoop_ok {a0 : List (List Int)} {a1 : List Int} {r : Int} (h : i_checkLoop a0 a1 = some r) :
    VCall Try.prog 78 [dM a0, dI a1] [.sc (i64 r)] := by
  unfold i_checkLoop at h
  refine VCall.enter Try.call78 Try.func78 rfl 11 Try.ntmps78 (by simp) [.tmp 4] rfl ?_
  show VW _ _ _ (mk [(0, .val (dM a0)), (1, .val (dI a1))]) _
  -- region 0
  refine VW.ws tau_ok Sound.none [some 2, some 4] [(1, .val (dI a1)), (2, .val (.ptr [dM a0]))] rfl ?_ ?_
  · simp <;> simp [ieq, ilt, ile]
  refine VW.sqc fun K1 hK1 hCK1 => ?_
  -- region 1
  obtain ⟨v2, hv2, h⟩ := bind_some h
  refine VW.ws tau_ok (Sound.none.add 6 (i_IsLoop_ok hv2) rfl) [some 5, some 6, some 7] [(1, .val (dI a1)), (2, .val (.ptr [dM a0])), (7, .val (.bool (!v2)))] rfl ?_ ?_
  · simp <;> simp [ieq, ilt, ile]
  refine VW.cond rfl (fun hb3 => ?_) (fun hb3 => ?_)
  ·
    replace hb3 : v2 = false := by simpa [ieq, ilt, ile] using hb3
    rw [if_pos hb3] at h
    -- region 2
    refine VW.ws tau_ok Sound.none [some 4] [(4, .val (i64 1))] rfl ?_ ?_
    · simp <;> simp [ieq, ilt, ile]
    cases h
    refine VW.ret ?_
    simp [Post, PostM, PostC, PostC2, Nx, Bk]
  replace hb3 : ¬ (v2 = false) := by simpa [ieq, ilt, ile] using hb3
  rw [if_neg hb3] at h
  refine VW.skip ?_
  refine hK1 _ ?_
  refine VW.sqc fun K4 hK4 hCK4 => ?_
  -- region 3
  obtain ⟨v5, hv5, h⟩ := bind_some h
  refine VW.ws tau_ok (Sound.none.add 10 (g_slices_ContainsFunc_LI_I_of_i_checkLoop_c1_ok hv5) rfl) [some 8, some 9, some 10] [(10, .val (.bool v5))] rfl ?_ ?_
  · simp <;> simp [ieq, ilt, ile]
  refine VW.cond rfl (fun hb6 => ?_) (fun hb6 => ?_)
  ·
    replace hb6 : v5 = true := by simpa [ieq, ilt, ile] using hb6
    rw [if_pos hb6] at h
    -- region 4
    refine VW.ws tau_ok Sound.none [some 4] [(4, .val (i64 2))] rfl ?_ ?_
    · simp <;> simp [ieq, ilt, ile]
    cases h
    refine VW.ret ?_
    simp [Post, PostM, PostC, PostC2, Nx, Bk]
  replace hb6 : ¬ (v5 = true) := by simpa [ieq, ilt, ile] using hb6
  rw [if_neg hb6] at h
  refine VW.skip ?_
  refine hK4 _ ?_
  -- region 5
  refine VW.ws tau_ok Sound.none [some 4] [(4, .val (i64 0))] rfl ?_ ?_
  · simp <;> simp [ieq, ilt, ile]
  cases h
  refine VW.ret ?_
  simp [Post, PostM, PostC, PostC2, Nx, Bk]

theorem i_associates_ok {a0 : List (List Int)} {a1 : Int} {a2 : Int} {a3 : Int} {r : Bool} (h : i_associates a0 a1 a2 a3 = some r) :
    VCall Try.prog 84 [dM a0, i64 a1, i64 a2, i64 a3] [.sc (.bool r)] := by
  unfold i_associates at h
  refine VCall.enter Try.call84 Try.func84 rfl 36 Try.ntmps84 (by simp) [.tmp 8] rfl ?_
  show VW _ _ _ (mk [(0, .val (dM a0)), (1, .val (i64 a1)), (2, .val (i64 a2)), (3, .val (i64 a3))]) _
  -- region 0
  refine VW.ws tau_ok Sound.none [some 8] [(0, .val (dM a0)), (1, .val (i64 a1)), (2, .val (i64 a2)), (3, .val (i64 a3))] rfl ?_ ?_
  · simp <;> simp [ieq, ilt, ile]
  -- region 1
  obtain ⟨v1, hv1, h⟩ := bind_some h
  obtain ⟨hv1a, hv1b, hv1c, hv1d⟩ := idx_some hv1
  obtain ⟨v2, hv2, h⟩ := bind_some h
  obtain ⟨hv2a, hv2b, hv2c, hv2d⟩ := idx_some hv2
  obtain ⟨v3, hv3, h⟩ := bind_some h
  obtain ⟨hv3a, hv3b, hv3c, hv3d⟩ := idx_some hv3
  obtain ⟨v4, hv4, h⟩ := bind_some h
  obtain ⟨hv4a, hv4b, hv4c, hv4d⟩ := idx_some hv4
  obtain ⟨v5, hv5, h⟩ := bind_some h
  obtain ⟨hv5a, hv5b, hv5c, hv5d⟩ := idx_some hv5
  obtain ⟨v6, hv6, h⟩ := bind_some h
  obtain ⟨hv6a, hv6b, hv6c, hv6d⟩ := idx_some hv6
  obtain ⟨v7, hv7, h⟩ := bind_some h
  obtain ⟨hv7a, hv7b, hv7c, hv7d⟩ := idx_some hv7
  refine VW.wds tau_ok Sound.none try_mixed [some 9, some 10, some 11, some 12, some 13, some 14, some 15, some 16, some 17, some 18, some 19, some 20, some 21, some 22, some 23, some 24, some 25, some 26, some 27, some 28, some 29, some 30, some 31, some 32, some 33, some 34, some 35, some 8] [(8, .val (.bool (ieq v4 v7)))] 28 rfl (by kernel_rfl) (by rfl) ?_ ?_
  · simp [hv1a, hv1b, hv1c, hv1d, hv2a, hv2b, hv2c, hv2d, hv3a, hv3b, hv3c, hv3d, hv4a, hv4b, hv4c, hv4d, hv5a, hv5b, hv5c, hv5d, hv6a, hv6b, hv6c, hv6d, hv7a, hv7b, hv7c, hv7d] <;> simp [ieq, ilt, ile]
  cases h
  refine VW.ret ?_
  simp [Post, PostM, PostC, PostC2, Nx, Bk]

theorem i_IsAssociativeLoop_c1_ok {a0 : Int} {a1 : Int} {a2 : Int} {a3_0 : List (List Int)} {r : Bool} (h : i_IsAssociativeLoop_c1 a0 a1 a2 a3_0 = some r) :
    VCall Try.prog 97 [i64 a0, i64 a1, i64 a2, .ptr [dM a3_0]] [.sc (.bool r)] := by
  unfold i_IsAssociativeLoop_c1 at h
  refine VCall.enter Try.call97 Try.func97 rfl 13 Try.ntmps97 (by simp) [.tmp 7] rfl ?_
  show VW _ _ _ (mk [(0, .val (i64 a0)), (1, .val (i64 a1)), (2, .val (i64 a2)), (3, .val (.ptr [dM a3_0]))]) _
  -- region 0
  refine VW.ws tau_ok Sound.none [some 7] [(0, .val (i64 a0)), (1, .val (i64 a1)), (2, .val (i64 a2)), (3, .val (.ptr [dM a3_0]))] rfl ?_ ?_
  · simp <;> simp [ieq, ilt, ile]
  -- region 1
  obtain ⟨v1, hv1, h⟩ := bind_some h
  refine VW.ws tau_ok (Sound.none.add 12 (i_associates_ok hv1) rfl) [some 8, some 9, some 10, some 11, some 12, some 7] [(7, .val (.bool v1))] rfl ?_ ?_
  · simp <;> simp [ieq, ilt, ile]
  cases h
  refine VW.ret ?_
  simp [Post, PostM, PostC, PostC2, Nx, Bk]

theorem i_loopTriples_of_i_IsAssociativeLoop_c1_ok {a0 : List (List Int)} {a1_0_0 : List (List Int)} {r : Bool} (h : i_loopTriples_of_i_IsAssociativeLoop_c1 a0 a1_0_0 = some r) :
    VCall Try.prog 96 [dM a0, .fn 97 [.ptr [dM a1_0_0]]] [.sc (.bool r)] := by
  unfold i_loopTriples_of_i_IsAssociativeLoop_c1 at h
  refine VCall.enter Try.call96 Try.func96 rfl 32 Try.ntmps96 (by simp) [.tmp 4] rfl ?_
  show VW _ _ _ (mk [(0, .val (dM a0)), (1, .val (.fn 97 [.ptr [dM a1_0_0]]))]) _
  -- region 0
  refine VW.ws tau_ok Sound.none [some 4] [(0, .val (dM a0)), (1, .val (.fn 97 [.ptr [dM a1_0_0]]))] rfl ?_ ?_
  · simp <;> simp [ieq, ilt, ile]
  refine VW.sqc fun K1 hK1 hCK1 => ?_
  -- region 1
  obtain ⟨v2, hv2, h⟩ := bind_some h
  refine VW.ws tau_ok (Sound.none.add 9 (i_length_LI_ok hv2) rfl) [some 8, some 9, some 10] [(0, .val (dM a0)), (1, .val (.fn 97 [.ptr [dM a1_0_0]])), (9, .val (i64 v2)), (10, .val (i64 0))] rfl ?_ ?_
  · simp <;> simp [ieq, ilt, ile]
  obtain ⟨x3, hx3, h⟩ := bind_some h
  refine VW.tlO (fun y5 => []) x3 (hCK1) ?_ ?_
  · clear hx3
    rintro y5 rfl
    dsimp only at h
    refine hK1 _ ?_
    -- region 15
    refine VW.ws tau_ok Sound.none [some 4] [(4, .val (.bool true))] rfl ?_ ?_
    · simp <;> simp [ieq, ilt, ile]
    cases h
    refine VW.ret ?_
    simp [Post, PostM, PostC, PostC2, Nx, Bk]
  refine VW.block ?_
  refine VW.loopF (i_loopTriples_of_i_IsAssociativeLoop_c1_L0 a0 a1_0_0 v2) (fun s3 => [(0, .val (dM a0)), (1, .val (.fn 97 [.ptr [dM a1_0_0]])), (9, .val (i64 v2)), (10, .val (i64 s3))]) hx3 (Fits.of rfl) ?_
  clear hx3
  intro s3 ox3 hx3o hx3b
  unfold i_loopTriples_of_i_IsAssociativeLoop_c1_L0 at hx3o
  -- region 2
  refine VW.ws tau_ok Sound.none [some 11] [(0, .val (dM a0)), (1, .val (.fn 97 [.ptr [dM a1_0_0]])), (9, .val (i64 v2)), (10, .val (i64 s3)), (11, .val (.bool (ilt s3 v2)))] rfl ?_ ?_
  · simp <;> simp [ieq, ilt, ile]
  refine VW.sqc fun K6 hK6 hCK6 => ?_
  refine VW.cond rfl (fun hb7 => ?_) (fun hb7 => ?_)
  rotate_left
  ·
    replace hb7 : ¬ (s3 < v2) := by simpa [ieq, ilt, ile] using hb7
    rw [if_neg hb7] at hx3o
    refine VW.exit ?_
    cases hx3o
    have hq := hx3b _ rfl
    subst hq
    exact ⟨_, rfl, Fits.of rfl⟩
  replace hb7 : s3 < v2 := by simpa [ieq, ilt, ile] using hb7
  rw [if_pos hb7] at hx3o
  refine VW.skip ?_
  refine hK6 _ ?_
  refine VW.sqc fun K8 hK8 hCK8 => ?_
  refine VW.block ?_
  -- region 3
  refine VW.ws tau_ok Sound.none [some 12, some 5] [(0, .val (dM a0)), (1, .val (.fn 97 [.ptr [dM a1_0_0]])), (5, .val (i64 s3)), (9, .val (i64 v2)), (10, .val (i64 s3))] rfl ?_ ?_
  · simp <;> simp [ieq, ilt, ile]
  -- region 4
  obtain ⟨v9, hv9, hx3o⟩ := bind_some hx3o
  refine VW.ws tau_ok (Sound.none.add 14 (i_length_LI_ok hv9) rfl) [some 13, some 14, some 15] [(0, .val (dM a0)), (1, .val (.fn 97 [.ptr [dM a1_0_0]])), (5, .val (i64 s3)), (9, .val (i64 v2)), (10, .val (i64 s3)), (14, .val (i64 v9)), (15, .val (i64 0))] rfl ?_ ?_
  · simp <;> simp [ieq, ilt, ile]
  obtain ⟨x10, hx10, hx3o⟩ := bind_some hx3o
  refine VW.tlO (fun y12 => [(0, .val (dM a0)), (1, .val (.fn 97 [.ptr [dM a1_0_0]])), (9, .val (i64 v2)), (10, .val (i64 s3))]) x10 (hCK8) ?_ ?_
  · clear hx10
    rintro y12 rfl
    dsimp only at hx3o
    refine hK8 _ ?_
    -- region 14
    refine VW.wr tau_ok Sound.none [some 31, some 10] [(0, .val (dM a0)), (1, .val (.fn 97 [.ptr [dM a1_0_0]])), (9, .val (i64 v2)), (10, .val (i64 (w64 (s3 + 1))))] rfl ?_ ?_
    · simp <;> simp [ieq, ilt, ile]
    cases hx3o
    exact ⟨_, rfl, Fits.of rfl⟩
  refine VW.block ?_
  refine VW.loopF (i_loopTriples_of_i_IsAssociativeLoop_c1_L1 a0 a1_0_0 s3 v9) (fun s10 => [(0, .val (dM a0)), (1, .val (.fn 97 [.ptr [dM a1_0_0]])), (5, .val (i64 s3)), (9, .val (i64 v2)), (10, .val (i64 s3)), (14, .val (i64 v9)), (15, .val (i64 s10))]) hx10 (Fits.of rfl) ?_
  clear hx10
  intro s10 ox10 hx10o hx10b
  unfold i_loopTriples_of_i_IsAssociativeLoop_c1_L1 at hx10o
  -- region 5
  refine VW.ws tau_ok Sound.none [some 16] [(0, .val (dM a0)), (1, .val (.fn 97 [.ptr [dM a1_0_0]])), (5, .val (i64 s3)), (9, .val (i64 v2)), (10, .val (i64 s3)), (14, .val (i64 v9)), (15, .val (i64 s10)), (16, .val (.bool (ilt s10 v9)))] rfl ?_ ?_
  · simp <;> simp [ieq, ilt, ile]
  refine VW.sqc fun K13 hK13 hCK13 => ?_
  refine VW.cond rfl (fun hb14 => ?_) (fun hb14 => ?_)
  rotate_left
  ·
    replace hb14 : ¬ (s10 < v9) := by simpa [ieq, ilt, ile] using hb14
    rw [if_neg hb14] at hx10o
    refine VW.exit ?_
    cases hx10o
    have hq := hx10b _ rfl
    subst hq
    exact ⟨_, rfl, Fits.of rfl⟩
  replace hb14 : s10 < v9 := by simpa [ieq, ilt, ile] using hb14
  rw [if_pos hb14] at hx10o
  refine VW.skip ?_
  refine hK13 _ ?_
  refine VW.sqc fun K15 hK15 hCK15 => ?_
  refine VW.block ?_
  -- region 6
  refine VW.ws tau_ok Sound.none [some 17, some 6] [(0, .val (dM a0)), (1, .val (.fn 97 [.ptr [dM a1_0_0]])), (5, .val (i64 s3)), (6, .val (i64 s10)), (9, .val (i64 v2)), (10, .val (i64 s3)), (14, .val (i64 v9)), (15, .val (i64 s10))] rfl ?_ ?_
  · simp <;> simp [ieq, ilt, ile]
  -- region 7
  obtain ⟨v16, hv16, hx10o⟩ := bind_some hx10o
  refine VW.ws tau_ok (Sound.none.add 19 (i_length_LI_ok hv16) rfl) [some 18, some 19, some 20] [(0, .val (dM a0)), (1, .val (.fn 97 [.ptr [dM a1_0_0]])), (5, .val (i64 s3)), (6, .val (i64 s10)), (9, .val (i64 v2)), (10, .val (i64 s3)), (14, .val (i64 v9)), (15, .val (i64 s10)), (19, .val (i64 v16)), (20, .val (i64 0))] rfl ?_ ?_
  · simp <;> simp [ieq, ilt, ile]
  obtain ⟨x17, hx17, hx10o⟩ := bind_some hx10o
  refine VW.tlO (fun y19 => [(0, .val (dM a0)), (1, .val (.fn 97 [.ptr [dM a1_0_0]])), (5, .val (i64 s3)), (9, .val (i64 v2)), (10, .val (i64 s3)), (14, .val (i64 v9)), (15, .val (i64 s10))]) x17 (hCK15) ?_ ?_
  · clear hx17
    rintro y19 rfl
    dsimp only at hx10o
    refine hK15 _ ?_
    -- region 13
    refine VW.wr tau_ok Sound.none [some 30, some 15] [(0, .val (dM a0)), (1, .val (.fn 97 [.ptr [dM a1_0_0]])), (5, .val (i64 s3)), (9, .val (i64 v2)), (10, .val (i64 s3)), (14, .val (i64 v9)), (15, .val (i64 (w64 (s10 + 1))))] rfl ?_ ?_
    · simp <;> simp [ieq, ilt, ile]
    cases hx10o
    exact ⟨_, rfl, Fits.of rfl⟩
  refine VW.block ?_
  refine VW.loopF (i_loopTriples_of_i_IsAssociativeLoop_c1_L2 a1_0_0 s3 s10 v16) (fun s17 => [(0, .val (dM a0)), (1, .val (.fn 97 [.ptr [dM a1_0_0]])), (5, .val (i64 s3)), (6, .val (i64 s10)), (9, .val (i64 v2)), (10, .val (i64 s3)), (14, .val (i64 v9)), (15, .val (i64 s10)), (19, .val (i64 v16)), (20, .val (i64 s17))]) hx17 (Fits.of rfl) ?_
  clear hx17
  intro s17 ox17 hx17o hx17b
  unfold i_loopTriples_of_i_IsAssociativeLoop_c1_L2 at hx17o
  -- region 8
  refine VW.ws tau_ok Sound.none [some 21] [(0, .val (dM a0)), (1, .val (.fn 97 [.ptr [dM a1_0_0]])), (5, .val (i64 s3)), (6, .val (i64 s10)), (9, .val (i64 v2)), (10, .val (i64 s3)), (14, .val (i64 v9)), (15, .val (i64 s10)), (19, .val (i64 v16)), (20, .val (i64 s17)), (21, .val (.bool (ilt s17 v16)))] rfl ?_ ?_
  · simp <;> simp [ieq, ilt, ile]
  refine VW.sqc fun K20 hK20 hCK20 => ?_
  refine VW.cond rfl (fun hb21 => ?_) (fun hb21 => ?_)
  rotate_left
  ·
    replace hb21 : ¬ (s17 < v16) := by simpa [ieq, ilt, ile] using hb21
    rw [if_neg hb21] at hx17o
    refine VW.exit ?_
    cases hx17o
    have hq := hx17b _ rfl
    subst hq
    exact ⟨_, rfl, Fits.of rfl⟩
  replace hb21 : s17 < v16 := by simpa [ieq, ilt, ile] using hb21
  rw [if_pos hb21] at hx17o
  refine VW.skip ?_
  refine hK20 _ ?_
  refine VW.sqc fun K22 hK22 hCK22 => ?_
  refine VW.block ?_
  -- region 9
  refine VW.ws tau_ok Sound.none [some 22, some 7] [(0, .val (dM a0)), (1, .val (.fn 97 [.ptr [dM a1_0_0]])), (5, .val (i64 s3)), (6, .val (i64 s10)), (7, .val (i64 s17)), (9, .val (i64 v2)), (10, .val (i64 s3)), (14, .val (i64 v9)), (15, .val (i64 s10)), (19, .val (i64 v16)), (20, .val (i64 s17))] rfl ?_ ?_
  · simp <;> simp [ieq, ilt, ile]
  -- region 10
  obtain ⟨v23, hv23, hx17o⟩ := bind_some hx17o
  refine VW.ws tau_ok (Sound.none.add 27 (i_IsAssociativeLoop_c1_ok hv23) rfl) [some 23, some 24, some 25, some 26, some 27, some 28] [(0, .val (dM a0)), (1, .val (.fn 97 [.ptr [dM a1_0_0]])), (5, .val (i64 s3)), (6, .val (i64 s10)), (9, .val (i64 v2)), (10, .val (i64 s3)), (14, .val (i64 v9)), (15, .val (i64 s10)), (19, .val (i64 v16)), (20, .val (i64 s17)), (28, .val (.bool (!v23)))] rfl ?_ ?_
  · simp <;> simp [ieq, ilt, ile]
  refine VW.cond rfl (fun hb24 => ?_) (fun hb24 => ?_)
  rotate_left
  ·
    replace hb24 : ¬ (v23 = false) := by simpa [ieq, ilt, ile] using hb24
    rw [if_neg hb24] at hx17o
    refine VW.skip ?_
    refine hK22 _ ?_
    -- region 12
    refine VW.wr tau_ok Sound.none [some 29, some 20] [(0, .val (dM a0)), (1, .val (.fn 97 [.ptr [dM a1_0_0]])), (5, .val (i64 s3)), (6, .val (i64 s10)), (9, .val (i64 v2)), (10, .val (i64 s3)), (14, .val (i64 v9)), (15, .val (i64 s10)), (19, .val (i64 v16)), (20, .val (i64 (w64 (s17 + 1))))] rfl ?_ ?_
    · simp <;> simp [ieq, ilt, ile]
    cases hx17o
    exact ⟨_, rfl, Fits.of rfl⟩
  replace hb24 : v23 = false := by simpa [ieq, ilt, ile] using hb24
  rw [if_pos hb24] at hx17o
  -- region 11
  refine VW.ws tau_ok Sound.none [some 4] [(4, .val (.bool false))] rfl ?_ ?_
  · simp <;> simp [ieq, ilt, ile]
  cases hx17o
  have hq := hx17b _ rfl
  subst hq
  dsimp only at hx10o
  cases hx10o
  have hq := hx10b _ rfl
  subst hq
  dsimp only at hx3o
  cases hx3o
  have hq := hx3b _ rfl
  subst hq
  dsimp only at h
  cases h
  refine VW.ret ?_
  simp [Post, PostM, PostC, PostC2, Nx, Bk]

theorem i_IsAssociativeLoop_ok {a0 : List (List Int)} {r : Bool × Int} (h : i_IsAssociativeLoop a0 = some r) :
    VCall Try.prog 28 [dM a0] [.sc (.bool r.1), .sc (i64 r.2)] := by
  unfold i_IsAssociativeLoop at h
  refine VCall.enter Try.call28 Try.func28 rfl 13 Try.ntmps28 (by simp) [.tmp 2, .tmp 3] rfl ?_
  show VW _ _ _ (mk [(0, .val (dM a0))]) _
  -- region 0
  refine VW.ws tau_ok Sound.none [some 1, some 2, some 3] [(1, .val (.ptr [dM a0]))] rfl ?_ ?_
  · simp <;> simp [ieq, ilt, ile]
  refine VW.sqc fun K1 hK1 hCK1 => ?_
  -- region 1
  obtain ⟨v2, hv2, h⟩ := bind_some h
  refine VW.ws tau_ok (Sound.none.add 6 (i_checkLoop_ok hv2) rfl) [some 5, some 6, some 4] [(1, .val (.ptr [dM a0])), (4, .val (i64 v2))] rfl ?_ ?_
  · simp <;> simp [ieq, ilt, ile]
  -- region 2
  refine VW.ws tau_ok Sound.none [some 7, some 8] [(1, .val (.ptr [dM a0])), (4, .val (i64 v2)), (8, .val (.bool (!(ieq v2 0))))] rfl ?_ ?_
  · simp <;> simp [ieq, ilt, ile]
  refine VW.cond rfl (fun hb3 => ?_) (fun hb3 => ?_)
  ·
    replace hb3 : ¬ v2 = 0 := by simpa [ieq, ilt, ile] using hb3
    rw [if_pos hb3] at h
    -- region 3
    refine VW.ws tau_ok Sound.none [some 9, some 2, some 3] [(2, .val (.bool false)), (3, .val (i64 v2))] rfl ?_ ?_
    · simp <;> simp [ieq, ilt, ile]
    cases h
    refine VW.ret ?_
    simp [Post, PostM, PostC, PostC2, Nx, Bk]
  replace hb3 : ¬ (¬ v2 = 0) := by simpa [ieq, ilt, ile] using hb3
  rw [if_neg hb3] at h
  refine VW.skip ?_
  refine hK1 _ ?_
  -- region 4
  obtain ⟨v4, hv4, h⟩ := bind_some h
  refine VW.ws tau_ok (Sound.none.add 12 (i_loopTriples_of_i_IsAssociativeLoop_c1_ok hv4) rfl) [some 10, some 11, some 12, some 2, some 3] [(2, .val (.bool v4)), (3, .val (i64 0))] rfl ?_ ?_
  · simp <;> simp [ieq, ilt, ile]
  cases h
  refine VW.ret ?_
  simp [Post, PostM, PostC, PostC2, Nx, Bk]

theorem i_IsMoufangLoop_c1_ok {a0 : Int} {a1 : Int} {a2 : Int} {a3_0 : List (List Int)} {r : Bool} (h : i_IsMoufangLoop_c1 a0 a1 a2 a3_0 = some r) :
    VCall Try.prog 98 [i64 a0, i64 a1, i64 a2, .ptr [dM a3_0]] [.sc (.bool r)] := by
  unfold i_IsMoufangLoop_c1 at h
  refine VCall.enter Try.call98 Try.func98 rfl 47 Try.ntmps98 (by simp) [.tmp 7] rfl ?_
  show VW _ _ _ (mk [(0, .val (i64 a0)), (1, .val (i64 a1)), (2, .val (i64 a2)), (3, .val (.ptr [dM a3_0]))]) _
  -- region 0
  refine VW.ws tau_ok Sound.none [some 7] [(0, .val (i64 a0)), (1, .val (i64 a1)), (2, .val (i64 a2)), (3, .val (.ptr [dM a3_0]))] rfl ?_ ?_
  · simp <;> simp [ieq, ilt, ile]
  -- region 1
  obtain ⟨v1, hv1, h⟩ := bind_some h
  obtain ⟨hv1a, hv1b, hv1c, hv1d⟩ := idx_some hv1
  obtain ⟨v2, hv2, h⟩ := bind_some h
  obtain ⟨hv2a, hv2b, hv2c, hv2d⟩ := idx_some hv2
  obtain ⟨v3, hv3, h⟩ := bind_some h
  obtain ⟨hv3a, hv3b, hv3c, hv3d⟩ := idx_some hv3
  obtain ⟨v4, hv4, h⟩ := bind_some h
  obtain ⟨hv4a, hv4b, hv4c, hv4d⟩ := idx_some hv4
  obtain ⟨v5, hv5, h⟩ := bind_some h
  obtain ⟨hv5a, hv5b, hv5c, hv5d⟩ := idx_some hv5
  obtain ⟨v6, hv6, h⟩ := bind_some h
  obtain ⟨hv6a, hv6b, hv6c, hv6d⟩ := idx_some hv6
  obtain ⟨v7, hv7, h⟩ := bind_some h
  obtain ⟨hv7a, hv7b, hv7c, hv7d⟩ := idx_some hv7
  obtain ⟨v8, hv8, h⟩ := bind_some h
  obtain ⟨hv8a, hv8b, hv8c, hv8d⟩ := idx_some hv8
  obtain ⟨v9, hv9, h⟩ := bind_some h
  obtain ⟨hv9a, hv9b, hv9c, hv9d⟩ := idx_some hv9
  obtain ⟨v10, hv10, h⟩ := bind_some h
  obtain ⟨hv10a, hv10b, hv10c, hv10d⟩ := idx_some hv10
  obtain ⟨v11, hv11, h⟩ := bind_some h
  obtain ⟨hv11a, hv11b, hv11c, hv11d⟩ := idx_some hv11
  refine VW.wds tau_ok Sound.none try_mixed [some 8, some 9, some 10, some 11, some 12, some 13, some 14, some 15, some 16, some 17, some 18, some 19, some 20, some 21, some 22, some 23, some 24, some 25, some 26, some 27, some 28, some 29, some 30, some 31, some 32, some 33, some 34, some 35, some 36, some 37, some 38, some 39, some 40, some 41, some 42, some 43, some 44, some 45, some 46, some 7] [(7, .val (.bool (ieq v6 v11)))] 40 rfl (by kernel_rfl) (by rfl) ?_ ?_
  · simp [hv1a, hv1b, hv1c, hv1d, hv2a, hv2b, hv2c, hv2d, hv3a, hv3b, hv3c, hv3d, hv4a, hv4b, hv4c, hv4d, hv5a, hv5b, hv5c, hv5d, hv6a, hv6b, hv6c, hv6d, hv7a, hv7b, hv7c, hv7d, hv8a, hv8b, hv8c, hv8d, hv9a, hv9b, hv9c, hv9d, hv10a, hv10b, hv10c, hv10d, hv11a, hv11b, hv11c, hv11d] <;> simp [ieq, ilt, ile]
  cases h
  refine VW.ret ?_
  simp [Post, PostM, PostC, PostC2, Nx, Bk]

theorem i_loopTriples_of_i_IsMoufangLoop_c1_ok {a0 : List (List Int)} {a1_0_0 : List (List Int)} {r : Bool} (h : i_loopTriples_of_i_IsMoufangLoop_c1 a0 a1_0_0 = some r) :
    VCall Try.prog 96 [dM a0, .fn 98 [.ptr [dM a1_0_0]]] [.sc (.bool r)] := by
  unfold i_loopTriples_of_i_IsMoufangLoop_c1 at h
  refine VCall.enter Try.call96 Try.func96 rfl 32 Try.ntmps96 (by simp) [.tmp 4] rfl ?_
  show VW _ _ _ (mk [(0, .val (dM a0)), (1, .val (.fn 98 [.ptr [dM a1_0_0]]))]) _
  -- region 0
  refine VW.ws tau_ok Sound.none [some 4] [(0, .val (dM a0)), (1, .val (.fn 98 [.ptr [dM a1_0_0]]))] rfl ?_ ?_
  · simp <;> simp [ieq, ilt, ile]
  refine VW.sqc fun K1 hK1 hCK1 => ?_
  -- region 1
  obtain ⟨v2, hv2, h⟩ := bind_some h
  refine VW.ws tau_ok (Sound.none.add 9 (i_length_LI_ok hv2) rfl) [some 8, some 9, some 10] [(0, .val (dM a0)), (1, .val (.fn 98 [.ptr [dM a1_0_0]])), (9, .val (i64 v2)), (10, .val (i64 0))] rfl ?_ ?_
  · simp <;> simp [ieq, ilt, ile]
  obtain ⟨x3, hx3, h⟩ := bind_some h
  refine VW.tlO (fun y5 => []) x3 (hCK1) ?_ ?_
  · clear hx3
    rintro y5 rfl
    dsimp only at h
    refine hK1 _ ?_
    -- region 15
    refine VW.ws tau_ok Sound.none [some 4] [(4, .val (.bool true))] rfl ?_ ?_
    · simp <;> simp [ieq, ilt, ile]
    cases h
    refine VW.ret ?_
    simp [Post, PostM, PostC, PostC2, Nx, Bk]
  refine VW.block ?_
  refine VW.loopF (i_loopTriples_of_i_IsMoufangLoop_c1_L0 a0 a1_0_0 v2) (fun s3 => [(0, .val (dM a0)), (1, .val (.fn 98 [.ptr [dM a1_0_0]])), (9, .val (i64 v2)), (10, .val (i64 s3))]) hx3 (Fits.of rfl) ?_
  clear hx3
  intro s3 ox3 hx3o hx3b
  unfold i_loopTriples_of_i_IsMoufangLoop_c1_L0 at hx3o
  -- region 2
  refine VW.ws tau_ok Sound.none [some 11] [(0, .val (dM a0)), (1, .val (.fn 98 [.ptr [dM a1_0_0]])), (9, .val (i64 v2)), (10, .val (i64 s3)), (11, .val (.bool (ilt s3 v2)))] rfl ?_ ?_
  · simp <;> simp [ieq, ilt, ile]
  refine VW.sqc fun K6 hK6 hCK6 => ?_
  refine VW.cond rfl (fun hb7 => ?_) (fun hb7 => ?_)
  rotate_left
  ·
    replace hb7 : ¬ (s3 < v2) := by simpa [ieq, ilt, ile] using hb7
    rw [if_neg hb7] at hx3o
    refine VW.exit ?_
    cases hx3o
    have hq := hx3b _ rfl
    subst hq
    exact ⟨_, rfl, Fits.of rfl⟩
  replace hb7 : s3 < v2 := by simpa [ieq, ilt, ile] using hb7
  rw [if_pos hb7] at hx3o
  refine VW.skip ?_
  refine hK6 _ ?_
  refine VW.sqc fun K8 hK8 hCK8 => ?_
  refine VW.block ?_
  -- region 3
  refine VW.ws tau_ok Sound.none [some 12, some 5] [(0, .val (dM a0)), (1, .val (.fn 98 [.ptr [dM a1_0_0]])), (5, .val (i64 s3)), (9, .val (i64 v2)), (10, .val (i64 s3))] rfl ?_ ?_
  · simp <;> simp [ieq, ilt, ile]
  -- region 4
  obtain ⟨v9, hv9, hx3o⟩ := bind_some hx3o
  refine VW.ws tau_ok (Sound.none.add 14 (i_length_LI_ok hv9) rfl) [some 13, some 14, some 15] [(0, .val (dM a0)), (1, .val (.fn 98 [.ptr [dM a1_0_0]])), (5, .val (i64 s3)), (9, .val (i64 v2)), (10, .val (i64 s3)), (14, .val (i64 v9)), (15, .val (i64 0))] rfl ?_ ?_
  · simp <;> simp [ieq, ilt, ile]
  obtain ⟨x10, hx10, hx3o⟩ := bind_some hx3o
  refine VW.tlO (fun y12 => [(0, .val (dM a0)), (1, .val (.fn 98 [.ptr [dM a1_0_0]])), (9, .val (i64 v2)), (10, .val (i64 s3))]) x10 (hCK8) ?_ ?_
  · clear hx10
    rintro y12 rfl
    dsimp only at hx3o
    refine hK8 _ ?_
    -- region 14
    refine VW.wr tau_ok Sound.none [some 31, some 10] [(0, .val (dM a0)), (1, .val (.fn 98 [.ptr [dM a1_0_0]])), (9, .val (i64 v2)), (10, .val (i64 (w64 (s3 + 1))))] rfl ?_ ?_
    · simp <;> simp [ieq, ilt, ile]
    cases hx3o
    exact ⟨_, rfl, Fits.of rfl⟩
  refine VW.block ?_
  refine VW.loopF (i_loopTriples_of_i_IsMoufangLoop_c1_L1 a0 a1_0_0 s3 v9) (fun s10 => [(0, .val (dM a0)), (1, .val (.fn 98 [.ptr [dM a1_0_0]])), (5, .val (i64 s3)), (9, .val (i64 v2)), (10, .val (i64 s3)), (14, .val (i64 v9)), (15, .val (i64 s10))]) hx10 (Fits.of rfl) ?_
  clear hx10
  intro s10 ox10 hx10o hx10b
  unfold i_loopTriples_of_i_IsMoufangLoop_c1_L1 at hx10o
  -- region 5
  refine VW.ws tau_ok Sound.none [some 16] [(0, .val (dM a0)), (1, .val (.fn 98 [.ptr [dM a1_0_0]])), (5, .val (i64 s3)), (9, .val (i64 v2)), (10, .val (i64 s3)), (14, .val (i64 v9)), (15, .val (i64 s10)), (16, .val (.bool (ilt s10 v9)))] rfl ?_ ?_
  · simp <;> simp [ieq, ilt, ile]
  refine VW.sqc fun K13 hK13 hCK13 => ?_
  refine VW.cond rfl (fun hb14 => ?_) (fun hb14 => ?_)
  rotate_left
  ·
    replace hb14 : ¬ (s10 < v9) := by simpa [ieq, ilt, ile] using hb14
    rw [if_neg hb14] at hx10o
    refine VW.exit ?_
    cases hx10o
    have hq := hx10b _ rfl
    subst hq
    exact ⟨_, rfl, Fits.of rfl⟩
  replace hb14 : s10 < v9 := by simpa [ieq, ilt, ile] using hb14
  rw [if_pos hb14] at hx10o
  refine VW.skip ?_
  refine hK13 _ ?_
  refine VW.sqc fun K15 hK15 hCK15 => ?_
  refine VW.block ?_
  -- region 6
  refine VW.ws tau_ok Sound.none [some 17, some 6] [(0, .val (dM a0)), (1, .val (.fn 98 [.ptr [dM a1_0_0]])), (5, .val (i64 s3)), (6, .val (i64 s10)), (9, .val (i64 v2)), (10, .val (i64 s3)), (14, .val (i64 v9)), (15, .val (i64 s10))] rfl ?_ ?_
  · simp <;> simp [ieq, ilt, ile]
  -- region 7
  obtain ⟨v16, hv16, hx10o⟩ := bind_some hx10o
  refine VW.ws tau_ok (Sound.none.add 19 (i_length_LI_ok hv16) rfl) [some 18, some 19, some 20] [(0, .val (dM a0)), (1, .val (.fn 98 [.ptr [dM a1_0_0]])), (5, .val (i64 s3)), (6, .val (i64 s10)), (9, .val (i64 v2)), (10, .val (i64 s3)), (14, .val (i64 v9)), (15, .val (i64 s10)), (19, .val (i64 v16)), (20, .val (i64 0))] rfl ?_ ?_
  · simp <;> simp [ieq, ilt, ile]
  obtain ⟨x17, hx17, hx10o⟩ := bind_some hx10o
  refine VW.tlO (fun y19 => [(0, .val (dM a0)), (1, .val (.fn 98 [.ptr [dM a1_0_0]])), (5, .val (i64 s3)), (9, .val (i64 v2)), (10, .val (i64 s3)), (14, .val (i64 v9)), (15, .val (i64 s10))]) x17 (hCK15) ?_ ?_
  · clear hx17
    rintro y19 rfl
    dsimp only at hx10o
    refine hK15 _ ?_
    -- region 13
    refine VW.wr tau_ok Sound.none [some 30, some 15] [(0, .val (dM a0)), (1, .val (.fn 98 [.ptr [dM a1_0_0]])), (5, .val (i64 s3)), (9, .val (i64 v2)), (10, .val (i64 s3)), (14, .val (i64 v9)), (15, .val (i64 (w64 (s10 + 1))))] rfl ?_ ?_
    · simp <;> simp [ieq, ilt, ile]
    cases hx10o
    exact ⟨_, rfl, Fits.of rfl⟩
  refine VW.block ?_
  refine VW.loopF (i_loopTriples_of_i_IsMoufangLoop_c1_L2 a1_0_0 s3 s10 v16) (fun s17 => [(0, .val (dM a0)), (1, .val (.fn 98 [.ptr [dM a1_0_0]])), (5, .val (i64 s3)), (6, .val (i64 s10)), (9, .val (i64 v2)), (10, .val (i64 s3)), (14, .val (i64 v9)), (15, .val (i64 s10)), (19, .val (i64 v16)), (20, .val (i64 s17))]) hx17 (Fits.of rfl) ?_
  clear hx17
  intro s17 ox17 hx17o hx17b
  unfold i_loopTriples_of_i_IsMoufangLoop_c1_L2 at hx17o
  -- region 8
  refine VW.ws tau_ok Sound.none [some 21] [(0, .val (dM a0)), (1, .val (.fn 98 [.ptr [dM a1_0_0]])), (5, .val (i64 s3)), (6, .val (i64 s10)), (9, .val (i64 v2)), (10, .val (i64 s3)), (14, .val (i64 v9)), (15, .val (i64 s10)), (19, .val (i64 v16)), (20, .val (i64 s17)), (21, .val (.bool (ilt s17 v16)))] rfl ?_ ?_
  · simp <;> simp [ieq, ilt, ile]
  refine VW.sqc fun K20 hK20 hCK20 => ?_
  refine VW.cond rfl (fun hb21 => ?_) (fun hb21 => ?_)
  rotate_left
  ·
    replace hb21 : ¬ (s17 < v16) := by simpa [ieq, ilt, ile] using hb21
    rw [if_neg hb21] at hx17o
    refine VW.exit ?_
    cases hx17o
    have hq := hx17b _ rfl
    subst hq
    exact ⟨_, rfl, Fits.of rfl⟩
  replace hb21 : s17 < v16 := by simpa [ieq, ilt, ile] using hb21
  rw [if_pos hb21] at hx17o
  refine VW.skip ?_
  refine hK20 _ ?_
  refine VW.sqc fun K22 hK22 hCK22 => ?_
  refine VW.block ?_
  -- region 9
  refine VW.ws tau_ok Sound.none [some 22, some 7] [(0, .val (dM a0)), (1, .val (.fn 98 [.ptr [dM a1_0_0]])), (5, .val (i64 s3)), (6, .val (i64 s10)), (7, .val (i64 s17)), (9, .val (i64 v2)), (10, .val (i64 s3)), (14, .val (i64 v9)), (15, .val (i64 s10)), (19, .val (i64 v16)), (20, .val (i64 s17))] rfl ?_ ?_
  · simp <;> simp [ieq, ilt, ile]
  -- region 10
  obtain ⟨v23, hv23, hx17o⟩ := bind_some hx17o
  refine VW.ws tau_ok (Sound.none.add 27 (i_IsMoufangLoop_c1_ok hv23) rfl) [some 23, some 24, some 25, some 26, some 27, some 28] [(0, .val (dM a0)), (1, .val (.fn 98 [.ptr [dM a1_0_0]])), (5, .val (i64 s3)), (6, .val (i64 s10)), (9, .val (i64 v2)), (10, .val (i64 s3)), (14, .val (i64 v9)), (15, .val (i64 s10)), (19, .val (i64 v16)), (20, .val (i64 s17)), (28, .val (.bool (!v23)))] rfl ?_ ?_
  · simp <;> simp [ieq, ilt, ile]
  refine VW.cond rfl (fun hb24 => ?_) (fun hb24 => ?_)
  rotate_left
  ·
    replace hb24 : ¬ (v23 = false) := by simpa [ieq, ilt, ile] using hb24
    rw [if_neg hb24] at hx17o
    refine VW.skip ?_
    refine hK22 _ ?_
    -- region 12
    refine VW.wr tau_ok Sound.none [some 29, some 20] [(0, .val (dM a0)), (1, .val (.fn 98 [.ptr [dM a1_0_0]])), (5, .val (i64 s3)), (6, .val (i64 s10)), (9, .val (i64 v2)), (10, .val (i64 s3)), (14, .val (i64 v9)), (15, .val (i64 s10)), (19, .val (i64 v16)), (20, .val (i64 (w64 (s17 + 1))))] rfl ?_ ?_
    · simp <;> simp [ieq, ilt, ile]
    cases hx17o
    exact ⟨_, rfl, Fits.of rfl⟩
  replace hb24 : v23 = false := by simpa [ieq, ilt, ile] using hb24
  rw [if_pos hb24] at hx17o
  -- region 11
  refine VW.ws tau_ok Sound.none [some 4] [(4, .val (.bool false))] rfl ?_ ?_
  · simp <;> simp [ieq, ilt, ile]
  cases hx17o
  have hq := hx17b _ rfl
  subst hq
  dsimp only at hx10o
  cases hx10o
  have hq := hx10b _ rfl
  subst hq
  dsimp only at hx3o
  cases hx3o
  have hq := hx3b _ rfl
  subst hq
  dsimp only at h
  cases h
  refine VW.ret ?_
  simp [Post, PostM, PostC, PostC2, Nx, Bk]

theorem i_IsMoufangLoop_ok {a0 : List (List Int)} {r : Bool × Int} (h : i_IsMoufangLoop a0 = some r) :
    VCall Try.prog 29 [dM a0] [.sc (.bool r.1), .sc (i64 r.2)] := by
  unfold i_IsMoufangLoop at h
  refine VCall.enter Try.call29 Try.func29 rfl 13 Try.ntmps29 (by simp) [.tmp 2, .tmp 3] rfl ?_
  show VW _ _ _ (mk [(0, .val (dM a0))]) _
  -- region 0
  refine VW.ws tau_ok Sound.none [some 1, some 2, some 3] [(1, .val (.ptr [dM a0]))] rfl ?_ ?_
  · simp <;> simp [ieq, ilt, ile]
  refine VW.sqc fun K1 hK1 hCK1 => ?_
  -- region 1
  obtain ⟨v2, hv2, h⟩ := bind_some h
  refine VW.ws tau_ok (Sound.none.add 6 (i_checkLoop_ok hv2) rfl) [some 5, some 6, some 4] [(1, .val (.ptr [dM a0])), (4, .val (i64 v2))] rfl ?_ ?_
  · simp <;> simp [ieq, ilt, ile]
  -- region 2
  refine VW.ws tau_ok Sound.none [some 7, some 8] [(1, .val (.ptr [dM a0])), (4, .val (i64 v2)), (8, .val (.bool (!(ieq v2 0))))] rfl ?_ ?_
  · simp <;> simp [ieq, ilt, ile]
  refine VW.cond rfl (fun hb3 => ?_) (fun hb3 => ?_)
  ·
    replace hb3 : ¬ v2 = 0 := by simpa [ieq, ilt, ile] using hb3
    rw [if_pos hb3] at h
    -- region 3
    refine VW.ws tau_ok Sound.none [some 9, some 2, some 3] [(2, .val (.bool false)), (3, .val (i64 v2))] rfl ?_ ?_
    · simp <;> simp [ieq, ilt, ile]
    cases h
    refine VW.ret ?_
    simp [Post, PostM, PostC, PostC2, Nx, Bk]
  replace hb3 : ¬ (¬ v2 = 0) := by simpa [ieq, ilt, ile] using hb3
  rw [if_neg hb3] at h
  refine VW.skip ?_
  refine hK1 _ ?_
  -- region 4
  obtain ⟨v4, hv4, h⟩ := bind_some h
  refine VW.ws tau_ok (Sound.none.add 12 (i_loopTriples_of_i_IsMoufangLoop_c1_ok hv4) rfl) [some 10, some 11, some 12, some 2, some 3] [(2, .val (.bool v4)), (3, .val (i64 0))] rfl ?_ ?_
  · simp <;> simp [ieq, ilt, ile]
  cases h
  refine VW.ret ?_
  simp [Post, PostM, PostC, PostC2, Nx, Bk]

theorem g_slices_Equal_LI_I_ok {a0 : List Int} {a1 : List Int} {r : Bool} (h : g_slices_Equal_LI_I a0 a1 = some r) :
    VCall Try.prog 173 [dI a0, dI a1] [.sc (.bool r)] := by
  unfold g_slices_Equal_LI_I at h
  refine VCall.enter Try.call173 Try.func173 rfl 26 Try.ntmps173 (by simp) [.tmp 4] rfl ?_
  show VW _ _ _ (mk [(0, .val (dI a0)), (1, .val (dI a1))]) _
  -- region 0
  refine VW.ws tau_ok Sound.none [some 4] [(0, .val (dI a0)), (1, .val (dI a1))] rfl ?_ ?_
  · simp <;> simp [ieq, ilt, ile]
  refine VW.sqc fun K1 hK1 hCK1 => ?_
  -- region 1
  refine VW.ws tau_ok Sound.none [some 6, some 7, some 8, some 9, some 10] [(0, .val (dI a0)), (1, .val (dI a1)), (10, .val (.bool (!(ieq (a0.length : Int) (a1.length : Int)))))] rfl ?_ ?_
  · simp <;> simp [ieq, ilt, ile]
  refine VW.cond rfl (fun hb2 => ?_) (fun hb2 => ?_)
  ·
    replace hb2 : ¬ (a0.length : Int) = (a1.length : Int) := by simpa [ieq, ilt, ile] using hb2
    rw [if_pos hb2] at h
    -- region 2
    refine VW.ws tau_ok Sound.none [some 4] [(4, .val (.bool false))] rfl ?_ ?_
    · simp <;> simp [ieq, ilt, ile]
    cases h
    refine VW.ret ?_
    simp [Post, PostM, PostC, PostC2, Nx, Bk]
  replace hb2 : ¬ (¬ (a0.length : Int) = (a1.length : Int)) := by simpa [ieq, ilt, ile] using hb2
  rw [if_neg hb2] at h
  refine VW.skip ?_
  refine hK1 _ ?_
  refine VW.sqc fun K3 hK3 hCK3 => ?_
  -- region 3
  refine VW.ws tau_ok Sound.none [some 11, some 12, some 13] [(0, .val (dI a0)), (1, .val (dI a1)), (12, .val (i64 (a0.length : Int))), (13, .val (i64 0))] rfl ?_ ?_
  · simp <;> simp [ieq, ilt, ile]
  obtain ⟨x4, hx4, h⟩ := bind_some h
  refine VW.tlO (fun y6 => []) x4 (hCK3) ?_ ?_
  · clear hx4
    rintro y6 rfl
    dsimp only at h
    refine hK3 _ ?_
    -- region 9
    refine VW.ws tau_ok Sound.none [some 4] [(4, .val (.bool true))] rfl ?_ ?_
    · simp <;> simp [ieq, ilt, ile]
    cases h
    refine VW.ret ?_
    simp [Post, PostM, PostC, PostC2, Nx, Bk]
  refine VW.block ?_
  refine VW.loopF (g_slices_Equal_LI_I_L0 a0 a1) (fun s4 => [(0, .val (dI a0)), (1, .val (dI a1)), (12, .val (i64 (a0.length : Int))), (13, .val (i64 s4))]) hx4 (Fits.of rfl) ?_
  clear hx4
  intro s4 ox4 hx4o hx4b
  unfold g_slices_Equal_LI_I_L0 at hx4o
  -- region 4
  refine VW.ws tau_ok Sound.none [some 14] [(0, .val (dI a0)), (1, .val (dI a1)), (12, .val (i64 (a0.length : Int))), (13, .val (i64 s4)), (14, .val (.bool (ilt s4 (a0.length : Int))))] rfl ?_ ?_
  · simp <;> simp [ieq, ilt, ile]
  refine VW.sqc fun K7 hK7 hCK7 => ?_
  refine VW.cond rfl (fun hb8 => ?_) (fun hb8 => ?_)
  rotate_left
  ·
    replace hb8 : ¬ (s4 < (a0.length : Int)) := by simpa [ieq, ilt, ile] using hb8
    rw [if_neg hb8] at hx4o
    refine VW.exit ?_
    cases hx4o
    have hq := hx4b _ rfl
    subst hq
    exact ⟨_, rfl, Fits.of rfl⟩
  replace hb8 : s4 < (a0.length : Int) := by simpa [ieq, ilt, ile] using hb8
  rw [if_pos hb8] at hx4o
  refine VW.skip ?_
  refine hK7 _ ?_
  refine VW.sqc fun K9 hK9 hCK9 => ?_
  refine VW.block ?_
  -- region 5
  refine VW.ws tau_ok Sound.none [some 15, some 5] [(0, .val (dI a0)), (1, .val (dI a1)), (5, .val (i64 s4)), (12, .val (i64 (a0.length : Int))), (13, .val (i64 s4))] rfl ?_ ?_
  · simp <;> simp [ieq, ilt, ile]
  -- region 6
  obtain ⟨v10, hv10, hx4o⟩ := bind_some hx4o
  obtain ⟨hv10a, hv10b, hv10c, hv10d⟩ := idx_some hv10
  obtain ⟨v11, hv11, hx4o⟩ := bind_some hx4o
  obtain ⟨hv11a, hv11b, hv11c, hv11d⟩ := idx_some hv11
  refine VW.wds tau_ok Sound.none try_mixed [some 16, some 17, some 18, some 19, some 20, some 21, some 22, some 23, some 24] [(0, .val (dI a0)), (1, .val (dI a1)), (12, .val (i64 (a0.length : Int))), (13, .val (i64 s4)), (24, .val (.bool (!(ieq v10 v11))))] 9 rfl (by kernel_rfl) (by rfl) ?_ ?_
  · simp [hv10a, hv10b, hv10c, hv10d, hv11a, hv11b, hv11c, hv11d] <;> simp [ieq, ilt, ile]
  refine VW.cond rfl (fun hb12 => ?_) (fun hb12 => ?_)
  rotate_left
  ·
    replace hb12 : ¬ (¬ v10 = v11) := by simpa [ieq, ilt, ile] using hb12
    rw [if_neg hb12] at hx4o
    refine VW.skip ?_
    refine hK9 _ ?_
    -- region 8
    refine VW.wr tau_ok Sound.none [some 25, some 13] [(0, .val (dI a0)), (1, .val (dI a1)), (12, .val (i64 (a0.length : Int))), (13, .val (i64 (w64 (s4 + 1))))] rfl ?_ ?_
    · simp <;> simp [ieq, ilt, ile]
    cases hx4o
    exact ⟨_, rfl, Fits.of rfl⟩
  replace hb12 : ¬ v10 = v11 := by simpa [ieq, ilt, ile] using hb12
  rw [if_pos hb12] at hx4o
  -- region 7
  refine VW.ws tau_ok Sound.none [some 4] [(4, .val (.bool false))] rfl ?_ ?_
  · simp <;> simp [ieq, ilt, ile]
  cases hx4o
  have hq := hx4b _ rfl
  subst hq
  dsimp only at h
  cases h
  refine VW.ret ?_
  simp [Post, PostM, PostC, PostC2, Nx, Bk]

theorem g_slices_EqualFunc_LLI_LLI_LI_LI_of_g_slices_Equal_LI_I_ok {a0 : List (List Int)} {a1 : List (List Int)} {r : Bool} (h : g_slices_EqualFunc_LLI_LLI_LI_LI_of_g_slices_Equal_LI_I a0 a1 = some r) :
    VCall Try.prog 172 [dM a0, dM a1, .fn 173 []] [.sc (.bool r)] := by
  unfold g_slices_EqualFunc_LLI_LLI_LI_LI_of_g_slices_Equal_LI_I at h
  refine VCall.enter Try.call172 Try.func172 rfl 32 Try.ntmps172 (by simp) [.tmp 6] rfl ?_
  show VW _ _ _ (mk [(0, .val (dM a0)), (1, .val (dM a1)), (2, .val (.fn 173 []))]) _
  -- region 0
  refine VW.ws tau_ok Sound.none [some 6] [(0, .val (dM a0)), (1, .val (dM a1)), (2, .val (.fn 173 []))] rfl ?_ ?_
  · simp <;> simp [ieq, ilt, ile]
  refine VW.sqc fun K1 hK1 hCK1 => ?_
  -- region 1
  refine VW.ws tau_ok Sound.none [some 10, some 11, some 12, some 13, some 14] [(0, .val (dM a0)), (1, .val (dM a1)), (2, .val (.fn 173 [])), (14, .val (.bool (!(ieq (a0.length : Int) (a1.length : Int)))))] rfl ?_ ?_
  · simp <;> simp [ieq, ilt, ile]
  refine VW.cond rfl (fun hb2 => ?_) (fun hb2 => ?_)
  ·
    replace hb2 : ¬ (a0.length : Int) = (a1.length : Int) := by simpa [ieq, ilt, ile] using hb2
    rw [if_pos hb2] at h
    -- region 2
    refine VW.ws tau_ok Sound.none [some 6] [(6, .val (.bool false))] rfl ?_ ?_
    · simp <;> simp [ieq, ilt, ile]
    cases h
    refine VW.ret ?_
    simp [Post, PostM, PostC, PostC2, Nx, Bk]
  replace hb2 : ¬ (¬ (a0.length : Int) = (a1.length : Int)) := by simpa [ieq, ilt, ile] using hb2
  rw [if_neg hb2] at h
  refine VW.skip ?_
  refine hK1 _ ?_
  refine VW.sqc fun K3 hK3 hCK3 => ?_
  -- region 3
  refine VW.ws tau_ok Sound.none [some 15, some 16, some 17] [(1, .val (dM a1)), (2, .val (.fn 173 [])), (15, .val (dM a0)), (16, .val (i64 (a0.length : Int))), (17, .val (i64 0))] rfl ?_ ?_
  · simp <;> simp [ieq, ilt, ile]
  obtain ⟨x4, hx4, h⟩ := bind_some h
  refine VW.tlO (fun y6 => []) x4 (hCK3) ?_ ?_
  · clear hx4
    rintro y6 rfl
    dsimp only at h
    refine hK3 _ ?_
    -- region 10
    refine VW.ws tau_ok Sound.none [some 6] [(6, .val (.bool true))] rfl ?_ ?_
    · simp <;> simp [ieq, ilt, ile]
    cases h
    refine VW.ret ?_
    simp [Post, PostM, PostC, PostC2, Nx, Bk]
  refine VW.block ?_
  refine VW.loopF (g_slices_EqualFunc_LLI_LLI_LI_LI_of_g_slices_Equal_LI_I_L0 a0 a1) (fun s4 => [(1, .val (dM a1)), (2, .val (.fn 173 [])), (15, .val (dM a0)), (16, .val (i64 (a0.length : Int))), (17, .val (i64 s4))]) hx4 (Fits.of rfl) ?_
  clear hx4
  intro s4 ox4 hx4o hx4b
  unfold g_slices_EqualFunc_LLI_LLI_LI_LI_of_g_slices_Equal_LI_I_L0 at hx4o
  -- region 4
  refine VW.ws tau_ok Sound.none [some 18] [(1, .val (dM a1)), (2, .val (.fn 173 [])), (15, .val (dM a0)), (16, .val (i64 (a0.length : Int))), (17, .val (i64 s4)), (18, .val (.bool (ilt s4 (a0.length : Int))))] rfl ?_ ?_
  · simp <;> simp [ieq, ilt, ile]
  refine VW.sqc fun K7 hK7 hCK7 => ?_
  refine VW.cond rfl (fun hb8 => ?_) (fun hb8 => ?_)
  rotate_left
  ·
    replace hb8 : ¬ (s4 < (a0.length : Int)) := by simpa [ieq, ilt, ile] using hb8
    rw [if_neg hb8] at hx4o
    refine VW.exit ?_
    cases hx4o
    have hq := hx4b _ rfl
    subst hq
    exact ⟨_, rfl, Fits.of rfl⟩
  replace hb8 : s4 < (a0.length : Int) := by simpa [ieq, ilt, ile] using hb8
  rw [if_pos hb8] at hx4o
  refine VW.skip ?_
  refine hK7 _ ?_
  refine VW.sqc fun K9 hK9 hCK9 => ?_
  refine VW.block ?_
  -- region 5
  obtain ⟨v10, hv10, hx4o⟩ := bind_some hx4o
  obtain ⟨hv10a, hv10b, hv10c, hv10d⟩ := idx_some hv10
  refine VW.ws tau_ok Sound.none [some 19, some 20, some 21, some 7, some 8] [(1, .val (dM a1)), (2, .val (.fn 173 [])), (7, .val (i64 s4)), (8, .val (dI v10)), (15, .val (dM a0)), (16, .val (i64 (a0.length : Int))), (17, .val (i64 s4))] rfl ?_ ?_
  · simp [hv10a, hv10b, hv10c, hv10d] <;> simp [ieq, ilt, ile]
  -- region 6
  obtain ⟨v11, hv11, hx4o⟩ := bind_some hx4o
  obtain ⟨hv11a, hv11b, hv11c, hv11d⟩ := idx_some hv11
  refine VW.ws tau_ok Sound.none [some 22, some 23, some 24, some 25, some 9] [(1, .val (dM a1)), (2, .val (.fn 173 [])), (8, .val (dI v10)), (9, .val (dI v11)), (15, .val (dM a0)), (16, .val (i64 (a0.length : Int))), (17, .val (i64 s4))] rfl ?_ ?_
  · simp [hv11a, hv11b, hv11c, hv11d] <;> simp [ieq, ilt, ile]
  -- region 7
  obtain ⟨v12, hv12, hx4o⟩ := bind_some hx4o
  refine VW.ws tau_ok (Sound.none.add 29 (g_slices_Equal_LI_I_ok hv12) rfl) [some 26, some 27, some 28, some 29, some 30] [(1, .val (dM a1)), (2, .val (.fn 173 [])), (15, .val (dM a0)), (16, .val (i64 (a0.length : Int))), (17, .val (i64 s4)), (30, .val (.bool (!v12)))] rfl ?_ ?_
  · simp <;> simp [ieq, ilt, ile]
  refine VW.cond rfl (fun hb13 => ?_) (fun hb13 => ?_)
  rotate_left
  ·
    replace hb13 : ¬ (v12 = false) := by simpa [ieq, ilt, ile] using hb13
    rw [if_neg hb13] at hx4o
    refine VW.skip ?_
    refine hK9 _ ?_
    -- region 9
    refine VW.wr tau_ok Sound.none [some 31, some 17] [(1, .val (dM a1)), (2, .val (.fn 173 [])), (15, .val (dM a0)), (16, .val (i64 (a0.length : Int))), (17, .val (i64 (w64 (s4 + 1))))] rfl ?_ ?_
    · simp <;> simp [ieq, ilt, ile]
    cases hx4o
    exact ⟨_, rfl, Fits.of rfl⟩
  replace hb13 : v12 = false := by simpa [ieq, ilt, ile] using hb13
  rw [if_pos hb13] at hx4o
  -- region 8
  refine VW.ws tau_ok Sound.none [some 6] [(6, .val (.bool false))] rfl ?_ ?_
  · simp <;> simp [ieq, ilt, ile]
  cases hx4o
  have hq := hx4b _ rfl
  subst hq
  dsimp only at h
  cases h
  refine VW.ret ?_
  simp [Post, PostM, PostC, PostC2, Nx, Bk]

theorem i_sameRows_ok {a0 : List (List Int)} {a1 : List (List Int)} {r : Bool} (h : i_sameRows a0 a1 = some r) :
    VCall Try.prog 99 [dM a0, dM a1] [.sc (.bool r)] := by
  unfold i_sameRows at h
  refine VCall.enter Try.call99 Try.func99 rfl 8 Try.ntmps99 (by simp) [.tmp 4] rfl ?_
  show VW _ _ _ (mk [(0, .val (dM a0)), (1, .val (dM a1))]) _
  -- region 0
  refine VW.ws tau_ok Sound.none [some 4] [(0, .val (dM a0)), (1, .val (dM a1))] rfl ?_ ?_
  · simp <;> simp [ieq, ilt, ile]
  -- region 1
  obtain ⟨v1, hv1, h⟩ := bind_some h
  refine VW.ws tau_ok (Sound.none.add 7 (g_slices_EqualFunc_LLI_LLI_LI_LI_of_g_slices_Equal_LI_I_ok hv1) rfl) [some 5, some 6, some 7, some 4] [(4, .val (.bool v1))] rfl ?_ ?_
  · simp <;> simp [ieq, ilt, ile]
  cases h
  refine VW.ret ?_
  simp [Post, PostM, PostC, PostC2, Nx, Bk]

theorem i_IsCommutativeLoop_ok {a0 : List (List Int)} {r : Bool × Int} (h : i_IsCommutativeLoop a0 = some r) :
    VCall Try.prog 30 [dM a0] [.sc (.bool r.1), .sc (i64 r.2)] := by
  unfold i_IsCommutativeLoop at h
  refine VCall.enter Try.call30 Try.func30 rfl 14 Try.ntmps30 (by simp) [.tmp 2, .tmp 3] rfl ?_
  show VW _ _ _ (mk [(0, .val (dM a0))]) _
  -- region 0
  refine VW.ws tau_ok Sound.none [some 2, some 3] [(0, .val (dM a0))] rfl ?_ ?_
  · simp <;> simp [ieq, ilt, ile]
  refine VW.sqc fun K1 hK1 hCK1 => ?_
  -- region 1
  obtain ⟨v2, hv2, h⟩ := bind_some h
  refine VW.ws tau_ok (Sound.none.add 6 (i_checkLoop_ok hv2) rfl) [some 5, some 6, some 4] [(0, .val (dM a0)), (4, .val (i64 v2))] rfl ?_ ?_
  · simp <;> simp [ieq, ilt, ile]
  -- region 2
  refine VW.ws tau_ok Sound.none [some 7, some 8] [(0, .val (dM a0)), (4, .val (i64 v2)), (8, .val (.bool (!(ieq v2 0))))] rfl ?_ ?_
  · simp <;> simp [ieq, ilt, ile]
  refine VW.cond rfl (fun hb3 => ?_) (fun hb3 => ?_)
  ·
    replace hb3 : ¬ v2 = 0 := by simpa [ieq, ilt, ile] using hb3
    rw [if_pos hb3] at h
    -- region 3
    refine VW.ws tau_ok Sound.none [some 9, some 2, some 3] [(2, .val (.bool false)), (3, .val (i64 v2))] rfl ?_ ?_
    · simp <;> simp [ieq, ilt, ile]
    cases h
    refine VW.ret ?_
    simp [Post, PostM, PostC, PostC2, Nx, Bk]
  replace hb3 : ¬ (¬ v2 = 0) := by simpa [ieq, ilt, ile] using hb3
  rw [if_neg hb3] at h
  refine VW.skip ?_
  refine hK1 _ ?_
  -- region 4
  obtain ⟨v4, hv4, h⟩ := bind_some h
  obtain ⟨v5, hv5, h⟩ := bind_some h
  refine VW.ws tau_ok ((Sound.none.add 12 (i_transpose_ok hv4) rfl).add 13 (i_sameRows_ok hv5) rfl) [some 10, some 11, some 12, some 13, some 2, some 3] [(2, .val (.bool v5)), (3, .val (i64 0))] rfl ?_ ?_
  · simp <;> simp [ieq, ilt, ile]
  cases h
  refine VW.ret ?_
  simp [Post, PostM, PostC, PostC2, Nx, Bk]

theorem i_subloop_c1_ok {a0 : Int} {a1_0 : List Bool} {a2_0 : List Int} {r : (List Bool) × (List Int)} (h : i_subloop_c1 a0 a1_0 a2_0 = some r) :
    VClo Try.prog 161 [i64 a0] [.own [dB a1_0], .own [dI a2_0]] [.own [dB r.1], .own [dI r.2]] := by
  unfold i_subloop_c1 at h
  refine VClo.enter Try.call161 Try.func161 rfl 16 3 Try.ntmps161 rfl (by decide) rfl rfl ?_
  show VW _ _ _ (mk [(0, .val (i64 a0)), (1, .ref 1 [] true (.ptr [dB a1_0])), (2, .ref 2 [] true (.ptr [dI a2_0]))]) _
  -- region 0
  obtain ⟨v1, hv1, h⟩ := bind_some h
  obtain ⟨hv1a, hv1b, hv1c, hv1d⟩ := idx_some hv1
  refine VW.ws tau_ok Sound.none [some 4, some 5, some 6, some 7, some 8] [(0, .val (i64 a0)), (1, .ref 1 [] true (.ptr [dB a1_0])), (2, .ref 2 [] true (.ptr [dI a2_0])), (8, .val (.bool (!v1)))] rfl ?_ ?_
  · simp [hv1a, hv1b, hv1c, hv1d] <;> simp [ieq, ilt, ile]
  refine VW.cond rfl (fun hb2 => ?_) (fun hb2 => ?_)
  rotate_left
  ·
    replace hb2 : ¬ (v1 = false) := by simpa [ieq, ilt, ile] using hb2
    rw [if_neg hb2] at h
    refine VW.skip ?_
    cases h
    exact PostClx.n (by simp [postOk, capV, capsAs, capAs])
  replace hb2 : v1 = false := by simpa [ieq, ilt, ile] using hb2
  rw [if_pos hb2] at h
  -- region 1
  refine VW.ws tau_ok Sound.none [some 9, some 10, some 11, none] [(0, .val (i64 a0)), (1, .ref 1 [] true (.ptr [dB (a1_0.set a0.toNat true)])), (2, .ref 2 [] true (.ptr [dI a2_0]))] rfl ?_ ?_
  · simp [hv1a, hv1b, hv1c, hv1d] <;> simp [ieq, ilt, ile]
  -- region 2
  obtain ⟨hc3, h⟩ := chk_some h
  have hc3s := hc3
  try simp at hc3s
  refine VW.wr tau_ok Sound.none [some 12, some 13, some 14, some 15, none] [(1, .ref 1 [] true (.ptr [dB (a1_0.set a0.toNat true)])), (2, .ref 2 [] true (.ptr [dI (a2_0 ++ [a0])]))] rfl ?_ ?_
  · simp [hc3, hc3s] <;> simp [ieq, ilt, ile]
  cases h
  exact PostClx.n (by simp [postOk, capV, capsAs, capAs])

theorem g_sortI_ok {xs : List Int} (h : xs.length ≤ 1099511627776) : VMutT Try.prog 162 (dI xs) [] [] (dI (srt xs)) := sort_mut Try.sortL h

theorem i_subloop_ok {a0 : List (List Int)} {a1 : List Int} {r : List Int} (h : i_subloop a0 a1 = some r) :
    VCall Try.prog 79 [dM a0, dI a1] [.own true (dI r)] := by
  unfold i_subloop at h
  refine VCall.enter Try.call79 Try.func79 rfl 73 Try.ntmps79 (by simp) [.tmp 4] rfl ?_
  show VW _ _ _ (mk [(0, .val (dM a0)), (1, .val (dI a1))]) _
  -- region 0
  refine VW.ws tau_ok Sound.none [some 4] [(0, .val (dM a0)), (1, .val (dI a1))] rfl ?_ ?_
  · simp <;> simp [ieq, ilt, ile]
  -- region 1
  obtain ⟨hc1, h⟩ := chk_some h
  have hc1s := hc1
  try simp at hc1s
  refine VW.ws tau_ok Sound.none [some 12, some 13, some 14, some 15, some 5, some 6, none, none] [(0, .val (dM a0)), (1, .val (dI a1)), (5, .ref 5 [] true (.ptr [dB (List.replicate (a0.length : Int).toNat false)])), (6, .ref 6 [] true (.ptr [dI []]))] rfl ?_ ?_
  · simp [hc1, hc1s] <;> simp [ieq, ilt, ile]
  -- region 2
  refine VW.mid tau_ok Sound.none [some 16, some 7] 0 [(0, .val (dM a0)), (1, .val (dI a1)), (5, .ref 5 [] true (.ptr [dB (List.replicate (a0.length : Int).toNat false)])), (6, .ref 6 [] true (.ptr [dI []]))] _ (fun _ => [(0, .val (dM a0)), (1, .val (dI a1)), (5, .ref 5 [] true (.ptr [dB (List.replicate (a0.length : Int).toNat false)])), (6, .ref 6 [] true (.ptr [dI []])), (7, .clo 161 [.tok 5, .tok 6])]) (fun _ => True) _ rfl rfl rfl ?_ (step_mkf rfl rfl (by simp) rfl) (fun _ _ => ?_) (fun _ _ => ?_)
  · simp <;> simp [ieq, ilt, ile]
  · simp <;> simp [ieq, ilt, ile]
  -- region 3
  obtain ⟨v2, hv2, h⟩ := bind_some h
  refine VW.mid tau_ok Sound.none [some 17, some 18] 1 [(0, .val (dM a0)), (1, .val (dI a1)), (5, .ref 5 [] true (.ptr [dB (List.replicate (a0.length : Int).toNat false)])), (6, .ref 6 [] true (.ptr [dI []])), (7, .clo 161 [.tok 5, .tok 6]), (17, .clo 161 [.tok 5, .tok 6])] _ (fun _ => [(0, .val (dM a0)), (1, .val (dI a1)), (5, .ref 5 [] true (.ptr [dB v2.1])), (6, .ref 6 [] true (.ptr [dI v2.2])), (7, .clo 161 [.tok 5, .tok 6])]) (fun _ => True) _ rfl rfl rfl ?_ (step_clo [(5, 5, 0, .own [dB v2.1]), (6, 6, 1, .own [dI v2.2])] [7, 17] rfl rfl (by simp) rfl rfl (i_subloop_c1_ok hv2) (.cons (CapOk.tok' 5 rfl) (.cons (CapOk.tok' 6 rfl) (.nil))) (.cons CapAs.tok' (.cons CapAs.tok' (.nil))) (show List.Nodup ([5, 6] : List Nat) by decide) (by intro q hq; simp only [List.mem_cons, List.not_mem_nil, or_false] at hq; rcases hq with rfl | rfl <;> first | exact ⟨rfl, rfl, rfl, .inl ⟨_, rfl⟩⟩ | exact ⟨rfl, rfl, rfl, .inr rfl⟩) (by intro s hs; simp only [List.mem_cons, List.not_mem_nil, or_false] at hs; rcases hs with rfl | rfl <;> rfl)) (fun _ _ => ?_) (fun _ _ => ?_)
  · simp <;> simp [ieq, ilt, ile]
  · simp <;> simp [ieq, ilt, ile]
  refine VW.sqc fun K3 hK3 hCK3 => ?_
  -- region 4
  refine VW.ws tau_ok Sound.none [some 19, some 20, some 21] [(0, .val (dM a0)), (5, .ref 5 [] true (.ptr [dB v2.1])), (6, .ref 6 [] true (.ptr [dI v2.2])), (7, .clo 161 [.tok 5, .tok 6]), (19, .val (dI a1)), (20, .val (i64 (a1.length : Int))), (21, .val (i64 0))] rfl ?_ ?_
  · simp <;> simp [ieq, ilt, ile]
  obtain ⟨x4, hx4, h⟩ := bind_some h
  refine VW.tlE [(0, .val (dM a0)), (5, .ref 5 [] true (.ptr [dB x4.1])), (6, .ref 6 [] true (.ptr [dI x4.2])), (7, .clo 161 [.tok 5, .tok 6])] (hCK3) ?_ ?_
  · clear hx4
    refine hK3 _ ?_
    refine VW.sqc fun K11 hK11 hCK11 => ?_
    -- region 9
    refine VW.ws tau_ok Sound.none [some 10] [(0, .val (dM a0)), (5, .ref 5 [] true (.ptr [dB x4.1])), (6, .ref 6 [] true (.ptr [dI x4.2])), (7, .clo 161 [.tok 5, .tok 6]), (10, .val (i64 0))] rfl ?_ ?_
    · simp <;> simp [ieq, ilt, ile]
    obtain ⟨x12, hx12, h⟩ := bind_some h
    refine VW.tlE [(6, .ref 6 [] true (.ptr [dI x12]))] (hCK11) ?_ ?_
    · clear hx12
      refine hK11 _ ?_
      -- region 17
      obtain ⟨hc32, h⟩ := chk_some h
      have hc32s := hc32
      try simp at hc32s
      refine VW.mid tau_ok Sound.none [some 70, some 71] 1 [(6, .ref 6 [] true (.ptr [dI x12])), (70, .ref 6 [0] true (dI x12))] _ (fun _ => [(6, .ref 6 [] true (.ptr [dI (srt x12)]))]) (fun _ => True) _ rfl rfl rfl ?_ (step_mutT rfl rfl rfl (by simp) rfl rfl (g_sortI_ok (by simpa using hc32))) (fun _ _ => ?_) (fun _ _ => ?_)
      · simp [hc32, hc32s] <;> simp [ieq, ilt, ile]
      · simp [hc32, hc32s] <;> simp [ieq, ilt, ile]
      -- region 18
      refine VW.ws tau_ok Sound.none [some 72, some 4] [(4, .ref 6 [0] true (dI (srt x12)))] rfl ?_ ?_
      · simp <;> simp [ieq, ilt, ile]
      have hr0 := Option.some.inj h
      subst hr0
      refine VW.fits (fl' := [(4, .ref 4 [] true (dI (srt x12)))]) (Fits.part (s := 4) rfl (by decide) (Fits.of rfl)) ?_
      refine VW.ret ?_
      simp [Post, PostM, PostC, PostC2, Nx, Bk]
    refine VW.block ?_
    refine VW.loopF (i_subloop_L1 a0) (fun s12 => [(0, .val (dM a0)), (5, .ref 5 [] true (.ptr [dB s12.1])), (6, .ref 6 [] true (.ptr [dI s12.2.1])), (7, .clo 161 [.tok 5, .tok 6]), (10, .val (i64 s12.2.2))]) hx12 (Fits.of rfl) ?_
    clear hx12
    intro s12 ox12 hx12o hx12b
    unfold i_subloop_L1 at hx12o
    refine VW.sqc fun K14 hK14 hCK14 => ?_
    -- region 10
    refine VW.ws tau_ok Sound.none [some 29, some 30, some 31, some 32] [(0, .val (dM a0)), (5, .ref 5 [] true (.ptr [dB s12.1])), (6, .ref 6 [] true (.ptr [dI s12.2.1])), (7, .clo 161 [.tok 5, .tok 6]), (10, .val (i64 s12.2.2)), (32, .val (.bool (ilt s12.2.2 (s12.2.1.length : Int))))] rfl ?_ ?_
    · simp <;> simp [ieq, ilt, ile]
    refine VW.cond rfl (fun hb15 => ?_) (fun hb15 => ?_)
    rotate_left
    ·
      replace hb15 : ¬ (s12.2.2 < (s12.2.1.length : Int)) := by simpa [ieq, ilt, ile] using hb15
      rw [if_neg hb15] at hx12o
      refine VW.exit ?_
      cases hx12o
      have hq := hx12b _ rfl
      subst hq
      exact Fits.of rfl
    replace hb15 : s12.2.2 < (s12.2.1.length : Int) := by simpa [ieq, ilt, ile] using hb15
    rw [if_pos hb15] at hx12o
    refine VW.skip ?_
    refine hK14 _ ?_
    refine VW.sqc fun K16 hK16 hCK16 => ?_
    refine VW.block ?_
    -- region 12
    refine VW.ws tau_ok Sound.none [some 11] [(0, .val (dM a0)), (5, .ref 5 [] true (.ptr [dB s12.1])), (6, .ref 6 [] true (.ptr [dI s12.2.1])), (7, .clo 161 [.tok 5, .tok 6]), (10, .val (i64 s12.2.2)), (11, .val (i64 0))] rfl ?_ ?_
    · simp <;> simp [ieq, ilt, ile]
    obtain ⟨x17, hx17, hx12o⟩ := bind_some hx12o
    refine VW.tlE [(0, .val (dM a0)), (5, .ref 5 [] true (.ptr [dB x17.1])), (6, .ref 6 [] true (.ptr [dI x17.2])), (7, .clo 161 [.tok 5, .tok 6]), (10, .val (i64 s12.2.2))] (hCK16) ?_ ?_
    · clear hx17
      refine hK16 _ ?_
      -- region 11
      refine VW.wr tau_ok Sound.none [some 33, some 34, some 10] [(0, .val (dM a0)), (5, .ref 5 [] true (.ptr [dB x17.1])), (6, .ref 6 [] true (.ptr [dI x17.2])), (7, .clo 161 [.tok 5, .tok 6]), (10, .val (i64 (w64 (s12.2.2 + 1))))] rfl ?_ ?_
      · simp <;> simp [ieq, ilt, ile]
      cases hx12o
      exact ⟨_, rfl, Fits.of rfl⟩
    refine VW.block ?_
    refine VW.loopF (i_subloop_L2 a0 s12) (fun s17 => [(0, .val (dM a0)), (5, .ref 5 [] true (.ptr [dB s17.1])), (6, .ref 6 [] true (.ptr [dI s17.2.1])), (7, .clo 161 [.tok 5, .tok 6]), (10, .val (i64 s12.2.2)), (11, .val (i64 s17.2.2))]) hx17 (Fits.of rfl) ?_
    clear hx17
    intro s17 ox17 hx17o hx17b
    unfold i_subloop_L2 at hx17o
    refine VW.sqc fun K19 hK19 hCK19 => ?_
    -- region 13
    refine VW.ws tau_ok Sound.none [some 35, some 36, some 37] [(0, .val (dM a0)), (5, .ref 5 [] true (.ptr [dB s17.1])), (6, .ref 6 [] true (.ptr [dI s17.2.1])), (7, .clo 161 [.tok 5, .tok 6]), (10, .val (i64 s12.2.2)), (11, .val (i64 s17.2.2)), (37, .val (.bool (ile s17.2.2 s12.2.2)))] rfl ?_ ?_
    · simp <;> simp [ieq, ilt, ile]
    refine VW.cond rfl (fun hb20 => ?_) (fun hb20 => ?_)
    rotate_left
    ·
      replace hb20 : ¬ (s17.2.2 ≤ s12.2.2) := by simpa [ieq, ilt, ile] using hb20
      rw [if_neg hb20] at hx17o
      refine VW.exit ?_
      cases hx17o
      have hq := hx17b _ rfl
      subst hq
      exact Fits.of rfl
    replace hb20 : s17.2.2 ≤ s12.2.2 := by simpa [ieq, ilt, ile] using hb20
    rw [if_pos hb20] at hx17o
    refine VW.skip ?_
    refine hK19 _ ?_
    refine VW.sqc fun K21 hK21 hCK21 => ?_
    refine VW.block ?_
    -- region 15
    obtain ⟨v22, hv22, hx17o⟩ := bind_some hx17o
    obtain ⟨hv22a, hv22b, hv22c, hv22d⟩ := idx_some hv22
    obtain ⟨v23, hv23, hx17o⟩ := bind_some hx17o
    obtain ⟨hv23a, hv23b, hv23c, hv23d⟩ := idx_some hv23
    obtain ⟨v24, hv24, hx17o⟩ := bind_some hx17o
    obtain ⟨hv24a, hv24b, hv24c, hv24d⟩ := idx_some hv24
    obtain ⟨v25, hv25, hx17o⟩ := bind_some hx17o
    obtain ⟨hv25a, hv25b, hv25c, hv25d⟩ := idx_some hv25
    obtain ⟨v26, hv26, hx17o⟩ := bind_some hx17o
    refine VW.dls tau_ok Sound.none try_mixed [some 40, some 41, some 42, some 43, some 44, some 45, some 46, some 47, some 48, some 49, some 50, some 51, some 52, some 53, some 54] 14 [(0, .val (dM a0)), (5, .ref 5 [] true (.ptr [dB s17.1])), (6, .ref 6 [] true (.ptr [dI s17.2.1])), (7, .clo 161 [.tok 5, .tok 6]), (10, .val (i64 s12.2.2)), (11, .val (i64 s17.2.2)), (40, .clo 161 [.tok 5, .tok 6]), (53, .val (i64 v25))] _ (fun _ => [(0, .val (dM a0)), (5, .ref 5 [] true (.ptr [dB v26.1])), (6, .ref 6 [] true (.ptr [dI v26.2])), (7, .clo 161 [.tok 5, .tok 6]), (10, .val (i64 s12.2.2)), (11, .val (i64 s17.2.2))]) (fun _ => True) _ rfl rfl rfl (by kernel_rfl) (by rfl) ?_ (step_clo [(5, 5, 0, .own [dB v26.1]), (6, 6, 1, .own [dI v26.2])] [7, 40] rfl rfl (by simp) rfl rfl (i_subloop_c1_ok hv26) (.cons (CapOk.tok' 5 rfl) (.cons (CapOk.tok' 6 rfl) (.nil))) (.cons CapAs.tok' (.cons CapAs.tok' (.nil))) (show List.Nodup ([5, 6] : List Nat) by decide) (by intro q hq; simp only [List.mem_cons, List.not_mem_nil, or_false] at hq; rcases hq with rfl | rfl <;> first | exact ⟨rfl, rfl, rfl, .inl ⟨_, rfl⟩⟩ | exact ⟨rfl, rfl, rfl, .inr rfl⟩) (by intro s hs; simp only [List.mem_cons, List.not_mem_nil, or_false] at hs; rcases hs with rfl | rfl <;> rfl)) (fun _ _ => ?_) (fun _ _ => ?_)
    · simp [hv22a, hv22b, hv22c, hv22d, hv23a, hv23b, hv23c, hv23d, hv24a, hv24b, hv24c, hv24d, hv25a, hv25b, hv25c, hv25d] <;> simp [ieq, ilt, ile]
    · simp [hv22a, hv22b, hv22c, hv22d, hv23a, hv23b, hv23c, hv23d, hv24a, hv24b, hv24c, hv24d, hv25a, hv25b, hv25c, hv25d] <;> simp [ieq, ilt, ile]
    -- region 16
    obtain ⟨v27, hv27, hx17o⟩ := bind_some hx17o
    obtain ⟨hv27a, hv27b, hv27c, hv27d⟩ := idx_some hv27
    obtain ⟨v28, hv28, hx17o⟩ := bind_some hx17o
    obtain ⟨hv28a, hv28b, hv28c, hv28d⟩ := idx_some hv28
    obtain ⟨v29, hv29, hx17o⟩ := bind_some hx17o
    obtain ⟨hv29a, hv29b, hv29c, hv29d⟩ := idx_some hv29
    obtain ⟨v30, hv30, hx17o⟩ := bind_some hx17o
    obtain ⟨hv30a, hv30b, hv30c, hv30d⟩ := idx_some hv30
    obtain ⟨v31, hv31, hx17o⟩ := bind_some hx17o
    refine VW.dlr tau_ok Sound.none try_mixed [some 55, some 56, some 57, some 58, some 59, some 60, some 61, some 62, some 63, some 64, some 65, some 66, some 67, some 68, some 69] 14 [(0, .val (dM a0)), (5, .ref 5 [] true (.ptr [dB v26.1])), (6, .ref 6 [] true (.ptr [dI v26.2])), (7, .clo 161 [.tok 5, .tok 6]), (10, .val (i64 s12.2.2)), (11, .val (i64 s17.2.2)), (55, .clo 161 [.tok 5, .tok 6]), (68, .val (i64 v30))] _ (fun _ => [(0, .val (dM a0)), (5, .ref 5 [] true (.ptr [dB v31.1])), (6, .ref 6 [] true (.ptr [dI v31.2])), (7, .clo 161 [.tok 5, .tok 6]), (10, .val (i64 s12.2.2)), (11, .val (i64 s17.2.2))]) (fun _ => True) _ rfl rfl rfl (by kernel_rfl) (by rfl) ?_ (step_clo [(5, 5, 0, .own [dB v31.1]), (6, 6, 1, .own [dI v31.2])] [7, 55] rfl rfl (by simp) rfl rfl (i_subloop_c1_ok hv31) (.cons (CapOk.tok' 5 rfl) (.cons (CapOk.tok' 6 rfl) (.nil))) (.cons CapAs.tok' (.cons CapAs.tok' (.nil))) (show List.Nodup ([5, 6] : List Nat) by decide) (by intro q hq; simp only [List.mem_cons, List.not_mem_nil, or_false] at hq; rcases hq with rfl | rfl <;> first | exact ⟨rfl, rfl, rfl, .inl ⟨_, rfl⟩⟩ | exact ⟨rfl, rfl, rfl, .inr rfl⟩) (by intro s hs; simp only [List.mem_cons, List.not_mem_nil, or_false] at hs; rcases hs with rfl | rfl <;> rfl)) (fun _ _ => ?_) (fun _ _ => ?_)
    · simp [hv27a, hv27b, hv27c, hv27d, hv28a, hv28b, hv28c, hv28d, hv29a, hv29b, hv29c, hv29d, hv30a, hv30b, hv30c, hv30d] <;> simp [ieq, ilt, ile]
    · simp [hv27a, hv27b, hv27c, hv27d, hv28a, hv28b, hv28c, hv28d, hv29a, hv29b, hv29c, hv29d, hv30a, hv30b, hv30c, hv30d] <;> simp [ieq, ilt, ile]
    refine hK21 _ ?_
    -- region 14
    refine VW.wr tau_ok Sound.none [some 38, some 39, some 11] [(0, .val (dM a0)), (5, .ref 5 [] true (.ptr [dB v31.1])), (6, .ref 6 [] true (.ptr [dI v31.2])), (7, .clo 161 [.tok 5, .tok 6]), (10, .val (i64 s12.2.2)), (11, .val (i64 (w64 (s17.2.2 + 1))))] rfl ?_ ?_
    · simp <;> simp [ieq, ilt, ile]
    cases hx17o
    exact ⟨_, rfl, Fits.of rfl⟩
  refine VW.block ?_
  refine VW.loopF (i_subloop_L0 a1) (fun s4 => [(0, .val (dM a0)), (5, .ref 5 [] true (.ptr [dB s4.1])), (6, .ref 6 [] true (.ptr [dI s4.2.1])), (7, .clo 161 [.tok 5, .tok 6]), (19, .val (dI a1)), (20, .val (i64 (a1.length : Int))), (21, .val (i64 s4.2.2))]) hx4 (Fits.of rfl) ?_
  clear hx4
  intro s4 ox4 hx4o hx4b
  unfold i_subloop_L0 at hx4o
  -- region 5
  refine VW.ws tau_ok Sound.none [some 22] [(0, .val (dM a0)), (5, .ref 5 [] true (.ptr [dB s4.1])), (6, .ref 6 [] true (.ptr [dI s4.2.1])), (7, .clo 161 [.tok 5, .tok 6]), (19, .val (dI a1)), (20, .val (i64 (a1.length : Int))), (21, .val (i64 s4.2.2)), (22, .val (.bool (ilt s4.2.2 (a1.length : Int))))] rfl ?_ ?_
  · simp <;> simp [ieq, ilt, ile]
  refine VW.sqc fun K6 hK6 hCK6 => ?_
  refine VW.cond rfl (fun hb7 => ?_) (fun hb7 => ?_)
  rotate_left
  ·
    replace hb7 : ¬ (s4.2.2 < (a1.length : Int)) := by simpa [ieq, ilt, ile] using hb7
    rw [if_neg hb7] at hx4o
    refine VW.exit ?_
    cases hx4o
    have hq := hx4b _ rfl
    subst hq
    exact Fits.of rfl
  replace hb7 : s4.2.2 < (a1.length : Int) := by simpa [ieq, ilt, ile] using hb7
  rw [if_pos hb7] at hx4o
  refine VW.skip ?_
  refine hK6 _ ?_
  refine VW.sqc fun K8 hK8 hCK8 => ?_
  refine VW.block ?_
  -- region 6
  obtain ⟨v9, hv9, hx4o⟩ := bind_some hx4o
  obtain ⟨hv9a, hv9b, hv9c, hv9d⟩ := idx_some hv9
  refine VW.ws tau_ok Sound.none [some 23, some 24, some 9] [(0, .val (dM a0)), (5, .ref 5 [] true (.ptr [dB s4.1])), (6, .ref 6 [] true (.ptr [dI s4.2.1])), (7, .clo 161 [.tok 5, .tok 6]), (9, .val (i64 v9)), (19, .val (dI a1)), (20, .val (i64 (a1.length : Int))), (21, .val (i64 s4.2.2))] rfl ?_ ?_
  · simp [hv9a, hv9b, hv9c, hv9d] <;> simp [ieq, ilt, ile]
  -- region 7
  obtain ⟨v10, hv10, hx4o⟩ := bind_some hx4o
  refine VW.midr tau_ok Sound.none [some 25, some 26, some 27] 2 [(0, .val (dM a0)), (5, .ref 5 [] true (.ptr [dB s4.1])), (6, .ref 6 [] true (.ptr [dI s4.2.1])), (7, .clo 161 [.tok 5, .tok 6]), (19, .val (dI a1)), (20, .val (i64 (a1.length : Int))), (21, .val (i64 s4.2.2)), (25, .clo 161 [.tok 5, .tok 6]), (26, .val (i64 v9))] _ (fun _ => [(0, .val (dM a0)), (5, .ref 5 [] true (.ptr [dB v10.1])), (6, .ref 6 [] true (.ptr [dI v10.2])), (7, .clo 161 [.tok 5, .tok 6]), (19, .val (dI a1)), (20, .val (i64 (a1.length : Int))), (21, .val (i64 s4.2.2))]) (fun _ => True) _ rfl rfl rfl ?_ (step_clo [(5, 5, 0, .own [dB v10.1]), (6, 6, 1, .own [dI v10.2])] [7, 25] rfl rfl (by simp) rfl rfl (i_subloop_c1_ok hv10) (.cons (CapOk.tok' 5 rfl) (.cons (CapOk.tok' 6 rfl) (.nil))) (.cons CapAs.tok' (.cons CapAs.tok' (.nil))) (show List.Nodup ([5, 6] : List Nat) by decide) (by intro q hq; simp only [List.mem_cons, List.not_mem_nil, or_false] at hq; rcases hq with rfl | rfl <;> first | exact ⟨rfl, rfl, rfl, .inl ⟨_, rfl⟩⟩ | exact ⟨rfl, rfl, rfl, .inr rfl⟩) (by intro s hs; simp only [List.mem_cons, List.not_mem_nil, or_false] at hs; rcases hs with rfl | rfl <;> rfl)) (fun _ _ => ?_) (fun _ _ => ?_)
  · simp <;> simp [ieq, ilt, ile]
  · simp <;> simp [ieq, ilt, ile]
  refine hK8 _ ?_
  -- region 8
  refine VW.wr tau_ok Sound.none [some 28, some 21] [(0, .val (dM a0)), (5, .ref 5 [] true (.ptr [dB v10.1])), (6, .ref 6 [] true (.ptr [dI v10.2])), (7, .clo 161 [.tok 5, .tok 6]), (19, .val (dI a1)), (20, .val (i64 (a1.length : Int))), (21, .val (i64 (w64 (s4.2.2 + 1))))] rfl ?_ ?_
  · simp <;> simp [ieq, ilt, ile]
  cases hx4o
  exact ⟨_, rfl, Fits.of rfl⟩

theorem i_IsDiassociativeLoop_c1_ok {a0 : Int} {a1_0 : List (List Int)} {a2_0 : Int} {a3_0 : Int} {r : Bool} (h : i_IsDiassociativeLoop_c1 a0 a1_0 a2_0 a3_0 = some r) :
    VCall Try.prog 83 [i64 a0, .ptr [dM a1_0], .ptr [i64 a2_0], .ptr [i64 a3_0]] [.sc (.bool r)] := by
  unfold i_IsDiassociativeLoop_c1 at h
  refine VCall.enter Try.call83 Try.func83 rfl 12 Try.ntmps83 (by simp) [.tmp 5] rfl ?_
  show VW _ _ _ (mk [(0, .val (i64 a0)), (1, .val (.ptr [dM a1_0])), (2, .val (.ptr [i64 a2_0])), (3, .val (.ptr [i64 a3_0]))]) _
  -- region 0
  refine VW.ws tau_ok Sound.none [some 5] [(0, .val (i64 a0)), (1, .val (.ptr [dM a1_0])), (2, .val (.ptr [i64 a2_0])), (3, .val (.ptr [i64 a3_0]))] rfl ?_ ?_
  · simp <;> simp [ieq, ilt, ile]
  -- region 1
  obtain ⟨v1, hv1, h⟩ := bind_some h
  refine VW.ws tau_ok (Sound.none.add 10 (i_associates_ok hv1) rfl) [some 6, some 7, some 8, some 9, some 10, some 11, some 5] [(5, .val (.bool (!v1)))] rfl ?_ ?_
  · simp <;> simp [ieq, ilt, ile]
  cases h
  refine VW.ret ?_
  simp [Post, PostM, PostC, PostC2, Nx, Bk]

theorem g_slices_IndexFunc_LI_I_of_i_IsDiassociativeLoop_c1_ok {a0 : List Int} {a1_0_0 : List (List Int)} {a1_1_0 : Int} {a1_2_0 : Int} {r : Int} (h : g_slices_IndexFunc_LI_I_of_i_IsDiassociativeLoop_c1 a0 a1_0_0 a1_1_0 a1_2_0 = some r) :
    VCall Try.prog 163 [dI a0, .fn 83 [.ptr [dM a1_0_0], .ptr [i64 a1_1_0], .ptr [i64 a1_2_0]]] [.sc (i64 r)] := by
  unfold g_slices_IndexFunc_LI_I_of_i_IsDiassociativeLoop_c1 at h
  refine VCall.enter Try.call163 Try.func163 rfl 19 Try.ntmps163 (by simp) [.tmp 4] rfl ?_
  show VW _ _ _ (mk [(0, .val (dI a0)), (1, .val (.fn 83 [.ptr [dM a1_0_0], .ptr [i64 a1_1_0], .ptr [i64 a1_2_0]]))]) _
  -- region 0
  refine VW.ws tau_ok Sound.none [some 4] [(0, .val (dI a0)), (1, .val (.fn 83 [.ptr [dM a1_0_0], .ptr [i64 a1_1_0], .ptr [i64 a1_2_0]]))] rfl ?_ ?_
  · simp <;> simp [ieq, ilt, ile]
  refine VW.sqc fun K1 hK1 hCK1 => ?_
  -- region 1
  refine VW.ws tau_ok Sound.none [some 6, some 7, some 8] [(0, .val (dI a0)), (1, .val (.fn 83 [.ptr [dM a1_0_0], .ptr [i64 a1_1_0], .ptr [i64 a1_2_0]])), (7, .val (i64 (a0.length : Int))), (8, .val (i64 0))] rfl ?_ ?_
  · simp <;> simp [ieq, ilt, ile]
  obtain ⟨x2, hx2, h⟩ := bind_some h
  refine VW.tlO (fun y4 => []) x2 (hCK1) ?_ ?_
  · clear hx2
    rintro y4 rfl
    dsimp only at h
    refine hK1 _ ?_
    -- region 7
    refine VW.ws tau_ok Sound.none [some 4] [(4, .val (i64 (-1)))] rfl ?_ ?_
    · simp <;> simp [ieq, ilt, ile]
    cases h
    refine VW.ret ?_
    simp [Post, PostM, PostC, PostC2, Nx, Bk]
  refine VW.block ?_
  refine VW.loopF (g_slices_IndexFunc_LI_I_of_i_IsDiassociativeLoop_c1_L0 a0 a1_0_0 a1_1_0 a1_2_0) (fun s2 => [(0, .val (dI a0)), (1, .val (.fn 83 [.ptr [dM a1_0_0], .ptr [i64 a1_1_0], .ptr [i64 a1_2_0]])), (7, .val (i64 (a0.length : Int))), (8, .val (i64 s2))]) hx2 (Fits.of rfl) ?_
  clear hx2
  intro s2 ox2 hx2o hx2b
  unfold g_slices_IndexFunc_LI_I_of_i_IsDiassociativeLoop_c1_L0 at hx2o
  -- region 2
  refine VW.ws tau_ok Sound.none [some 9] [(0, .val (dI a0)), (1, .val (.fn 83 [.ptr [dM a1_0_0], .ptr [i64 a1_1_0], .ptr [i64 a1_2_0]])), (7, .val (i64 (a0.length : Int))), (8, .val (i64 s2)), (9, .val (.bool (ilt s2 (a0.length : Int))))] rfl ?_ ?_
  · simp <;> simp [ieq, ilt, ile]
  refine VW.sqc fun K5 hK5 hCK5 => ?_
  refine VW.cond rfl (fun hb6 => ?_) (fun hb6 => ?_)
  rotate_left
  ·
    replace hb6 : ¬ (s2 < (a0.length : Int)) := by simpa [ieq, ilt, ile] using hb6
    rw [if_neg hb6] at hx2o
    refine VW.exit ?_
    cases hx2o
    have hq := hx2b _ rfl
    subst hq
    exact ⟨_, rfl, Fits.of rfl⟩
  replace hb6 : s2 < (a0.length : Int) := by simpa [ieq, ilt, ile] using hb6
  rw [if_pos hb6] at hx2o
  refine VW.skip ?_
  refine hK5 _ ?_
  refine VW.sqc fun K7 hK7 hCK7 => ?_
  refine VW.block ?_
  -- region 3
  refine VW.ws tau_ok Sound.none [some 10, some 5] [(0, .val (dI a0)), (1, .val (.fn 83 [.ptr [dM a1_0_0], .ptr [i64 a1_1_0], .ptr [i64 a1_2_0]])), (5, .val (i64 s2)), (7, .val (i64 (a0.length : Int))), (8, .val (i64 s2))] rfl ?_ ?_
  · simp <;> simp [ieq, ilt, ile]
  -- region 4
  obtain ⟨v8, hv8, hx2o⟩ := bind_some hx2o
  obtain ⟨hv8a, hv8b, hv8c, hv8d⟩ := idx_some hv8
  obtain ⟨v9, hv9, hx2o⟩ := bind_some hx2o
  refine VW.ws tau_ok (Sound.none.add 16 (i_IsDiassociativeLoop_c1_ok hv9) rfl) [some 11, some 12, some 13, some 14, some 15, some 16] [(0, .val (dI a0)), (1, .val (.fn 83 [.ptr [dM a1_0_0], .ptr [i64 a1_1_0], .ptr [i64 a1_2_0]])), (5, .val (i64 s2)), (7, .val (i64 (a0.length : Int))), (8, .val (i64 s2)), (16, .val (.bool v9))] rfl ?_ ?_
  · simp [hv8a, hv8b, hv8c, hv8d] <;> simp [ieq, ilt, ile]
  refine VW.cond rfl (fun hb10 => ?_) (fun hb10 => ?_)
  rotate_left
  ·
    replace hb10 : ¬ (v9 = true) := by simpa [ieq, ilt, ile] using hb10
    rw [if_neg hb10] at hx2o
    refine VW.skip ?_
    refine hK7 _ ?_
    -- region 6
    refine VW.wr tau_ok Sound.none [some 18, some 8] [(0, .val (dI a0)), (1, .val (.fn 83 [.ptr [dM a1_0_0], .ptr [i64 a1_1_0], .ptr [i64 a1_2_0]])), (7, .val (i64 (a0.length : Int))), (8, .val (i64 (w64 (s2 + 1))))] rfl ?_ ?_
    · simp <;> simp [ieq, ilt, ile]
    cases hx2o
    exact ⟨_, rfl, Fits.of rfl⟩
  replace hb10 : v9 = true := by simpa [ieq, ilt, ile] using hb10
  rw [if_pos hb10] at hx2o
  -- region 5
  refine VW.ws tau_ok Sound.none [some 17, some 4] [(4, .val (i64 s2))] rfl ?_ ?_
  · simp <;> simp [ieq, ilt, ile]
  cases hx2o
  have hq := hx2b _ rfl
  subst hq
  dsimp only at h
  cases h
  refine VW.ret ?_
  simp [Post, PostM, PostC, PostC2, Nx, Bk]

theorem g_slices_ContainsFunc_LI_I_of_i_IsDiassociativeLoop_c1_ok {a0 : List Int} {a1_0_0 : List (List Int)} {a1_1_0 : Int} {a1_2_0 : Int} {r : Bool} (h : g_slices_ContainsFunc_LI_I_of_i_IsDiassociativeLoop_c1 a0 a1_0_0 a1_1_0 a1_2_0 = some r) :
    VCall Try.prog 82 [dI a0, .fn 83 [.ptr [dM a1_0_0], .ptr [i64 a1_1_0], .ptr [i64 a1_2_0]]] [.sc (.bool r)] := by
  unfold g_slices_ContainsFunc_LI_I_of_i_IsDiassociativeLoop_c1 at h
  refine VCall.enter Try.call82 Try.func82 rfl 9 Try.ntmps82 (by simp) [.tmp 4] rfl ?_
  show VW _ _ _ (mk [(0, .val (dI a0)), (1, .val (.fn 83 [.ptr [dM a1_0_0], .ptr [i64 a1_1_0], .ptr [i64 a1_2_0]]))]) _
  -- region 0
  refine VW.ws tau_ok Sound.none [some 4] [(0, .val (dI a0)), (1, .val (.fn 83 [.ptr [dM a1_0_0], .ptr [i64 a1_1_0], .ptr [i64 a1_2_0]]))] rfl ?_ ?_
  · simp <;> simp [ieq, ilt, ile]
  -- region 1
  obtain ⟨v1, hv1, h⟩ := bind_some h
  refine VW.ws tau_ok (Sound.none.add 7 (g_slices_IndexFunc_LI_I_of_i_IsDiassociativeLoop_c1_ok hv1) rfl) [some 5, some 6, some 7, some 8, some 4] [(4, .val (.bool (ile 0 v1)))] rfl ?_ ?_
  · simp <;> simp [ieq, ilt, ile]
  cases h
  refine VW.ret ?_
  simp [Post, PostM, PostC, PostC2, Nx, Bk]
end Go.Vam
