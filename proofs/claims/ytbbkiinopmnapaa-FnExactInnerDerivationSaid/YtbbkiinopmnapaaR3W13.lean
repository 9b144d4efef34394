import Derived.Test.YtbbkiinopmnapaaR3T
import Derived.Test.YtbbkiinopmnapaaFnD
import Derived.Test.YtbbkiinopmnapaaR3W2
import Derived.Test.YtbbkiinopmnapaaR3W3
import Derived.Test.YtbbkiinopmnapaaR3W4
import Derived.Test.YtbbkiinopmnapaaR3W5
import Derived.Test.YtbbkiinopmnapaaR3W9
import Derived.Test.YtbbkiinopmnapaaR3W11
namespace Go.Vam
open Go Go.RowKit Go.Proofs
set_option maxRecDepth 100000
set_option linter.unusedSimpArgs false
set_option linter.unusedVariables false

theorem s_l11Code_ok {a0_0 : Int} {a0_1 : List Int} {a1 : List (List Int)} {r : Int} (h : s_l11Code a0_0 a0_1 a1 = some r) :
    VCall Try.prog 202 [.agg [i64 a0_0, dI a0_1], dM a1] [.sc (i64 r)] := by
  unfold s_l11Code at h
  refine VCall.enter Try.call202 Try.func202 rfl 22 Try.ntmps202 (by simp) [.tmp 4] rfl ?_
  show VW _ _ _ (mk [(0, .val (.agg [i64 a0_0, dI a0_1])), (1, .val (dM a1))]) _
  -- region 0
  refine VW.ws tau_ok Sound.none [some 2, some 4] [(1, .val (dM a1)), (2, .val (.ptr [i64 a0_0, dI a0_1]))] rfl ?_ ?_
  · simp <;> simp [ieq, ilt, ile]
  refine VW.sqc fun K1 hK1 hCK1 => ?_
  -- region 1
  obtain ⟨v2, hv2, h⟩ := bind_some h
  refine VW.ws tau_ok (Sound.none.add 7 (s_l11Is_ok hv2) rfl) [some 6, some 7, some 8] [(1, .val (dM a1)), (2, .val (.ptr [i64 a0_0, dI a0_1])), (8, .val (.bool (!v2)))] rfl ?_ ?_
  · simp <;> simp [ieq, ilt, ile]
  refine VW.cond rfl (fun hb3 => ?_) (fun hb3 => ?_)
  ·
    replace hb3 : v2 = false := by simpa [ieq, ilt, ile] using hb3
    rw [if_pos hb3] at h
    -- region 2
    refine VW.ws tau_ok Sound.none [some 4] [(4, .val (i64 1))] rfl ?_ ?_
    · simp <;> simp [ieq, ilt, ile]
    cases h
    refine VW.ret ?_
    simp [Post, PostM, PostC, PostC2, Nx, Bk]
  replace hb3 : ¬ (v2 = false) := by simpa [ieq, ilt, ile] using hb3
  rw [if_neg hb3] at h
  refine VW.skip ?_
  refine hK1 _ ?_
  refine VW.sqc fun K4 hK4 hCK4 => ?_
  -- region 3
  refine VW.ws tau_ok Sound.none [some 5] [(1, .val (dM a1)), (2, .val (.ptr [i64 a0_0, dI a0_1])), (5, .val (i64 0))] rfl ?_ ?_
  · simp <;> simp [ieq, ilt, ile]
  obtain ⟨x5, hx5, h⟩ := bind_some h
  refine VW.tlO (fun y7 => []) x5 (hCK4) ?_ ?_
  · clear hx5
    rintro y7 rfl
    dsimp only at h
    refine hK4 _ ?_
    -- region 8
    refine VW.ws tau_ok Sound.none [some 4] [(4, .val (i64 0))] rfl ?_ ?_
    · simp <;> simp [ieq, ilt, ile]
    cases h
    refine VW.ret ?_
    simp [Post, PostM, PostC, PostC2, Nx, Bk]
  refine VW.block ?_
  refine VW.loopF (s_l11Code_L0 a0_0 a0_1 a1) (fun s5 => [(1, .val (dM a1)), (2, .val (.ptr [i64 a0_0, dI a0_1])), (5, .val (i64 s5))]) hx5 (Fits.of rfl) ?_
  clear hx5
  intro s5 ox5 hx5o hx5b
  unfold s_l11Code_L0 at hx5o
  refine VW.sqc fun K8 hK8 hCK8 => ?_
  -- region 4
  refine VW.ws tau_ok Sound.none [some 9, some 10, some 11, some 12] [(1, .val (dM a1)), (2, .val (.ptr [i64 a0_0, dI a0_1])), (5, .val (i64 s5)), (12, .val (.bool (ilt s5 (a1.length : Int))))] rfl ?_ ?_
  · simp <;> simp [ieq, ilt, ile]
  refine VW.cond rfl (fun hb9 => ?_) (fun hb9 => ?_)
  rotate_left
  ·
    replace hb9 : ¬ (s5 < (a1.length : Int)) := by simpa [ieq, ilt, ile] using hb9
    rw [if_neg hb9] at hx5o
    refine VW.exit ?_
    cases hx5o
    have hq := hx5b _ rfl
    subst hq
    exact ⟨_, rfl, Fits.of rfl⟩
  replace hb9 : s5 < (a1.length : Int) := by simpa [ieq, ilt, ile] using hb9
  rw [if_pos hb9] at hx5o
  refine VW.skip ?_
  refine hK8 _ ?_
  refine VW.sqc fun K10 hK10 hCK10 => ?_
  refine VW.block ?_
  -- region 6
  obtain ⟨v11, hv11, hx5o⟩ := bind_some hx5o
  obtain ⟨hv11a, hv11b, hv11c, hv11d⟩ := idx_some hv11
  obtain ⟨v12, hv12, hx5o⟩ := bind_some hx5o
  refine VW.wds tau_ok (Sound.none.add 20 (s_l11Element_ok hv12) rfl) try_mixed [some 15, some 16, some 17, some 18, some 19, some 20, some 21] [(1, .val (dM a1)), (2, .val (.ptr [i64 a0_0, dI a0_1])), (5, .val (i64 s5)), (21, .val (.bool (!v12)))] 7 rfl (by kernel_rfl) (by rfl) ?_ ?_
  · simp [hv11a, hv11b, hv11c, hv11d] <;> simp [ieq, ilt, ile]
  refine VW.cond rfl (fun hb13 => ?_) (fun hb13 => ?_)
  rotate_left
  ·
    replace hb13 : ¬ (v12 = false) := by simpa [ieq, ilt, ile] using hb13
    rw [if_neg hb13] at hx5o
    refine VW.skip ?_
    refine hK10 _ ?_
    -- region 5
    refine VW.wr tau_ok Sound.none [some 13, some 14, some 5] [(1, .val (dM a1)), (2, .val (.ptr [i64 a0_0, dI a0_1])), (5, .val (i64 (w64 (s5 + 1))))] rfl ?_ ?_
    · simp <;> simp [ieq, ilt, ile]
    cases hx5o
    exact ⟨_, rfl, Fits.of rfl⟩
  replace hb13 : v12 = false := by simpa [ieq, ilt, ile] using hb13
  rw [if_pos hb13] at hx5o
  -- region 7
  refine VW.ws tau_ok Sound.none [some 4] [(4, .val (i64 2))] rfl ?_ ?_
  · simp <;> simp [ieq, ilt, ile]
  cases hx5o
  have hq := hx5b _ rfl
  subst hq
  dsimp only at h
  cases h
  refine VW.ret ?_
  simp [Post, PostM, PostC, PostC2, Nx, Bk]

theorem s_l14Elements_ok {a0_0 : Int} {a0_1 : List Int} {a1 : List (List Int)} {r : Int} (h : s_l14Elements a0_0 a0_1 a1 = some r) :
    VCall Try.prog 133 [.agg [i64 a0_0, dI a0_1], dM a1] [.sc (i64 r)] := by
  unfold s_l14Elements at h
  refine VCall.enter Try.call133 Try.func133 rfl 14 Try.ntmps133 (by simp) [.tmp 4] rfl ?_
  show VW _ _ _ (mk [(0, .val (.agg [i64 a0_0, dI a0_1])), (1, .val (dM a1))]) _
  -- region 0
  refine VW.ws tau_ok Sound.none [some 2, some 4] [(1, .val (dM a1)), (2, .val (.ptr [i64 a0_0, dI a0_1]))] rfl ?_ ?_
  · simp <;> simp [ieq, ilt, ile]
  refine VW.sqc fun K1 hK1 hCK1 => ?_
  -- region 1
  obtain ⟨v2, hv2, h⟩ := bind_some h
  refine VW.ws tau_ok (Sound.none.add 7 (s_l14Code_ok hv2) rfl) [some 6, some 7, some 5] [(1, .val (dM a1)), (2, .val (.ptr [i64 a0_0, dI a0_1])), (5, .val (i64 v2))] rfl ?_ ?_
  · simp <;> simp [ieq, ilt, ile]
  -- region 2
  refine VW.ws tau_ok Sound.none [some 8, some 9] [(1, .val (dM a1)), (2, .val (.ptr [i64 a0_0, dI a0_1])), (5, .val (i64 v2)), (9, .val (.bool (!(ieq v2 0))))] rfl ?_ ?_
  · simp <;> simp [ieq, ilt, ile]
  refine VW.cond rfl (fun hb3 => ?_) (fun hb3 => ?_)
  ·
    replace hb3 : ¬ v2 = 0 := by simpa [ieq, ilt, ile] using hb3
    rw [if_pos hb3] at h
    -- region 3
    refine VW.ws tau_ok Sound.none [some 10, some 4] [(4, .val (i64 v2))] rfl ?_ ?_
    · simp <;> simp [ieq, ilt, ile]
    cases h
    refine VW.ret ?_
    simp [Post, PostM, PostC, PostC2, Nx, Bk]
  replace hb3 : ¬ (¬ v2 = 0) := by simpa [ieq, ilt, ile] using hb3
  rw [if_neg hb3] at h
  refine VW.skip ?_
  refine hK1 _ ?_
  -- region 4
  obtain ⟨v4, hv4, h⟩ := bind_some h
  refine VW.ws tau_ok (Sound.none.add 13 (s_l11Code_ok hv4) rfl) [some 11, some 12, some 13, some 4] [(4, .val (i64 v4))] rfl ?_ ?_
  · simp <;> simp [ieq, ilt, ile]
  cases h
  refine VW.ret ?_
  simp [Post, PostM, PostC, PostC2, Nx, Bk]

theorem s_l12Commutator_ok {a0_0 : Int} {a0_1 : List Int} {a1 : List Int} {a2 : List Int} {r : List Int} (h : s_l12Commutator a0_0 a0_1 a1 a2 = some r) :
    VCall Try.prog 203 [.agg [i64 a0_0, dI a0_1], dI a1, dI a2] [.own true (dI r)] := by
  unfold s_l12Commutator at h
  refine VCall.enter Try.call203 Try.func203 rfl 18 Try.ntmps203 (by simp) [.tmp 6] rfl ?_
  show VW _ _ _ (mk [(0, .val (.agg [i64 a0_0, dI a0_1])), (1, .val (dI a1)), (2, .val (dI a2))]) _
  -- region 0
  refine VW.ws tau_ok Sound.none [some 3, some 6] [(1, .val (dI a1)), (2, .val (dI a2)), (3, .val (.ptr [i64 a0_0, dI a0_1]))] rfl ?_ ?_
  · simp <;> simp [ieq, ilt, ile]
  -- region 1
  obtain ⟨v1, hv1, h⟩ := bind_some h
  obtain ⟨v2, hv2, h⟩ := bind_some h
  obtain ⟨v3, hv3, h⟩ := bind_some h
  refine VW.wds tau_ok (((Sound.none.add 12 (s_l11Times_ok hv1) rfl).add 16 (s_l11Times_ok hv2) rfl).add 17 (s_l11Minus_ok hv3) rfl) try_mixed [some 7, some 8, some 9, some 10, some 11, some 12, some 13, some 14, some 15, some 16, some 17, some 6] [(6, .ref 6 [] true (dI v3))] 11 rfl (by kernel_rfl) (by rfl) ?_ ?_
  · simp <;> simp [ieq, ilt, ile]
  cases h
  refine VW.ret ?_
  simp [Post, PostM, PostC, PostC2, Nx, Bk]

theorem s_l12Associator_ok {a0_0 : Int} {a0_1 : List Int} {a1 : List Int} {a2 : List Int} {a3 : List Int} {r : List Int} (h : s_l12Associator a0_0 a0_1 a1 a2 a3 = some r) :
    VCall Try.prog 207 [.agg [i64 a0_0, dI a0_1], dI a1, dI a2, dI a3] [.own true (dI r)] := by
  unfold s_l12Associator at h
  refine VCall.enter Try.call207 Try.func207 rfl 26 Try.ntmps207 (by simp) [.tmp 8] rfl ?_
  show VW _ _ _ (mk [(0, .val (.agg [i64 a0_0, dI a0_1])), (1, .val (dI a1)), (2, .val (dI a2)), (3, .val (dI a3))]) _
  -- region 0
  refine VW.ws tau_ok Sound.none [some 4, some 8] [(1, .val (dI a1)), (2, .val (dI a2)), (3, .val (dI a3)), (4, .val (.ptr [i64 a0_0, dI a0_1]))] rfl ?_ ?_
  · simp <;> simp [ieq, ilt, ile]
  -- region 1
  obtain ⟨v1, hv1, h⟩ := bind_some h
  obtain ⟨v2, hv2, h⟩ := bind_some h
  obtain ⟨v3, hv3, h⟩ := bind_some h
  obtain ⟨v4, hv4, h⟩ := bind_some h
  obtain ⟨v5, hv5, h⟩ := bind_some h
  refine VW.wds tau_ok (((((Sound.none.add 15 (s_l11Times_ok hv1) rfl).add 17 (s_l11Times_ok hv2) rfl).add 23 (s_l11Times_ok hv3) rfl).add 24 (s_l11Times_ok hv4) rfl).add 25 (s_l11Minus_ok hv5) rfl) try_mixed [some 9, some 10, some 11, some 12, some 13, some 14, some 15, some 16, some 17, some 18, some 19, some 20, some 21, some 22, some 23, some 24, some 25, some 8] [(8, .ref 8 [] true (dI v5))] 17 rfl (by kernel_rfl) (by rfl) ?_ ?_
  · simp <;> simp [ieq, ilt, ile]
  cases h
  refine VW.ret ?_
  simp [Post, PostM, PostC, PostC2, Nx, Bk]

theorem s_l11Columns_ok {a0 : List (List Int)} {r : List (List Int)} (h : s_l11Columns a0 = some r) :
    VCall Try.prog 208 [dM a0] [.own true (dM r)] := by
  unfold s_l11Columns at h
  refine VCall.enter Try.call208 Try.func208 rfl 36 Try.ntmps208 (by simp) [.tmp 2] rfl ?_
  show VW _ _ _ (mk [(0, .val (dM a0))]) _
  -- region 0
  refine VW.ws tau_ok Sound.none [some 2] [(0, .val (dM a0))] rfl ?_ ?_
  · simp <;> simp [ieq, ilt, ile]
  -- region 1
  refine VW.ws tau_ok Sound.none [some 7, some 3] [(0, .val (dM a0)), (3, .ref 3 [] true (dM []))] rfl ?_ ?_
  · simp <;> simp [ieq, ilt, ile]
  refine VW.sqc fun K1 hK1 hCK1 => ?_
  -- region 2
  refine VW.ws tau_ok Sound.none [some 4] [(0, .val (dM a0)), (3, .ref 3 [] true (dM [])), (4, .val (i64 0))] rfl ?_ ?_
  · simp <;> simp [ieq, ilt, ile]
  obtain ⟨x2, hx2, h⟩ := bind_some h
  refine VW.tlE [(3, .ref 3 [] true (dM x2))] (hCK1) ?_ ?_
  · clear hx2
    refine hK1 _ ?_
    -- region 11
    refine VW.ws tau_ok Sound.none [some 35, some 2] [(2, .ref 2 [] true (dM x2))] rfl ?_ ?_
    · simp <;> simp [ieq, ilt, ile]
    cases h
    refine VW.ret ?_
    simp [Post, PostM, PostC, PostC2, Nx, Bk]
  refine VW.block ?_
  refine VW.loopF (s_l11Columns_L0 a0) (fun s2 => [(0, .val (dM a0)), (3, .ref 3 [] true (dM s2.1)), (4, .val (i64 s2.2))]) hx2 (Fits.of rfl) ?_
  clear hx2
  intro s2 ox2 hx2o hx2b
  unfold s_l11Columns_L0 at hx2o
  refine VW.sqc fun K4 hK4 hCK4 => ?_
  -- region 3
  refine VW.ws tau_ok Sound.none [some 8, some 9, some 10, some 11] [(0, .val (dM a0)), (3, .ref 3 [] true (dM s2.1)), (4, .val (i64 s2.2)), (11, .val (.bool (ilt s2.2 (a0.length : Int))))] rfl ?_ ?_
  · simp <;> simp [ieq, ilt, ile]
  refine VW.cond rfl (fun hb5 => ?_) (fun hb5 => ?_)
  rotate_left
  ·
    replace hb5 : ¬ (s2.2 < (a0.length : Int)) := by simpa [ieq, ilt, ile] using hb5
    rw [if_neg hb5] at hx2o
    refine VW.exit ?_
    cases hx2o
    have hq := hx2b _ rfl
    subst hq
    exact Fits.of rfl
  replace hb5 : s2.2 < (a0.length : Int) := by simpa [ieq, ilt, ile] using hb5
  rw [if_pos hb5] at hx2o
  refine VW.skip ?_
  refine hK4 _ ?_
  refine VW.sqc fun K6 hK6 hCK6 => ?_
  refine VW.block ?_
  -- region 5
  refine VW.ws tau_ok Sound.none [some 14, some 5] [(0, .val (dM a0)), (3, .ref 3 [] true (dM s2.1)), (4, .val (i64 s2.2)), (5, .ref 5 [] true (dI []))] rfl ?_ ?_
  · simp <;> simp [ieq, ilt, ile]
  refine VW.sqc fun K7 hK7 hCK7 => ?_
  -- region 6
  refine VW.ws tau_ok Sound.none [some 6] [(0, .val (dM a0)), (3, .ref 3 [] true (dM s2.1)), (4, .val (i64 s2.2)), (5, .ref 5 [] true (dI [])), (6, .val (i64 0))] rfl ?_ ?_
  · simp <;> simp [ieq, ilt, ile]
  obtain ⟨x8, hx8, hx2o⟩ := bind_some hx2o
  refine VW.tlE [(0, .val (dM a0)), (3, .ref 3 [] true (dM s2.1)), (4, .val (i64 s2.2)), (5, .ref 5 [] true (dI x8))] (hCK7) ?_ ?_
  · clear hx8
    refine hK7 _ ?_
    -- region 10
    obtain ⟨hc16, hx2o⟩ := chk_some hx2o
    have hc16s := hc16
    try simp at hc16s
    refine VW.wr tau_ok Sound.none [some 31, some 32, some 33, some 34, some 3] [(0, .val (dM a0)), (3, .ref 3 [] true (dM (s2.1 ++ [x8]))), (4, .val (i64 s2.2))] rfl ?_ ?_
    · simp [hc16, hc16s] <;> simp [ieq, ilt, ile]
    refine hK6 _ ?_
    -- region 4
    refine VW.wr tau_ok Sound.none [some 12, some 13, some 4] [(0, .val (dM a0)), (3, .ref 3 [] true (dM (s2.1 ++ [x8]))), (4, .val (i64 (w64 (s2.2 + 1))))] rfl ?_ ?_
    · simp <;> simp [ieq, ilt, ile]
    cases hx2o
    exact ⟨_, rfl, Fits.of rfl⟩
  refine VW.block ?_
  refine VW.loopF (s_l11Columns_L1 a0 s2) (fun s8 => [(0, .val (dM a0)), (3, .ref 3 [] true (dM s2.1)), (4, .val (i64 s2.2)), (5, .ref 5 [] true (dI s8.1)), (6, .val (i64 s8.2))]) hx8 (Fits.of rfl) ?_
  clear hx8
  intro s8 ox8 hx8o hx8b
  unfold s_l11Columns_L1 at hx8o
  refine VW.sqc fun K10 hK10 hCK10 => ?_
  -- region 7
  refine VW.ws tau_ok Sound.none [some 15, some 16, some 17, some 18] [(0, .val (dM a0)), (3, .ref 3 [] true (dM s2.1)), (4, .val (i64 s2.2)), (5, .ref 5 [] true (dI s8.1)), (6, .val (i64 s8.2)), (18, .val (.bool (ilt s8.2 (a0.length : Int))))] rfl ?_ ?_
  · simp <;> simp [ieq, ilt, ile]
  refine VW.cond rfl (fun hb11 => ?_) (fun hb11 => ?_)
  rotate_left
  ·
    replace hb11 : ¬ (s8.2 < (a0.length : Int)) := by simpa [ieq, ilt, ile] using hb11
    rw [if_neg hb11] at hx8o
    refine VW.exit ?_
    cases hx8o
    have hq := hx8b _ rfl
    subst hq
    exact Fits.of rfl
  replace hb11 : s8.2 < (a0.length : Int) := by simpa [ieq, ilt, ile] using hb11
  rw [if_pos hb11] at hx8o
  refine VW.skip ?_
  refine hK10 _ ?_
  refine VW.sqc fun K12 hK12 hCK12 => ?_
  refine VW.block ?_
  -- region 9
  obtain ⟨v13, hv13, hx8o⟩ := bind_some hx8o
  obtain ⟨hv13a, hv13b, hv13c, hv13d⟩ := idx_some hv13
  obtain ⟨v14, hv14, hx8o⟩ := bind_some hx8o
  obtain ⟨hv14a, hv14b, hv14c, hv14d⟩ := idx_some hv14
  obtain ⟨hc15, hx8o⟩ := chk_some hx8o
  have hc15s := hc15
  try simp at hc15s
  refine VW.wr tau_ok Sound.none [some 21, some 22, some 23, some 24, some 25, some 26, some 27, some 28, some 29, some 30, some 5] [(0, .val (dM a0)), (3, .ref 3 [] true (dM s2.1)), (4, .val (i64 s2.2)), (5, .ref 5 [] true (dI (s8.1 ++ [v14]))), (6, .val (i64 s8.2))] rfl ?_ ?_
  · simp [hv13a, hv13b, hv13c, hv13d, hv14a, hv14b, hv14c, hv14d, hc15, hc15s] <;> simp [ieq, ilt, ile]
  refine hK12 _ ?_
  -- region 8
  refine VW.wr tau_ok Sound.none [some 19, some 20, some 6] [(0, .val (dM a0)), (3, .ref 3 [] true (dM s2.1)), (4, .val (i64 s2.2)), (5, .ref 5 [] true (dI (s8.1 ++ [v14]))), (6, .val (i64 (w64 (s8.2 + 1))))] rfl ?_ ?_
  · simp <;> simp [ieq, ilt, ile]
  cases hx8o
  exact ⟨_, rfl, Fits.of rfl⟩

theorem s_l14Inner_ok {a0_0 : Int} {a0_1 : List Int} {a1 : List Int} {a2 : List Int} {r : List (List Int)} (h : s_l14Inner a0_0 a0_1 a1 a2 = some r) :
    VCall Try.prog 134 [.agg [i64 a0_0, dI a0_1], dI a1, dI a2] [.own true (dM r)] := by
  unfold s_l14Inner at h
  refine VCall.enter Try.call134 Try.func134 rfl 45 Try.ntmps134 (by simp) [.tmp 6] rfl ?_
  show VW _ _ _ (mk [(0, .val (.agg [i64 a0_0, dI a0_1])), (1, .val (dI a1)), (2, .val (dI a2))]) _
  -- region 0
  refine VW.ws tau_ok Sound.none [some 3, some 6] [(1, .val (dI a1)), (2, .val (dI a2)), (3, .val (.ptr [i64 a0_0, dI a0_1]))] rfl ?_ ?_
  · simp <;> simp [ieq, ilt, ile]
  -- region 1
  obtain ⟨v1, hv1, h⟩ := bind_some h
  refine VW.ws tau_ok (Sound.none.add 15 (s_l12Commutator_ok hv1) rfl) [some 11, some 12, some 13, some 14, some 15, some 7, some 8] [(1, .val (dI a1)), (2, .val (dI a2)), (3, .val (.ptr [i64 a0_0, dI a0_1])), (7, .ref 7 [] true (dM [])), (8, .ref 8 [] true (dI v1))] rfl ?_ ?_
  · simp <;> simp [ieq, ilt, ile]
  refine VW.sqc fun K2 hK2 hCK2 => ?_
  -- region 2
  refine VW.ws tau_ok Sound.none [some 9] [(1, .val (dI a1)), (2, .val (dI a2)), (3, .val (.ptr [i64 a0_0, dI a0_1])), (7, .ref 7 [] true (dM [])), (8, .ref 8 [] true (dI v1)), (9, .val (i64 0))] rfl ?_ ?_
  · simp <;> simp [ieq, ilt, ile]
  obtain ⟨x3, hx3, h⟩ := bind_some h
  refine VW.tlE [(7, .ref 7 [] true (dM x3))] (hCK2) ?_ ?_
  · clear hx3
    refine hK2 _ ?_
    -- region 7
    obtain ⟨v15, hv15, h⟩ := bind_some h
    refine VW.ws tau_ok (Sound.none.add 44 (s_l11Columns_ok hv15) rfl) [some 43, some 44, some 6] [(6, .ref 6 [] true (dM v15))] rfl ?_ ?_
    · simp <;> simp [ieq, ilt, ile]
    cases h
    refine VW.ret ?_
    simp [Post, PostM, PostC, PostC2, Nx, Bk]
  refine VW.block ?_
  refine VW.loopF (s_l14Inner_L0 a0_0 a0_1 a1 a2 v1) (fun s3 => [(1, .val (dI a1)), (2, .val (dI a2)), (3, .val (.ptr [i64 a0_0, dI a0_1])), (7, .ref 7 [] true (dM s3.1)), (8, .ref 8 [] true (dI v1)), (9, .val (i64 s3.2))]) hx3 (Fits.of rfl) ?_
  clear hx3
  intro s3 ox3 hx3o hx3b
  unfold s_l14Inner_L0 at hx3o
  refine VW.sqc fun K5 hK5 hCK5 => ?_
  -- region 3
  obtain ⟨v6, hv6, hx3o⟩ := bind_some hx3o
  refine VW.ws tau_ok (Sound.none.add 18 (s_l11Size_ok hv6) rfl) [some 16, some 17, some 18, some 19] [(1, .val (dI a1)), (2, .val (dI a2)), (3, .val (.ptr [i64 a0_0, dI a0_1])), (7, .ref 7 [] true (dM s3.1)), (8, .ref 8 [] true (dI v1)), (9, .val (i64 s3.2)), (19, .val (.bool (ilt s3.2 v6)))] rfl ?_ ?_
  · simp <;> simp [ieq, ilt, ile]
  refine VW.cond rfl (fun hb7 => ?_) (fun hb7 => ?_)
  rotate_left
  ·
    replace hb7 : ¬ (s3.2 < v6) := by simpa [ieq, ilt, ile] using hb7
    rw [if_neg hb7] at hx3o
    refine VW.exit ?_
    cases hx3o
    have hq := hx3b _ rfl
    subst hq
    exact Fits.of rfl
  replace hb7 : s3.2 < v6 := by simpa [ieq, ilt, ile] using hb7
  rw [if_pos hb7] at hx3o
  refine VW.skip ?_
  refine hK5 _ ?_
  refine VW.sqc fun K8 hK8 hCK8 => ?_
  refine VW.block ?_
  -- region 5
  obtain ⟨v9, hv9, hx3o⟩ := bind_some hx3o
  refine VW.ws tau_ok (Sound.none.add 24 (s_l11One_ok hv9) rfl) [some 22, some 23, some 24, some 10] [(1, .val (dI a1)), (2, .val (dI a2)), (3, .val (.ptr [i64 a0_0, dI a0_1])), (7, .ref 7 [] true (dM s3.1)), (8, .ref 8 [] true (dI v1)), (9, .val (i64 s3.2)), (10, .ref 10 [] true (dI v9))] rfl ?_ ?_
  · simp <;> simp [ieq, ilt, ile]
  -- region 6
  obtain ⟨v10, hv10, hx3o⟩ := bind_some hx3o
  obtain ⟨v11, hv11, hx3o⟩ := bind_some hx3o
  obtain ⟨v12, hv12, hx3o⟩ := bind_some hx3o
  obtain ⟨v13, hv13, hx3o⟩ := bind_some hx3o
  obtain ⟨hc14, hx3o⟩ := chk_some hx3o
  have hc14s := hc14
  try simp at hc14s
  refine VW.wdr tau_ok ((((Sound.none.add 31 (s_l12Commutator_ok hv10) rfl).add 38 (s_l12Associator_ok hv11) rfl).add 39 (s_l11Scale_ok hv12) rfl).add 40 (s_l11Minus_ok hv13) rfl) try_mixed [some 25, some 26, some 27, some 28, some 29, some 30, some 31, some 32, some 33, some 34, some 35, some 36, some 37, some 38, some 39, some 40, some 41, some 42, some 7] [(1, .val (dI a1)), (2, .val (dI a2)), (3, .val (.ptr [i64 a0_0, dI a0_1])), (7, .ref 7 [] true (dM (s3.1 ++ [v13]))), (8, .ref 8 [] true (dI v1)), (9, .val (i64 s3.2))] 16 rfl (by kernel_rfl) (by rfl) ?_ ?_
  · simp [hc14, hc14s] <;> simp [ieq, ilt, ile]
  refine hK8 _ ?_
  -- region 4
  refine VW.wr tau_ok Sound.none [some 20, some 21, some 9] [(1, .val (dI a1)), (2, .val (dI a2)), (3, .val (.ptr [i64 a0_0, dI a0_1])), (7, .ref 7 [] true (dM (s3.1 ++ [v13]))), (8, .ref 8 [] true (dI v1)), (9, .val (i64 (w64 (s3.2 + 1))))] rfl ?_ ?_
  · simp <;> simp [ieq, ilt, ile]
  cases hx3o
  exact ⟨_, rfl, Fits.of rfl⟩

theorem s_InnerDerivation_ok {a0_0 : Int} {a0_1 : List Int} {a1 : List Int} {a2 : List Int} {r : (List (List Int)) × Int} (h : s_InnerDerivation a0_0 a0_1 a1 a2 = some r) :
    VCall Try.prog 74 [.agg [i64 a0_0, dI a0_1], dI a1, dI a2] [.own true (dM r.1), .sc (i64 r.2)] := by
  unfold s_InnerDerivation at h
  refine VCall.enter Try.call74 Try.func74 rfl 21 Try.ntmps74 (by simp) [.tmp 6, .tmp 7] rfl ?_
  show VW _ _ _ (mk [(0, .val (.agg [i64 a0_0, dI a0_1])), (1, .val (dI a1)), (2, .val (dI a2))]) _
  -- region 0
  refine VW.ws tau_ok Sound.none [some 3, some 6, some 7] [(1, .val (dI a1)), (2, .val (dI a2)), (3, .val (.ptr [i64 a0_0, dI a0_1]))] rfl ?_ ?_
  · simp <;> simp [ieq, ilt, ile]
  refine VW.sqc fun K1 hK1 hCK1 => ?_
  -- region 1
  obtain ⟨v2, hv2, h⟩ := bind_some h
  refine VW.ws tau_ok (Sound.none.add 13 (s_l14Elements_ok hv2) rfl) [some 9, some 10, some 11, some 12, some 13, some 8] [(1, .val (dI a1)), (2, .val (dI a2)), (3, .val (.ptr [i64 a0_0, dI a0_1])), (8, .val (i64 v2))] rfl ?_ ?_
  · simp <;> simp [ieq, ilt, ile]
  -- region 2
  refine VW.ws tau_ok Sound.none [some 14, some 15] [(1, .val (dI a1)), (2, .val (dI a2)), (3, .val (.ptr [i64 a0_0, dI a0_1])), (8, .val (i64 v2)), (15, .val (.bool (!(ieq v2 0))))] rfl ?_ ?_
  · simp <;> simp [ieq, ilt, ile]
  refine VW.cond rfl (fun hb3 => ?_) (fun hb3 => ?_)
  ·
    replace hb3 : ¬ v2 = 0 := by simpa [ieq, ilt, ile] using hb3
    rw [if_pos hb3] at h
    -- region 3
    refine VW.ws tau_ok Sound.none [some 16, some 6, some 7] [(6, .ref 6 [] true (.list [])), (7, .val (i64 v2))] rfl ?_ ?_
    · simp <;> simp [ieq, ilt, ile]
    cases h
    refine VW.ret ?_
    simp [Post, PostM, PostC, PostC2, Nx, Bk]
  replace hb3 : ¬ (¬ v2 = 0) := by simpa [ieq, ilt, ile] using hb3
  rw [if_neg hb3] at h
  refine VW.skip ?_
  refine hK1 _ ?_
  -- region 4
  obtain ⟨v4, hv4, h⟩ := bind_some h
  refine VW.ws tau_ok (Sound.none.add 20 (s_l14Inner_ok hv4) rfl) [some 17, some 18, some 19, some 20, some 6, some 7] [(6, .ref 6 [] true (dM v4)), (7, .val (i64 0))] rfl ?_ ?_
  · simp <;> simp [ieq, ilt, ile]
  cases h
  refine VW.ret ?_
  simp [Post, PostM, PostC, PostC2, Nx, Bk]

theorem i_Doubling_commutator_ok {a0_0 : Int} {a0_1 : List Int} {a1 : List Int} {a2 : List Int} {r : List Int} (h : i_Doubling_commutator a0_0 a0_1 a1 a2 = some r) :
    VCall Try.prog 139 [.agg [i64 a0_0, dI a0_1], dI a1, dI a2] [.own true (dI r)] := by
  unfold i_Doubling_commutator at h
  refine VCall.enter Try.call139 Try.func139 rfl 18 Try.ntmps139 (by simp) [.tmp 6] rfl ?_
  show VW _ _ _ (mk [(0, .val (.agg [i64 a0_0, dI a0_1])), (1, .val (dI a1)), (2, .val (dI a2))]) _
  -- region 0
  refine VW.ws tau_ok Sound.none [some 3, some 6] [(1, .val (dI a1)), (2, .val (dI a2)), (3, .val (.ptr [i64 a0_0, dI a0_1]))] rfl ?_ ?_
  · simp <;> simp [ieq, ilt, ile]
  -- region 1
  obtain ⟨v1, hv1, h⟩ := bind_some h
  obtain ⟨v2, hv2, h⟩ := bind_some h
  obtain ⟨v3, hv3, h⟩ := bind_some h
  obtain ⟨v4, hv4, h⟩ := bind_some h
  refine VW.wds tau_ok ((((Sound.none.add 8 (i_Doubling_field_ok hv1) rfl).add 12 (i_Doubling_times_ok hv2) rfl).add 16 (i_Doubling_times_ok hv3) rfl).add 17 (i_field_plus_ok hv4) rfl) try_mixed [some 7, some 8, some 9, some 10, some 11, some 12, some 13, some 14, some 15, some 16, some 17, some 6] [(6, .ref 6 [] true (dI v4))] 11 rfl (by kernel_rfl) (by rfl) ?_ ?_
  · simp <;> simp [ieq, ilt, ile]
  cases h
  refine VW.ret ?_
  simp [Post, PostM, PostC, PostC2, Nx, Bk]

theorem i_Doubling_associator_ok {a0_0 : Int} {a0_1 : List Int} {a1 : List Int} {a2 : List Int} {a3 : List Int} {r : List Int} (h : i_Doubling_associator a0_0 a0_1 a1 a2 a3 = some r) :
    VCall Try.prog 140 [.agg [i64 a0_0, dI a0_1], dI a1, dI a2, dI a3] [.own true (dI r)] := by
  unfold i_Doubling_associator at h
  refine VCall.enter Try.call140 Try.func140 rfl 26 Try.ntmps140 (by simp) [.tmp 8] rfl ?_
  show VW _ _ _ (mk [(0, .val (.agg [i64 a0_0, dI a0_1])), (1, .val (dI a1)), (2, .val (dI a2)), (3, .val (dI a3))]) _
  -- region 0
  refine VW.ws tau_ok Sound.none [some 4, some 8] [(1, .val (dI a1)), (2, .val (dI a2)), (3, .val (dI a3)), (4, .val (.ptr [i64 a0_0, dI a0_1]))] rfl ?_ ?_
  · simp <;> simp [ieq, ilt, ile]
  -- region 1
  obtain ⟨v1, hv1, h⟩ := bind_some h
  obtain ⟨v2, hv2, h⟩ := bind_some h
  obtain ⟨v3, hv3, h⟩ := bind_some h
  obtain ⟨v4, hv4, h⟩ := bind_some h
  obtain ⟨v5, hv5, h⟩ := bind_some h
  obtain ⟨v6, hv6, h⟩ := bind_some h
  refine VW.wds tau_ok ((((((Sound.none.add 10 (i_Doubling_field_ok hv1) rfl).add 15 (i_Doubling_times_ok hv2) rfl).add 17 (i_Doubling_times_ok hv3) rfl).add 23 (i_Doubling_times_ok hv4) rfl).add 24 (i_Doubling_times_ok hv5) rfl).add 25 (i_field_plus_ok hv6) rfl) try_mixed [some 9, some 10, some 11, some 12, some 13, some 14, some 15, some 16, some 17, some 18, some 19, some 20, some 21, some 22, some 23, some 24, some 25, some 8] [(8, .ref 8 [] true (dI v6))] 17 rfl (by kernel_rfl) (by rfl) ?_ ?_
  · simp <;> simp [ieq, ilt, ile]
  cases h
  refine VW.ret ?_
  simp [Post, PostM, PostC, PostC2, Nx, Bk]

theorem i_InnerDerivation_c1_ok {a0 : List Int} {a1_0 : Int} {a1_1 : List Int} {a2_0 : List Int} {a3_0 : List Int} {r : List Int} (h : i_InnerDerivation_c1 a0 a1_0 a1_1 a2_0 a3_0 = some r) :
    VCall Try.prog 136 [dI a0, .ptr [i64 a1_0, dI a1_1], .ptr [dI a2_0], .ptr [dI a3_0]] [.own true (dI r)] := by
  unfold i_InnerDerivation_c1 at h
  refine VCall.enter Try.call136 Try.func136 rfl 21 Try.ntmps136 (by simp) [.tmp 5] rfl ?_
  show VW _ _ _ (mk [(0, .val (dI a0)), (1, .val (.ptr [i64 a1_0, dI a1_1])), (2, .val (.ptr [dI a2_0])), (3, .val (.ptr [dI a3_0]))]) _
  -- region 0
  refine VW.ws tau_ok Sound.none [some 5] [(0, .val (dI a0)), (1, .val (.ptr [i64 a1_0, dI a1_1])), (2, .val (.ptr [dI a2_0])), (3, .val (.ptr [dI a3_0]))] rfl ?_ ?_
  · simp <;> simp [ieq, ilt, ile]
  -- region 1
  obtain ⟨v1, hv1, h⟩ := bind_some h
  obtain ⟨v2, hv2, h⟩ := bind_some h
  obtain ⟨v3, hv3, h⟩ := bind_some h
  obtain ⟨v4, hv4, h⟩ := bind_some h
  obtain ⟨v5, hv5, h⟩ := bind_some h
  refine VW.wds tau_ok (((((Sound.none.add 7 (i_Doubling_field_ok hv1) rfl).add 12 (i_Doubling_commutator_ok hv2) rfl).add 14 (i_Doubling_commutator_ok hv3) rfl).add 19 (i_Doubling_associator_ok hv4) rfl).add 20 (i_field_plus_ok hv5) rfl) try_mixed [some 6, some 7, some 8, some 9, some 10, some 11, some 12, some 13, some 14, some 15, some 16, some 17, some 18, some 19, some 20, some 5] [(5, .ref 5 [] true (dI v5))] 15 rfl (by kernel_rfl) (by rfl) ?_ ?_
  · simp <;> simp [ieq, ilt, ile]
  cases h
  refine VW.ret ?_
  simp [Post, PostM, PostC, PostC2, Nx, Bk]

theorem i_Doubling_matrixOf_of_i_InnerDerivation_c1_ok {a0_0 : Int} {a0_1 : List Int} {a1_0_0 : Int} {a1_0_1 : List Int} {a1_1_0 : List Int} {a1_2_0 : List Int} {r : List (List Int)} (h : i_Doubling_matrixOf_of_i_InnerDerivation_c1 a0_0 a0_1 a1_0_0 a1_0_1 a1_1_0 a1_2_0 = some r) :
    VCall Try.prog 135 [.agg [i64 a0_0, dI a0_1], .fn 136 [.ptr [i64 a1_0_0, dI a1_0_1], .ptr [dI a1_1_0], .ptr [dI a1_2_0]]] [.own true (dM r)] := by
  unfold i_Doubling_matrixOf_of_i_InnerDerivation_c1 at h
  refine VCall.enter Try.call135 Try.func135 rfl 26 Try.ntmps135 (by simp) [.tmp 4] rfl ?_
  show VW _ _ _ (mk [(0, .val (.agg [i64 a0_0, dI a0_1])), (1, .val (.fn 136 [.ptr [i64 a1_0_0, dI a1_0_1], .ptr [dI a1_1_0], .ptr [dI a1_2_0]]))]) _
  -- region 0
  refine VW.ws tau_ok Sound.none [some 2, some 4] [(1, .val (.fn 136 [.ptr [i64 a1_0_0, dI a1_0_1], .ptr [dI a1_1_0], .ptr [dI a1_2_0]])), (2, .val (.ptr [i64 a0_0, dI a0_1]))] rfl ?_ ?_
  · simp <;> simp [ieq, ilt, ile]
  -- region 1
  refine VW.ws tau_ok Sound.none [some 8, some 5] [(1, .val (.fn 136 [.ptr [i64 a1_0_0, dI a1_0_1], .ptr [dI a1_1_0], .ptr [dI a1_2_0]])), (2, .val (.ptr [i64 a0_0, dI a0_1])), (5, .ref 5 [] true (dM []))] rfl ?_ ?_
  · simp <;> simp [ieq, ilt, ile]
  refine VW.sqc fun K1 hK1 hCK1 => ?_
  -- region 2
  obtain ⟨v2, hv2, h⟩ := bind_some h
  obtain ⟨v3, hv3, h⟩ := bind_some h
  refine VW.ws tau_ok ((Sound.none.add 10 (i_Doubling_size_ok hv2) rfl).add 11 (i_unit_ok hv3) rfl) [some 9, some 10, some 11, some 12, some 13] [(1, .val (.fn 136 [.ptr [i64 a1_0_0, dI a1_0_1], .ptr [dI a1_1_0], .ptr [dI a1_2_0]])), (5, .ref 5 [] true (dM [])), (11, .ref 11 [] true (dM v3)), (12, .val (i64 (v3.length : Int))), (13, .val (i64 0))] rfl ?_ ?_
  · simp <;> simp [ieq, ilt, ile]
  obtain ⟨x4, hx4, h⟩ := bind_some h
  refine VW.tlE [(5, .ref 5 [] true (dM x4))] (hCK1) ?_ ?_
  · clear hx4
    refine hK1 _ ?_
    -- region 7
    obtain ⟨v12, hv12, h⟩ := bind_some h
    refine VW.ws tau_ok (Sound.none.add 25 (i_transpose_ok hv12) rfl) [some 24, some 25, some 4] [(4, .ref 4 [] true (dM v12))] rfl ?_ ?_
    · simp <;> simp [ieq, ilt, ile]
    cases h
    refine VW.ret ?_
    simp [Post, PostM, PostC, PostC2, Nx, Bk]
  refine VW.block ?_
  refine VW.loopF (i_Doubling_matrixOf_of_i_InnerDerivation_c1_L0 a1_0_0 a1_0_1 a1_1_0 a1_2_0 v3) (fun s4 => [(1, .val (.fn 136 [.ptr [i64 a1_0_0, dI a1_0_1], .ptr [dI a1_1_0], .ptr [dI a1_2_0]])), (5, .ref 5 [] true (dM s4.1)), (11, .ref 11 [] true (dM v3)), (12, .val (i64 (v3.length : Int))), (13, .val (i64 s4.2))]) hx4 (Fits.of rfl) ?_
  clear hx4
  intro s4 ox4 hx4o hx4b
  unfold i_Doubling_matrixOf_of_i_InnerDerivation_c1_L0 at hx4o
  -- region 3
  refine VW.ws tau_ok Sound.none [some 14] [(1, .val (.fn 136 [.ptr [i64 a1_0_0, dI a1_0_1], .ptr [dI a1_1_0], .ptr [dI a1_2_0]])), (5, .ref 5 [] true (dM s4.1)), (11, .ref 11 [] true (dM v3)), (12, .val (i64 (v3.length : Int))), (13, .val (i64 s4.2)), (14, .val (.bool (ilt s4.2 (v3.length : Int))))] rfl ?_ ?_
  · simp <;> simp [ieq, ilt, ile]
  refine VW.sqc fun K6 hK6 hCK6 => ?_
  refine VW.cond rfl (fun hb7 => ?_) (fun hb7 => ?_)
  rotate_left
  ·
    replace hb7 : ¬ (s4.2 < (v3.length : Int)) := by simpa [ieq, ilt, ile] using hb7
    rw [if_neg hb7] at hx4o
    refine VW.exit ?_
    cases hx4o
    have hq := hx4b _ rfl
    subst hq
    exact Fits.of rfl
  replace hb7 : s4.2 < (v3.length : Int) := by simpa [ieq, ilt, ile] using hb7
  rw [if_pos hb7] at hx4o
  refine VW.skip ?_
  refine hK6 _ ?_
  refine VW.sqc fun K8 hK8 hCK8 => ?_
  refine VW.block ?_
  -- region 4
  obtain ⟨v9, hv9, hx4o⟩ := bind_some hx4o
  obtain ⟨hv9a, hv9b, hv9c, hv9d⟩ := idx_some hv9
  refine VW.ws tau_ok Sound.none [some 15, some 16, some 7] [(1, .val (.fn 136 [.ptr [i64 a1_0_0, dI a1_0_1], .ptr [dI a1_1_0], .ptr [dI a1_2_0]])), (5, .ref 5 [] true (dM s4.1)), (7, .ref 11 [s4.2.toNat] true (dI v9)), (11, .ref 11 [] true (dM v3)), (12, .val (i64 (v3.length : Int))), (13, .val (i64 s4.2))] rfl ?_ ?_
  · simp [hv9a, hv9b, hv9c, hv9d] <;> simp [ieq, ilt, ile]
  -- region 5
  obtain ⟨v10, hv10, hx4o⟩ := bind_some hx4o
  obtain ⟨hc11, hx4o⟩ := chk_some hx4o
  have hc11s := hc11
  try simp at hc11s
  refine VW.wr tau_ok (Sound.none.add 20 (i_InnerDerivation_c1_ok hv10) rfl) [some 17, some 18, some 19, some 20, some 21, some 22, some 5] [(1, .val (.fn 136 [.ptr [i64 a1_0_0, dI a1_0_1], .ptr [dI a1_1_0], .ptr [dI a1_2_0]])), (5, .ref 5 [] true (dM (s4.1 ++ [v10]))), (11, .ref 11 [] true (dM v3)), (12, .val (i64 (v3.length : Int))), (13, .val (i64 s4.2))] rfl ?_ ?_
  · simp [hc11, hc11s] <;> simp [ieq, ilt, ile]
  refine hK8 _ ?_
  -- region 6
  refine VW.wr tau_ok Sound.none [some 23, some 13] [(1, .val (.fn 136 [.ptr [i64 a1_0_0, dI a1_0_1], .ptr [dI a1_1_0], .ptr [dI a1_2_0]])), (5, .ref 5 [] true (dM (s4.1 ++ [v10]))), (11, .ref 11 [] true (dM v3)), (12, .val (i64 (v3.length : Int))), (13, .val (i64 (w64 (s4.2 + 1))))] rfl ?_ ?_
  · simp <;> simp [ieq, ilt, ile]
  cases hx4o
  exact ⟨_, rfl, Fits.of rfl⟩

theorem i_InnerDerivation_ok {a0_0 : Int} {a0_1 : List Int} {a1 : List Int} {a2 : List Int} {r : (List (List Int)) × Int} (h : i_InnerDerivation a0_0 a0_1 a1 a2 = some r) :
    VCall Try.prog 75 [.agg [i64 a0_0, dI a0_1], dI a1, dI a2] [.own true (dM r.1), .sc (i64 r.2)] := by
  unfold i_InnerDerivation at h
  refine VCall.enter Try.call75 Try.func75 rfl 20 Try.ntmps75 (by simp) [.tmp 6, .tmp 7] rfl ?_
  show VW _ _ _ (mk [(0, .val (.agg [i64 a0_0, dI a0_1])), (1, .val (dI a1)), (2, .val (dI a2))]) _
  -- region 0
  refine VW.ws tau_ok Sound.none [some 3, some 4, some 5, some 6, some 7] [(3, .val (.ptr [i64 a0_0, dI a0_1])), (4, .val (.ptr [dI a1])), (5, .val (.ptr [dI a2]))] rfl ?_ ?_
  · simp <;> simp [ieq, ilt, ile]
  refine VW.sqc fun K1 hK1 hCK1 => ?_
  -- region 1
  obtain ⟨v2, hv2, h⟩ := bind_some h
  refine VW.ws tau_ok (Sound.none.add 13 (i_checkThree_ok hv2) rfl) [some 9, some 10, some 11, some 12, some 13, some 8] [(3, .val (.ptr [i64 a0_0, dI a0_1])), (4, .val (.ptr [dI a1])), (5, .val (.ptr [dI a2])), (8, .val (i64 v2))] rfl ?_ ?_
  · simp <;> simp [ieq, ilt, ile]
  -- region 2
  refine VW.ws tau_ok Sound.none [some 14, some 15] [(3, .val (.ptr [i64 a0_0, dI a0_1])), (4, .val (.ptr [dI a1])), (5, .val (.ptr [dI a2])), (8, .val (i64 v2)), (15, .val (.bool (!(ieq v2 0))))] rfl ?_ ?_
  · simp <;> simp [ieq, ilt, ile]
  refine VW.cond rfl (fun hb3 => ?_) (fun hb3 => ?_)
  ·
    replace hb3 : ¬ v2 = 0 := by simpa [ieq, ilt, ile] using hb3
    rw [if_pos hb3] at h
    -- region 3
    refine VW.ws tau_ok Sound.none [some 16, some 6, some 7] [(6, .ref 6 [] true (.list [])), (7, .val (i64 v2))] rfl ?_ ?_
    · simp <;> simp [ieq, ilt, ile]
    cases h
    refine VW.ret ?_
    simp [Post, PostM, PostC, PostC2, Nx, Bk]
  replace hb3 : ¬ (¬ v2 = 0) := by simpa [ieq, ilt, ile] using hb3
  rw [if_neg hb3] at h
  refine VW.skip ?_
  refine hK1 _ ?_
  -- region 4
  obtain ⟨v4, hv4, h⟩ := bind_some h
  refine VW.ws tau_ok (Sound.none.add 19 (i_Doubling_matrixOf_of_i_InnerDerivation_c1_ok hv4) rfl) [some 17, some 18, some 19, some 6, some 7] [(6, .ref 6 [] true (dM v4)), (7, .val (i64 0))] rfl ?_ ?_
  · simp <;> simp [ieq, ilt, ile]
  cases h
  refine VW.ret ?_
  simp [Post, PostM, PostC, PostC2, Nx, Bk]

theorem l_markDoubling_ok {a0_0 : Int} {a0_1 : List Int} {a1 : Int} {r : Int} (h : l_markDoubling a0_0 a0_1 a1 = some r) :
    VSpoil Try.prog 59 (.agg [i64 a0_0, dI a0_1]) [i64 a1] (i64 r) := by
  unfold l_markDoubling at h
  refine VSpoil.enter Try.call59 Try.func59 rfl 10 Try.ntmps59 (by simp) 4 rfl ?_
  show VW _ _ _ (mk [(0, .ref 0 [] true (.agg [i64 a0_0, dI a0_1])), (1, .val (i64 a1))]) _
  -- region 0
  refine VW.ws tau_ok Sound.none [some 2, some 4] [(1, .val (i64 a1)), (2, .ref 2 [] true (.ptr [i64 a0_0, dI a0_1]))] rfl ?_ ?_
  · simp <;> simp [ieq, ilt, ile]
  -- region 1
  obtain ⟨v1, hv1, h⟩ := bind_some h
  refine VW.ws tau_ok (Sound.none.mutc 8 (l_markInt64S_ok hv1)) [some 5, some 6, some 7, some 8, some 1] [(1, .val (i64 v1.1))] rfl ?_ ?_
  · simp <;> simp [ieq, ilt, ile]
  -- region 2
  refine VW.ws tau_ok Sound.none [some 9, some 4] [(4, .val (i64 v1.1))] rfl ?_ ?_
  · simp <;> simp [ieq, ilt, ile]
  cases h
  refine VW.ret ?_
  simp [Post, PostM, PostC, PostC2, Nx, Bk]

theorem l_heldInt64SS_ok {a0 : List (List Int)} {a1 : Int} {r : Int} (h : l_heldInt64SS a0 a1 = some r) :
    VCall Try.prog 64 [dM a0, i64 a1] [.sc (i64 r)] := by
  unfold l_heldInt64SS at h
  refine VCall.enter Try.call64 Try.func64 rfl 21 Try.ntmps64 (by simp) [.tmp 4] rfl ?_
  show VW _ _ _ (mk [(0, .val (dM a0)), (1, .val (i64 a1))]) _
  -- region 0
  refine VW.ws tau_ok Sound.none [some 4] [(0, .val (dM a0)), (1, .val (i64 a1))] rfl ?_ ?_
  · simp <;> simp [ieq, ilt, ile]
  refine VW.sqc fun K1 hK1 hCK1 => ?_
  -- region 1
  refine VW.ws tau_ok Sound.none [some 5] [(0, .val (dM a0)), (1, .val (i64 a1)), (5, .val (i64 0))] rfl ?_ ?_
  · simp <;> simp [ieq, ilt, ile]
  obtain ⟨x2, hx2, h⟩ := bind_some h
  refine VW.tlO (fun y4 => [(1, .val (i64 y4))]) x2 (hCK1) ?_ ?_
  · clear hx2
    rintro y4 rfl
    dsimp only at h
    refine hK1 _ ?_
    -- region 7
    refine VW.ws tau_ok Sound.none [some 20, some 4] [(4, .val (i64 y4))] rfl ?_ ?_
    · simp <;> simp [ieq, ilt, ile]
    cases h
    refine VW.ret ?_
    simp [Post, PostM, PostC, PostC2, Nx, Bk]
  refine VW.block ?_
  refine VW.loopF (l_heldInt64SS_L0 a0) (fun s2 => [(0, .val (dM a0)), (1, .val (i64 s2.1)), (5, .val (i64 s2.2))]) hx2 (Fits.of rfl) ?_
  clear hx2
  intro s2 ox2 hx2o hx2b
  unfold l_heldInt64SS_L0 at hx2o
  refine VW.sqc fun K5 hK5 hCK5 => ?_
  -- region 2
  refine VW.ws tau_ok Sound.none [some 6, some 7, some 8, some 9] [(0, .val (dM a0)), (1, .val (i64 s2.1)), (5, .val (i64 s2.2)), (9, .val (.bool (ilt s2.2 (a0.length : Int))))] rfl ?_ ?_
  · simp <;> simp [ieq, ilt, ile]
  refine VW.cond rfl (fun hb6 => ?_) (fun hb6 => ?_)
  rotate_left
  ·
    replace hb6 : ¬ (s2.2 < (a0.length : Int)) := by simpa [ieq, ilt, ile] using hb6
    rw [if_neg hb6] at hx2o
    refine VW.exit ?_
    cases hx2o
    have hq := hx2b _ rfl
    subst hq
    exact ⟨_, rfl, Fits.of rfl⟩
  replace hb6 : s2.2 < (a0.length : Int) := by simpa [ieq, ilt, ile] using hb6
  rw [if_pos hb6] at hx2o
  refine VW.skip ?_
  refine hK5 _ ?_
  refine VW.sqc fun K7 hK7 hCK7 => ?_
  refine VW.block ?_
  -- region 4
  obtain ⟨v8, hv8, hx2o⟩ := bind_some hx2o
  obtain ⟨hv8a, hv8b, hv8c, hv8d⟩ := idx_some hv8
  obtain ⟨v9, hv9, hx2o⟩ := bind_some hx2o
  refine VW.ws tau_ok (Sound.none.add 17 (l_heldInt64S_ok hv9) rfl) [some 12, some 13, some 14, some 15, some 16, some 17, some 1] [(0, .val (dM a0)), (1, .val (i64 v9)), (5, .val (i64 s2.2))] rfl ?_ ?_
  · simp [hv8a, hv8b, hv8c, hv8d] <;> simp [ieq, ilt, ile]
  -- region 5
  refine VW.ws tau_ok Sound.none [some 18, some 19] [(0, .val (dM a0)), (1, .val (i64 v9)), (5, .val (i64 s2.2)), (19, .val (.bool (ilt v9 0)))] rfl ?_ ?_
  · simp <;> simp [ieq, ilt, ile]
  refine VW.cond rfl (fun hb10 => ?_) (fun hb10 => ?_)
  rotate_left
  ·
    replace hb10 : ¬ (v9 < 0) := by simpa [ieq, ilt, ile] using hb10
    rw [if_neg hb10] at hx2o
    refine VW.skip ?_
    refine hK7 _ ?_
    -- region 3
    refine VW.wr tau_ok Sound.none [some 10, some 11, some 5] [(0, .val (dM a0)), (1, .val (i64 v9)), (5, .val (i64 (w64 (s2.2 + 1))))] rfl ?_ ?_
    · simp <;> simp [ieq, ilt, ile]
    cases hx2o
    exact ⟨_, rfl, Fits.of rfl⟩
  replace hb10 : v9 < 0 := by simpa [ieq, ilt, ile] using hb10
  rw [if_pos hb10] at hx2o
  -- region 6
  refine VW.ws tau_ok Sound.none [some 4] [(4, .val (i64 (-1)))] rfl ?_ ?_
  · simp <;> simp [ieq, ilt, ile]
  cases hx2o
  have hq := hx2b _ rfl
  subst hq
  dsimp only at h
  cases h
  refine VW.ret ?_
  simp [Post, PostM, PostC, PostC2, Nx, Bk]
end Go.Vam
