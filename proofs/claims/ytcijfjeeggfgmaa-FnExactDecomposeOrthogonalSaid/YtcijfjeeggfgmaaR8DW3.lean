import Derived.Test.YtcijfjeeggfgmaaR8T
import Derived.Test.YtcijfjeeggfgmaaFmG0
import Derived.Test.YtcijfjeeggfgmaaR8DW1
import Derived.Test.YtcijfjeeggfgmaaR8DW2
namespace Go.Vam
open Go Go.RowKit Go.Proofs
set_option maxRecDepth 100000
set_option linter.unusedSimpArgs false
set_option linter.unusedVariables false

theorem l_markInt64SS_ok {a0 : List (List Int)} {a1 : Int} {r : Int × (List (List Int))} (h : l_markInt64SS a0 a1 = some r) :
    VMut Try.prog 24 (dM a0) [i64 a1] (i64 r.1) (dM r.2) := by
  unfold l_markInt64SS at h
  refine VMut.enter Try.call24 Try.func24 rfl 19 Try.ntmps24 (by simp) [.tmp 4] rfl ?_
  show VW _ _ _ (mk [(0, .ref 0 [] true (dM a0)), (1, .val (i64 a1))]) _
  -- region 0
  refine VW.ws tau_ok Sound.none [some 4] [(0, .ref 0 [] true (dM a0)), (1, .val (i64 a1))] rfl ?_ ?_
  · simp <;> simp [ieq, ilt, ile]
  refine VW.sqc fun K1 hK1 hCK1 => ?_
  -- region 1
  refine VW.ws tau_ok Sound.none [some 5] [(0, .ref 0 [] true (dM a0)), (1, .val (i64 a1)), (5, .val (i64 0))] rfl ?_ ?_
  · simp <;> simp [ieq, ilt, ile]
  obtain ⟨x2, hx2, h⟩ := bind_some h
  refine VW.tlE [(0, .ref 0 [] true (dM x2.1)), (1, .val (i64 x2.2))] (hCK1) ?_ ?_
  · clear hx2
    refine hK1 _ ?_
    -- region 5
    refine VW.ws tau_ok Sound.none [some 18, some 4] [(0, .ref 0 [] true (dM x2.1)), (4, .val (i64 x2.2))] rfl ?_ ?_
    · simp <;> simp [ieq, ilt, ile]
    cases h
    refine VW.ret ?_
    simp [Post, PostM, PostC, PostC2, Nx, Bk]
  refine VW.block ?_
  refine VW.loopF l_markInt64SS_L0 (fun s2 => [(0, .ref 0 [] true (dM s2.1)), (1, .val (i64 s2.2.1)), (5, .val (i64 s2.2.2))]) hx2 (Fits.of rfl) ?_
  clear hx2
  intro s2 ox2 hx2o hx2b
  unfold l_markInt64SS_L0 at hx2o
  refine VW.sqc fun K4 hK4 hCK4 => ?_
  -- region 2
  refine VW.ws tau_ok Sound.none [some 6, some 7, some 8, some 9] [(0, .ref 0 [] true (dM s2.1)), (1, .val (i64 s2.2.1)), (5, .val (i64 s2.2.2)), (9, .val (.bool (ilt s2.2.2 (s2.1.length : Int))))] rfl ?_ ?_
  · simp <;> simp [ieq, ilt, ile]
  refine VW.cond rfl (fun hb5 => ?_) (fun hb5 => ?_)
  rotate_left
  ·
    replace hb5 : ¬ (s2.2.2 < (s2.1.length : Int)) := by simpa [ieq, ilt, ile] using hb5
    rw [if_neg hb5] at hx2o
    refine VW.exit ?_
    cases hx2o
    have hq := hx2b _ rfl
    subst hq
    exact Fits.of rfl
  replace hb5 : s2.2.2 < (s2.1.length : Int) := by simpa [ieq, ilt, ile] using hb5
  rw [if_pos hb5] at hx2o
  refine VW.skip ?_
  refine hK4 _ ?_
  refine VW.sqc fun K6 hK6 hCK6 => ?_
  refine VW.block ?_
  -- region 4
  obtain ⟨v7, hv7, hx2o⟩ := bind_some hx2o
  obtain ⟨hv7a, hv7b, hv7c, hv7d⟩ := idx_some hv7
  obtain ⟨v8, hv8, hx2o⟩ := bind_some hx2o
  refine VW.wr tau_ok (Sound.none.mutc 17 (l_markInt64S_ok hv8)) [some 12, some 13, some 14, some 15, some 16, some 17, some 1] [(0, .ref 0 [] true (dM (s2.1.set s2.2.2.toNat v8.2))), (1, .val (i64 v8.1)), (5, .val (i64 s2.2.2))] rfl ?_ ?_
  · simp [hv7a, hv7b, hv7c, hv7d] <;> simp [ieq, ilt, ile]
  refine hK6 _ ?_
  -- region 3
  refine VW.wr tau_ok Sound.none [some 10, some 11, some 5] [(0, .ref 0 [] true (dM (s2.1.set s2.2.2.toNat v8.2))), (1, .val (i64 v8.1)), (5, .val (i64 (w64 (s2.2.2 + 1))))] rfl ?_ ?_
  · simp <;> simp [ieq, ilt, ile]
  cases hx2o
  exact ⟨_, rfl, Fits.of rfl⟩

theorem l_heldInt64S_ok {a0 : List Int} {a1 : Int} {r : Int} (h : l_heldInt64S a0 a1 = some r) :
    VCall Try.prog 50 [dI a0, i64 a1] [.sc (i64 r)] := by
  unfold l_heldInt64S at h
  refine VCall.enter Try.call50 Try.func50 rfl 21 Try.ntmps50 (by simp) [.tmp 4] rfl ?_
  show VW _ _ _ (mk [(0, .val (dI a0)), (1, .val (i64 a1))]) _
  -- region 0
  refine VW.ws tau_ok Sound.none [some 4] [(0, .val (dI a0)), (1, .val (i64 a1))] rfl ?_ ?_
  · simp <;> simp [ieq, ilt, ile]
  refine VW.sqc fun K1 hK1 hCK1 => ?_
  -- region 1
  refine VW.ws tau_ok Sound.none [some 5] [(0, .val (dI a0)), (1, .val (i64 a1)), (5, .val (i64 0))] rfl ?_ ?_
  · simp <;> simp [ieq, ilt, ile]
  obtain ⟨x2, hx2, h⟩ := bind_some h
  refine VW.tlO (fun y4 => [(1, .val (i64 y4))]) x2 (hCK1) ?_ ?_
  · clear hx2
    rintro y4 rfl
    dsimp only at h
    refine hK1 _ ?_
    -- region 7
    refine VW.ws tau_ok Sound.none [some 20, some 4] [(4, .val (i64 y4))] rfl ?_ ?_
    · simp <;> simp [ieq, ilt, ile]
    cases h
    refine VW.ret ?_
    simp [Post, PostM, PostC, PostC2, Nx, Bk]
  refine VW.block ?_
  refine VW.loopF (l_heldInt64S_L0 a0) (fun s2 => [(0, .val (dI a0)), (1, .val (i64 s2.1)), (5, .val (i64 s2.2))]) hx2 (Fits.of rfl) ?_
  clear hx2
  intro s2 ox2 hx2o hx2b
  unfold l_heldInt64S_L0 at hx2o
  refine VW.sqc fun K5 hK5 hCK5 => ?_
  -- region 2
  refine VW.ws tau_ok Sound.none [some 6, some 7, some 8, some 9] [(0, .val (dI a0)), (1, .val (i64 s2.1)), (5, .val (i64 s2.2)), (9, .val (.bool (ilt s2.2 (a0.length : Int))))] rfl ?_ ?_
  · simp <;> simp [ieq, ilt, ile]
  refine VW.cond rfl (fun hb6 => ?_) (fun hb6 => ?_)
  rotate_left
  ·
    replace hb6 : ¬ (s2.2 < (a0.length : Int)) := by simpa [ieq, ilt, ile] using hb6
    rw [if_neg hb6] at hx2o
    refine VW.exit ?_
    cases hx2o
    have hq := hx2b _ rfl
    subst hq
    exact ⟨_, rfl, Fits.of rfl⟩
  replace hb6 : s2.2 < (a0.length : Int) := by simpa [ieq, ilt, ile] using hb6
  rw [if_pos hb6] at hx2o
  refine VW.skip ?_
  refine hK5 _ ?_
  refine VW.sqc fun K7 hK7 hCK7 => ?_
  refine VW.block ?_
  refine VW.sqc fun K8 hK8 hCK8 => ?_
  -- region 4
  obtain ⟨v9, hv9, hx2o⟩ := bind_some hx2o
  obtain ⟨hv9a, hv9b, hv9c, hv9d⟩ := idx_some hv9
  refine VW.ws tau_ok Sound.none [some 12, some 13, some 14, some 15, some 16, some 17] [(0, .val (dI a0)), (1, .val (i64 s2.1)), (5, .val (i64 s2.2)), (17, .val (.bool (!(ieq v9 s2.1))))] rfl ?_ ?_
  · simp [hv9a, hv9b, hv9c, hv9d] <;> simp [ieq, ilt, ile]
  refine VW.cond rfl (fun hb10 => ?_) (fun hb10 => ?_)
  ·
    replace hb10 : ¬ v9 = s2.1 := by simpa [ieq, ilt, ile] using hb10
    rw [if_pos hb10] at hx2o
    -- region 5
    refine VW.ws tau_ok Sound.none [some 4] [(4, .val (i64 (-1)))] rfl ?_ ?_
    · simp <;> simp [ieq, ilt, ile]
    cases hx2o
    have hq := hx2b _ rfl
    subst hq
    dsimp only at h
    cases h
    refine VW.ret ?_
    simp [Post, PostM, PostC, PostC2, Nx, Bk]
  replace hb10 : ¬ (¬ v9 = s2.1) := by simpa [ieq, ilt, ile] using hb10
  rw [if_neg hb10] at hx2o
  refine VW.skip ?_
  refine hK8 _ ?_
  -- region 6
  refine VW.wr tau_ok Sound.none [some 18, some 19, some 1] [(0, .val (dI a0)), (1, .val (i64 (w64 (s2.1 + 1)))), (5, .val (i64 s2.2))] rfl ?_ ?_
  · simp <;> simp [ieq, ilt, ile]
  refine hK7 _ ?_
  -- region 3
  refine VW.wr tau_ok Sound.none [some 10, some 11, some 5] [(0, .val (dI a0)), (1, .val (i64 (w64 (s2.1 + 1)))), (5, .val (i64 (w64 (s2.2 + 1))))] rfl ?_ ?_
  · simp <;> simp [ieq, ilt, ile]
  cases hx2o
  exact ⟨_, rfl, Fits.of rfl⟩

theorem l_heldInt64SS_ok {a0 : List (List Int)} {a1 : Int} {r : Int} (h : l_heldInt64SS a0 a1 = some r) :
    VCall Try.prog 25 [dM a0, i64 a1] [.sc (i64 r)] := by
  unfold l_heldInt64SS at h
  refine VCall.enter Try.call25 Try.func25 rfl 21 Try.ntmps25 (by simp) [.tmp 4] rfl ?_
  show VW _ _ _ (mk [(0, .val (dM a0)), (1, .val (i64 a1))]) _
  -- region 0
  refine VW.ws tau_ok Sound.none [some 4] [(0, .val (dM a0)), (1, .val (i64 a1))] rfl ?_ ?_
  · simp <;> simp [ieq, ilt, ile]
  refine VW.sqc fun K1 hK1 hCK1 => ?_
  -- region 1
  refine VW.ws tau_ok Sound.none [some 5] [(0, .val (dM a0)), (1, .val (i64 a1)), (5, .val (i64 0))] rfl ?_ ?_
  · simp <;> simp [ieq, ilt, ile]
  obtain ⟨x2, hx2, h⟩ := bind_some h
  refine VW.tlO (fun y4 => [(1, .val (i64 y4))]) x2 (hCK1) ?_ ?_
  · clear hx2
    rintro y4 rfl
    dsimp only at h
    refine hK1 _ ?_
    -- region 7
    refine VW.ws tau_ok Sound.none [some 20, some 4] [(4, .val (i64 y4))] rfl ?_ ?_
    · simp <;> simp [ieq, ilt, ile]
    cases h
    refine VW.ret ?_
    simp [Post, PostM, PostC, PostC2, Nx, Bk]
  refine VW.block ?_
  refine VW.loopF (l_heldInt64SS_L0 a0) (fun s2 => [(0, .val (dM a0)), (1, .val (i64 s2.1)), (5, .val (i64 s2.2))]) hx2 (Fits.of rfl) ?_
  clear hx2
  intro s2 ox2 hx2o hx2b
  unfold l_heldInt64SS_L0 at hx2o
  refine VW.sqc fun K5 hK5 hCK5 => ?_
  -- region 2
  refine VW.ws tau_ok Sound.none [some 6, some 7, some 8, some 9] [(0, .val (dM a0)), (1, .val (i64 s2.1)), (5, .val (i64 s2.2)), (9, .val (.bool (ilt s2.2 (a0.length : Int))))] rfl ?_ ?_
  · simp <;> simp [ieq, ilt, ile]
  refine VW.cond rfl (fun hb6 => ?_) (fun hb6 => ?_)
  rotate_left
  ·
    replace hb6 : ¬ (s2.2 < (a0.length : Int)) := by simpa [ieq, ilt, ile] using hb6
    rw [if_neg hb6] at hx2o
    refine VW.exit ?_
    cases hx2o
    have hq := hx2b _ rfl
    subst hq
    exact ⟨_, rfl, Fits.of rfl⟩
  replace hb6 : s2.2 < (a0.length : Int) := by simpa [ieq, ilt, ile] using hb6
  rw [if_pos hb6] at hx2o
  refine VW.skip ?_
  refine hK5 _ ?_
  refine VW.sqc fun K7 hK7 hCK7 => ?_
  refine VW.block ?_
  -- region 4
  obtain ⟨v8, hv8, hx2o⟩ := bind_some hx2o
  obtain ⟨hv8a, hv8b, hv8c, hv8d⟩ := idx_some hv8
  obtain ⟨v9, hv9, hx2o⟩ := bind_some hx2o
  refine VW.ws tau_ok (Sound.none.add 17 (l_heldInt64S_ok hv9) rfl) [some 12, some 13, some 14, some 15, some 16, some 17, some 1] [(0, .val (dM a0)), (1, .val (i64 v9)), (5, .val (i64 s2.2))] rfl ?_ ?_
  · simp [hv8a, hv8b, hv8c, hv8d] <;> simp [ieq, ilt, ile]
  -- region 5
  refine VW.ws tau_ok Sound.none [some 18, some 19] [(0, .val (dM a0)), (1, .val (i64 v9)), (5, .val (i64 s2.2)), (19, .val (.bool (ilt v9 0)))] rfl ?_ ?_
  · simp <;> simp [ieq, ilt, ile]
  refine VW.cond rfl (fun hb10 => ?_) (fun hb10 => ?_)
  rotate_left
  ·
    replace hb10 : ¬ (v9 < 0) := by simpa [ieq, ilt, ile] using hb10
    rw [if_neg hb10] at hx2o
    refine VW.skip ?_
    refine hK7 _ ?_
    -- region 3
    refine VW.wr tau_ok Sound.none [some 10, some 11, some 5] [(0, .val (dM a0)), (1, .val (i64 v9)), (5, .val (i64 (w64 (s2.2 + 1))))] rfl ?_ ?_
    · simp <;> simp [ieq, ilt, ile]
    cases hx2o
    exact ⟨_, rfl, Fits.of rfl⟩
  replace hb10 : v9 < 0 := by simpa [ieq, ilt, ile] using hb10
  rw [if_pos hb10] at hx2o
  -- region 6
  refine VW.ws tau_ok Sound.none [some 4] [(4, .val (i64 (-1)))] rfl ?_ ?_
  · simp <;> simp [ieq, ilt, ile]
  cases hx2o
  have hq := hx2b _ rfl
  subst hq
  dsimp only at h
  cases h
  refine VW.ret ?_
  simp [Post, PostM, PostC, PostC2, Nx, Bk]

theorem l_FnExactDecomposeOrthogonal_ok {a0_0 : Int} {a0_1 : List Int} {a1 : List (List Int)} {r : Bool} (h : l_FnExactDecomposeOrthogonal a0_0 a0_1 a1 = some r) :
    VCall Try.prog 3 [.agg [i64 a0_0, dI a0_1], dM a1] [.sc (.bool r)] := by
  unfold l_FnExactDecomposeOrthogonal at h
  refine VCall.enter Try.call3 Try.func3 rfl 119 Try.ntmps3 (by simp) [.tmp 4] rfl ?_
  show VW _ _ _ (mk [(0, .val (.agg [i64 a0_0, dI a0_1])), (1, .val (dM a1))]) _
  -- region 0
  refine VW.ws tau_ok Sound.none [some 2, some 4] [(1, .val (dM a1)), (2, .val (.ptr [i64 a0_0, dI a0_1]))] rfl ?_ ?_
  · simp <;> simp [ieq, ilt, ile]
  -- region 1
  refine VW.ws tau_ok Sound.none [some 5] [(1, .val (dM a1)), (2, .val (.ptr [i64 a0_0, dI a0_1])), (5, .val (i64 1048576))] rfl ?_ ?_
  · simp <;> simp [ieq, ilt, ile]
  -- region 2
  obtain ⟨v1, hv1, h⟩ := bind_some h
  refine VW.ws tau_ok (Sound.none.add 19 (l_szSpace_ok hv1) rfl) [some 17, some 18, some 19, some 5] [(1, .val (dM a1)), (2, .val (.ptr [i64 a0_0, dI a0_1])), (5, .val (i64 v1))] rfl ?_ ?_
  · simp <;> simp [ieq, ilt, ile]
  refine VW.sqc fun K2 hK2 hCK2 => ?_
  -- region 3
  refine VW.ws tau_ok Sound.none [some 20, some 21] [(1, .val (dM a1)), (2, .val (.ptr [i64 a0_0, dI a0_1])), (5, .val (i64 v1)), (21, .val (.bool (ilt v1 0)))] rfl ?_ ?_
  · simp <;> simp [ieq, ilt, ile]
  refine VW.cond rfl (fun hb3 => ?_) (fun hb3 => ?_)
  ·
    replace hb3 : v1 < 0 := by simpa [ieq, ilt, ile] using hb3
    rw [if_pos hb3] at h
    -- region 4
    refine VW.ws tau_ok Sound.none [some 4] [(4, .val (.bool true))] rfl ?_ ?_
    · simp <;> simp [ieq, ilt, ile]
    cases h
    refine VW.ret ?_
    simp [Post, PostM, PostC, PostC2, Nx, Bk]
  replace hb3 : ¬ (v1 < 0) := by simpa [ieq, ilt, ile] using hb3
  rw [if_neg hb3] at h
  refine VW.skip ?_
  refine hK2 _ ?_
  -- region 5
  obtain ⟨v4, hv4, h⟩ := bind_some h
  refine VW.ws tau_ok (Sound.none.add 24 (l_szInt64SS_ok hv4) rfl) [some 22, some 23, some 24, some 5] [(1, .val (dM a1)), (2, .val (.ptr [i64 a0_0, dI a0_1])), (5, .val (i64 v4))] rfl ?_ ?_
  · simp <;> simp [ieq, ilt, ile]
  refine VW.sqc fun K5 hK5 hCK5 => ?_
  -- region 6
  refine VW.ws tau_ok Sound.none [some 25, some 26] [(1, .val (dM a1)), (2, .val (.ptr [i64 a0_0, dI a0_1])), (26, .val (.bool (ilt v4 0)))] rfl ?_ ?_
  · simp <;> simp [ieq, ilt, ile]
  refine VW.cond rfl (fun hb6 => ?_) (fun hb6 => ?_)
  ·
    replace hb6 : v4 < 0 := by simpa [ieq, ilt, ile] using hb6
    rw [if_pos hb6] at h
    -- region 7
    refine VW.ws tau_ok Sound.none [some 4] [(4, .val (.bool true))] rfl ?_ ?_
    · simp <;> simp [ieq, ilt, ile]
    cases h
    refine VW.ret ?_
    simp [Post, PostM, PostC, PostC2, Nx, Bk]
  replace hb6 : ¬ (v4 < 0) := by simpa [ieq, ilt, ile] using hb6
  rw [if_neg hb6] at h
  refine VW.skip ?_
  refine hK5 _ ?_
  -- region 8
  obtain ⟨v7, hv7, h⟩ := bind_some h
  obtain ⟨v8, hv8, h⟩ := bind_some h
  obtain ⟨v9, hv9, h⟩ := bind_some h
  refine VW.ws tau_ok (((Sound.none.add 29 (l_toSpace_ok hv7) rfl).add 31 (l_toInt64SS_ok hv8) rfl).add 32 (s_DecomposeOrthogonal_ok hv9) rfl) [some 28, some 29, some 30, some 31, some 32, some 27, some 33, some 34, some 6, some 7] [(1, .val (dM a1)), (2, .val (.ptr [i64 a0_0, dI a0_1])), (6, .ref 6 [] false (dM v9.1)), (7, .val (i64 v9.2))] rfl ?_ ?_
  · simp <;> simp [ieq, ilt, ile]
  -- region 9
  obtain ⟨v10, hv10, h⟩ := bind_some h
  refine VW.ws tau_ok (Sound.none.add 36 (l_toSpace_ok hv10) rfl) [some 35, some 36, some 8, none] [(1, .val (dM a1)), (2, .val (.ptr [i64 a0_0, dI a0_1])), (6, .ref 6 [] false (dM v9.1)), (7, .val (i64 v9.2)), (8, .ref 8 [] true (.ptr [i64 v10.1, dI v10.2]))] rfl ?_ ?_
  · simp <;> simp [ieq, ilt, ile]
  -- region 10
  obtain ⟨v11, hv11, h⟩ := bind_some h
  refine VW.ws tau_ok (Sound.none.add 38 (l_toInt64SS_ok hv11) rfl) [some 37, some 38, some 9] [(1, .val (dM a1)), (2, .val (.ptr [i64 a0_0, dI a0_1])), (6, .ref 6 [] false (dM v9.1)), (7, .val (i64 v9.2)), (8, .ref 8 [] true (.ptr [i64 v10.1, dI v10.2])), (9, .ref 9 [] true (dM v11))] rfl ?_ ?_
  · simp <;> simp [ieq, ilt, ile]
  -- region 11
  obtain ⟨v12, hv12, h⟩ := bind_some h
  refine VW.ws tau_ok (Sound.none.add 42 (i_DecomposeOrthogonal_ok hv12) rfl) [some 40, some 41, some 42, some 39, some 43, some 44, some 10, some 11] [(1, .val (dM a1)), (2, .val (.ptr [i64 a0_0, dI a0_1])), (6, .ref 6 [] false (dM v9.1)), (7, .val (i64 v9.2)), (8, .ref 8 [] true (.ptr [i64 v10.1, dI v10.2])), (9, .ref 9 [] true (dM v11)), (10, .ref 10 [] true (dM v12.1)), (11, .val (i64 v12.2))] rfl ?_ ?_
  · simp <;> simp [ieq, ilt, ile]
  refine VW.sqc fun K13 hK13 hCK13 => ?_
  -- region 12
  obtain ⟨x16, hx16, h⟩ := bind_some h
  refine VW.cut [(1, .val (dM a1)), (2, .val (.ptr [i64 a0_0, dI a0_1])), (6, .ref 6 [] false (dM v9.1)), (7, .val (i64 v9.2)), (8, .ref 8 [] true (.ptr [i64 v10.1, dI v10.2])), (9, .ref 9 [] true (dM v11)), (10, .ref 10 [] true (dM v12.1)), (11, .val (i64 v12.2)), (53, .val (.bool x16))] ?_ fun hy => ?_
  rotate_left
  · clear h
    obtain ⟨v14, hv14, hx16⟩ := bind_some hx16
    by_cases hp15 : v14 = false
    · rw [if_pos hp15] at hx16
      have hp15b : v14 = false := by simpa [ieq, ilt, ile] using hp15
      have hp15s := hp15b
      try simp at hp15s
      cases hx16
      refine VW.ws tau_ok (Sound.none.add 47 (l_eqInt64SS_ok hv14) rfl) [some 45, some 46, some 47, some 48, some 49, some 50, some 51, some 52, some 53] _ rfl ?_ hy
      simp [hp15b, hp15s] <;> simp [ieq, ilt, ile]
    · rw [if_neg hp15] at hx16
      have hp15b : v14 = true := by simpa [ieq, ilt, ile] using hp15
      have hp15s := hp15b
      try simp at hp15s
      cases hx16
      refine VW.ws tau_ok (Sound.none.add 47 (l_eqInt64SS_ok hv14) rfl) [some 45, some 46, some 47, some 48, some 49, some 50, some 51, some 52, some 53] _ rfl ?_ hy
      simp [hp15b, hp15s] <;> simp [ieq, ilt, ile]
  refine VW.cond rfl (fun hb17 => ?_) (fun hb17 => ?_)
  ·
    replace hb17 : x16 = true := by simpa [ieq, ilt, ile] using hb17
    rw [if_pos hb17] at h
    -- region 13
    refine VW.ws tau_ok Sound.none [some 4] [(4, .val (.bool false))] rfl ?_ ?_
    · simp <;> simp [ieq, ilt, ile]
    cases h
    refine VW.ret ?_
    simp [Post, PostM, PostC, PostC2, Nx, Bk]
  replace hb17 : ¬ (x16 = true) := by simpa [ieq, ilt, ile] using hb17
  rw [if_neg hb17] at h
  refine VW.skip ?_
  refine hK13 _ ?_
  refine VW.sqc fun K18 hK18 hCK18 => ?_
  -- region 14
  obtain ⟨v19, hv19, h⟩ := bind_some h
  obtain ⟨v20, hv20, h⟩ := bind_some h
  refine VW.wds tau_ok ((Sound.none.add 56 (l_toSpace_ok hv19) rfl).add 57 (l_eqSpace_ok hv20) rfl) try_mixed [some 54, some 55, some 56, some 57, some 58] [(1, .val (dM a1)), (2, .val (.ptr [i64 a0_0, dI a0_1])), (6, .ref 6 [] false (dM v9.1)), (7, .val (i64 v9.2)), (8, .ref 8 [] true (.ptr [i64 v10.1, dI v10.2])), (9, .ref 9 [] true (dM v11)), (10, .ref 10 [] true (dM v12.1)), (11, .val (i64 v12.2)), (58, .val (.bool (!v20)))] 5 rfl (by kernel_rfl) (by rfl) ?_ ?_
  · simp <;> simp [ieq, ilt, ile]
  refine VW.cond rfl (fun hb21 => ?_) (fun hb21 => ?_)
  ·
    replace hb21 : v20 = false := by simpa [ieq, ilt, ile] using hb21
    rw [if_pos hb21] at h
    -- region 15
    refine VW.ws tau_ok Sound.none [some 4] [(4, .val (.bool false))] rfl ?_ ?_
    · simp <;> simp [ieq, ilt, ile]
    cases h
    refine VW.ret ?_
    simp [Post, PostM, PostC, PostC2, Nx, Bk]
  replace hb21 : ¬ (v20 = false) := by simpa [ieq, ilt, ile] using hb21
  rw [if_neg hb21] at h
  refine VW.skip ?_
  refine hK18 _ ?_
  refine VW.sqc fun K22 hK22 hCK22 => ?_
  -- region 16
  obtain ⟨v23, hv23, h⟩ := bind_some h
  obtain ⟨v24, hv24, h⟩ := bind_some h
  refine VW.ws tau_ok ((Sound.none.add 61 (l_toInt64SS_ok hv23) rfl).add 62 (l_eqInt64SS_ok hv24) rfl) [some 59, some 60, some 61, some 62, some 63] [(1, .val (dM a1)), (2, .val (.ptr [i64 a0_0, dI a0_1])), (6, .ref 6 [] false (dM v9.1)), (7, .val (i64 v9.2)), (8, .ref 8 [] true (.ptr [i64 v10.1, dI v10.2])), (9, .ref 9 [] true (dM v11)), (10, .ref 10 [] true (dM v12.1)), (11, .val (i64 v12.2)), (63, .val (.bool (!v24)))] rfl ?_ ?_
  · simp <;> simp [ieq, ilt, ile]
  refine VW.cond rfl (fun hb25 => ?_) (fun hb25 => ?_)
  ·
    replace hb25 : v24 = false := by simpa [ieq, ilt, ile] using hb25
    rw [if_pos hb25] at h
    -- region 17
    refine VW.ws tau_ok Sound.none [some 4] [(4, .val (.bool false))] rfl ?_ ?_
    · simp <;> simp [ieq, ilt, ile]
    cases h
    refine VW.ret ?_
    simp [Post, PostM, PostC, PostC2, Nx, Bk]
  replace hb25 : ¬ (v24 = false) := by simpa [ieq, ilt, ile] using hb25
  rw [if_neg hb25] at h
  refine VW.skip ?_
  refine hK22 _ ?_
  -- region 18
  refine VW.ws tau_ok Sound.none [some 12] [(1, .val (dM a1)), (2, .val (.ptr [i64 a0_0, dI a0_1])), (6, .ref 6 [] false (dM v9.1)), (7, .val (i64 v9.2)), (8, .ref 8 [] true (.ptr [i64 v10.1, dI v10.2])), (9, .ref 9 [] true (dM v11)), (10, .ref 10 [] true (dM v12.1)), (11, .val (i64 v12.2)), (12, .val (i64 1))] rfl ?_ ?_
  · simp <;> simp [ieq, ilt, ile]
  -- region 19
  obtain ⟨v26, hv26, h⟩ := bind_some h
  refine VW.ws tau_ok (Sound.none.spoilc 66 (l_markSpace_ok hv26)) [some 64, some 65, some 66, some 12] [(1, .val (dM a1)), (2, .val (.ptr [i64 a0_0, dI a0_1])), (6, .ref 6 [] false (dM v9.1)), (7, .val (i64 v9.2)), (9, .ref 9 [] true (dM v11)), (10, .ref 10 [] true (dM v12.1)), (11, .val (i64 v12.2)), (12, .val (i64 v26))] rfl ?_ ?_
  · simp <;> simp [ieq, ilt, ile]
  -- region 20
  obtain ⟨v27, hv27, h⟩ := bind_some h
  refine VW.ws tau_ok (Sound.none.mutc 69 (l_markInt64SS_ok hv27)) [some 67, some 68, some 69, some 12] [(1, .val (dM a1)), (2, .val (.ptr [i64 a0_0, dI a0_1])), (6, .ref 6 [] false (dM v9.1)), (7, .val (i64 v9.2)), (10, .ref 10 [] true (dM v12.1)), (11, .val (i64 v12.2)), (12, .val (i64 v27.1))] rfl ?_ ?_
  · simp <;> simp [ieq, ilt, ile]
  refine VW.sqc fun K28 hK28 hCK28 => ?_
  -- region 21
  obtain ⟨x32, hx32, h⟩ := bind_some h
  refine VW.cut [(1, .val (dM a1)), (2, .val (.ptr [i64 a0_0, dI a0_1])), (6, .ref 6 [] false (dM v9.1)), (7, .val (i64 v9.2)), (10, .ref 10 [] true (dM v12.1)), (82, .val (.bool x32))] ?_ fun hy => ?_
  rotate_left
  · clear h
    by_cases hp29 : v27.1 < 0
    · rw [if_pos hp29] at hx32
      have hp29b : ilt v27.1 0 = true := by simpa [ieq, ilt, ile] using hp29
      have hp29s := hp29b
      try simp at hp29s
      cases hx32
      refine VW.ws tau_ok Sound.none [some 70, some 71, some 72, some 73, some 74, some 75, some 76, some 77, some 78, some 79, some 80, some 81, some 82] _ rfl ?_ hy
      simp [hp29b, hp29s] <;> simp [ieq, ilt, ile]
    · rw [if_neg hp29] at hx32
      have hp29b : ilt v27.1 0 = false := by simpa [ieq, ilt, ile] using hp29
      have hp29s := hp29b
      try simp at hp29s
      obtain ⟨v30, hv30, hx32⟩ := bind_some hx32
      by_cases hp31 : v30 = false
      · rw [if_pos hp31] at hx32
        have hp31b : v30 = false := by simpa [ieq, ilt, ile] using hp31
        have hp31s := hp31b
        try simp at hp31s
        cases hx32
        refine VW.ws tau_ok (Sound.none.add 75 (l_eqInt64SS_ok hv30) rfl) [some 70, some 71, some 72, some 73, some 74, some 75, some 76, some 77, some 78, some 79, some 80, some 81, some 82] _ rfl ?_ hy
        simp [hp29b, hp29s, hp31b, hp31s] <;> simp [ieq, ilt, ile]
      · rw [if_neg hp31] at hx32
        have hp31b : v30 = true := by simpa [ieq, ilt, ile] using hp31
        have hp31s := hp31b
        try simp at hp31s
        cases hx32
        refine VW.ws tau_ok (Sound.none.add 75 (l_eqInt64SS_ok hv30) rfl) [some 70, some 71, some 72, some 73, some 74, some 75, some 76, some 77, some 78, some 79, some 80, some 81, some 82] _ rfl ?_ hy
        simp [hp29b, hp29s, hp31b, hp31s] <;> simp [ieq, ilt, ile]
  refine VW.cond rfl (fun hb33 => ?_) (fun hb33 => ?_)
  ·
    replace hb33 : x32 = true := by simpa [ieq, ilt, ile] using hb33
    rw [if_pos hb33] at h
    -- region 22
    refine VW.ws tau_ok Sound.none [some 4] [(4, .val (.bool false))] rfl ?_ ?_
    · simp <;> simp [ieq, ilt, ile]
    cases h
    refine VW.ret ?_
    simp [Post, PostM, PostC, PostC2, Nx, Bk]
  replace hb33 : ¬ (x32 = true) := by simpa [ieq, ilt, ile] using hb33
  rw [if_neg hb33] at h
  refine VW.skip ?_
  refine hK28 _ ?_
  -- region 23
  refine VW.ws tau_ok Sound.none [some 13] [(1, .val (dM a1)), (2, .val (.ptr [i64 a0_0, dI a0_1])), (6, .ref 6 [] false (dM v9.1)), (7, .val (i64 v9.2)), (10, .ref 10 [] true (dM v12.1)), (13, .val (i64 1))] rfl ?_ ?_
  · simp <;> simp [ieq, ilt, ile]
  -- region 24
  obtain ⟨v34, hv34, h⟩ := bind_some h
  refine VW.ws tau_ok (Sound.none.mutc 85 (l_markInt64SS_ok hv34)) [some 83, some 84, some 85, some 13] [(1, .val (dM a1)), (2, .val (.ptr [i64 a0_0, dI a0_1])), (6, .ref 6 [] false (dM v9.1)), (7, .val (i64 v9.2)), (10, .ref 10 [] true (dM v34.2)), (13, .val (i64 v34.1))] rfl ?_ ?_
  · simp <;> simp [ieq, ilt, ile]
  -- region 25
  refine VW.ws tau_ok Sound.none [some 14] [(1, .val (dM a1)), (2, .val (.ptr [i64 a0_0, dI a0_1])), (6, .ref 6 [] false (dM v9.1)), (7, .val (i64 v9.2)), (10, .ref 10 [] true (dM v34.2)), (13, .val (i64 v34.1)), (14, .val (i64 1))] rfl ?_ ?_
  · simp <;> simp [ieq, ilt, ile]
  -- region 26
  obtain ⟨v35, hv35, h⟩ := bind_some h
  refine VW.ws tau_ok (Sound.none.add 88 (l_heldInt64SS_ok hv35) rfl) [some 86, some 87, some 88, some 14] [(1, .val (dM a1)), (2, .val (.ptr [i64 a0_0, dI a0_1])), (6, .ref 6 [] false (dM v9.1)), (7, .val (i64 v9.2)), (10, .ref 10 [] true (dM v34.2)), (13, .val (i64 v34.1)), (14, .val (i64 v35))] rfl ?_ ?_
  · simp <;> simp [ieq, ilt, ile]
  refine VW.sqc fun K36 hK36 hCK36 => ?_
  -- region 27
  refine VW.ws tau_ok Sound.none [some 89, some 90] [(1, .val (dM a1)), (2, .val (.ptr [i64 a0_0, dI a0_1])), (6, .ref 6 [] false (dM v9.1)), (7, .val (i64 v9.2)), (10, .ref 10 [] true (dM v34.2)), (13, .val (i64 v34.1)), (14, .val (i64 v35)), (90, .val (.bool (ilt v35 0)))] rfl ?_ ?_
  · simp <;> simp [ieq, ilt, ile]
  refine VW.cond rfl (fun hb37 => ?_) (fun hb37 => ?_)
  ·
    replace hb37 : v35 < 0 := by simpa [ieq, ilt, ile] using hb37
    rw [if_pos hb37] at h
    -- region 28
    refine VW.ws tau_ok Sound.none [some 4] [(4, .val (.bool false))] rfl ?_ ?_
    · simp <;> simp [ieq, ilt, ile]
    cases h
    refine VW.ret ?_
    simp [Post, PostM, PostC, PostC2, Nx, Bk]
  replace hb37 : ¬ (v35 < 0) := by simpa [ieq, ilt, ile] using hb37
  rw [if_neg hb37] at h
  refine VW.skip ?_
  refine hK36 _ ?_
  refine VW.sqc fun K38 hK38 hCK38 => ?_
  -- region 29
  refine VW.ws tau_ok Sound.none [some 91, some 92, some 93] [(1, .val (dM a1)), (2, .val (.ptr [i64 a0_0, dI a0_1])), (6, .ref 6 [] false (dM v9.1)), (7, .val (i64 v9.2)), (10, .ref 10 [] true (dM v34.2)), (13, .val (i64 v34.1)), (93, .val (.bool (!(ieq v35 v34.1))))] rfl ?_ ?_
  · simp <;> simp [ieq, ilt, ile]
  refine VW.cond rfl (fun hb39 => ?_) (fun hb39 => ?_)
  ·
    replace hb39 : ¬ v35 = v34.1 := by simpa [ieq, ilt, ile] using hb39
    rw [if_pos hb39] at h
    -- region 30
    refine VW.ws tau_ok Sound.none [some 4] [(4, .val (.bool false))] rfl ?_ ?_
    · simp <;> simp [ieq, ilt, ile]
    cases h
    refine VW.ret ?_
    simp [Post, PostM, PostC, PostC2, Nx, Bk]
  replace hb39 : ¬ (¬ v35 = v34.1) := by simpa [ieq, ilt, ile] using hb39
  rw [if_neg hb39] at h
  refine VW.skip ?_
  refine hK38 _ ?_
  -- region 31
  obtain ⟨v40, hv40, h⟩ := bind_some h
  obtain ⟨v41, hv41, h⟩ := bind_some h
  obtain ⟨v42, hv42, h⟩ := bind_some h
  refine VW.ws tau_ok (((Sound.none.add 96 (l_toSpace_ok hv40) rfl).add 98 (l_toInt64SS_ok hv41) rfl).add 99 (i_DecomposeOrthogonal_ok hv42) rfl) [some 95, some 96, some 97, some 98, some 99, some 94, some 100, some 101, some 15, some 16] [(6, .ref 6 [] false (dM v9.1)), (7, .val (i64 v9.2)), (10, .ref 10 [] true (dM v34.2)), (13, .val (i64 v34.1)), (15, .ref 15 [] true (dM v42.1)), (16, .val (i64 v42.2))] rfl ?_ ?_
  · simp <;> simp [ieq, ilt, ile]
  refine VW.sqc fun K43 hK43 hCK43 => ?_
  -- region 32
  obtain ⟨x46, hx46, h⟩ := bind_some h
  refine VW.cut [(10, .ref 10 [] true (dM v34.2)), (13, .val (i64 v34.1)), (110, .val (.bool x46))] ?_ fun hy => ?_
  rotate_left
  · clear h
    obtain ⟨v44, hv44, hx46⟩ := bind_some hx46
    by_cases hp45 : v44 = false
    · rw [if_pos hp45] at hx46
      have hp45b : v44 = false := by simpa [ieq, ilt, ile] using hp45
      have hp45s := hp45b
      try simp at hp45s
      cases hx46
      refine VW.ws tau_ok (Sound.none.add 104 (l_eqInt64SS_ok hv44) rfl) [some 102, some 103, some 104, some 105, some 106, some 107, some 108, some 109, some 110] _ rfl ?_ hy
      simp [hp45b, hp45s] <;> simp [ieq, ilt, ile]
    · rw [if_neg hp45] at hx46
      have hp45b : v44 = true := by simpa [ieq, ilt, ile] using hp45
      have hp45s := hp45b
      try simp at hp45s
      cases hx46
      refine VW.ws tau_ok (Sound.none.add 104 (l_eqInt64SS_ok hv44) rfl) [some 102, some 103, some 104, some 105, some 106, some 107, some 108, some 109, some 110] _ rfl ?_ hy
      simp [hp45b, hp45s] <;> simp [ieq, ilt, ile]
  refine VW.cond rfl (fun hb47 => ?_) (fun hb47 => ?_)
  ·
    replace hb47 : x46 = true := by simpa [ieq, ilt, ile] using hb47
    rw [if_pos hb47] at h
    -- region 33
    refine VW.ws tau_ok Sound.none [some 4] [(4, .val (.bool false))] rfl ?_ ?_
    · simp <;> simp [ieq, ilt, ile]
    cases h
    refine VW.ret ?_
    simp [Post, PostM, PostC, PostC2, Nx, Bk]
  replace hb47 : ¬ (x46 = true) := by simpa [ieq, ilt, ile] using hb47
  rw [if_neg hb47] at h
  refine VW.skip ?_
  refine hK43 _ ?_
  -- region 34
  refine VW.ws tau_ok Sound.none [some 14] [(10, .ref 10 [] true (dM v34.2)), (13, .val (i64 v34.1)), (14, .val (i64 1))] rfl ?_ ?_
  · simp <;> simp [ieq, ilt, ile]
  -- region 35
  obtain ⟨v48, hv48, h⟩ := bind_some h
  refine VW.ws tau_ok (Sound.none.add 113 (l_heldInt64SS_ok hv48) rfl) [some 111, some 112, some 113, some 14] [(13, .val (i64 v34.1)), (14, .val (i64 v48))] rfl ?_ ?_
  · simp <;> simp [ieq, ilt, ile]
  refine VW.sqc fun K49 hK49 hCK49 => ?_
  -- region 36
  refine VW.ws tau_ok Sound.none [some 114, some 115] [(13, .val (i64 v34.1)), (14, .val (i64 v48)), (115, .val (.bool (ilt v48 0)))] rfl ?_ ?_
  · simp <;> simp [ieq, ilt, ile]
  refine VW.cond rfl (fun hb50 => ?_) (fun hb50 => ?_)
  ·
    replace hb50 : v48 < 0 := by simpa [ieq, ilt, ile] using hb50
    rw [if_pos hb50] at h
    -- region 37
    refine VW.ws tau_ok Sound.none [some 4] [(4, .val (.bool false))] rfl ?_ ?_
    · simp <;> simp [ieq, ilt, ile]
    cases h
    refine VW.ret ?_
    simp [Post, PostM, PostC, PostC2, Nx, Bk]
  replace hb50 : ¬ (v48 < 0) := by simpa [ieq, ilt, ile] using hb50
  rw [if_neg hb50] at h
  refine VW.skip ?_
  refine hK49 _ ?_
  refine VW.sqc fun K51 hK51 hCK51 => ?_
  -- region 38
  refine VW.ws tau_ok Sound.none [some 116, some 117, some 118] [(118, .val (.bool (!(ieq v48 v34.1))))] rfl ?_ ?_
  · simp <;> simp [ieq, ilt, ile]
  refine VW.cond rfl (fun hb52 => ?_) (fun hb52 => ?_)
  ·
    replace hb52 : ¬ v48 = v34.1 := by simpa [ieq, ilt, ile] using hb52
    rw [if_pos hb52] at h
    -- region 39
    refine VW.ws tau_ok Sound.none [some 4] [(4, .val (.bool false))] rfl ?_ ?_
    · simp <;> simp [ieq, ilt, ile]
    cases h
    refine VW.ret ?_
    simp [Post, PostM, PostC, PostC2, Nx, Bk]
  replace hb52 : ¬ (¬ v48 = v34.1) := by simpa [ieq, ilt, ile] using hb52
  rw [if_neg hb52] at h
  refine VW.skip ?_
  refine hK51 _ ?_
  -- region 40
  refine VW.ws tau_ok Sound.none [some 4] [(4, .val (.bool true))] rfl ?_ ?_
  · simp <;> simp [ieq, ilt, ile]
  cases h
  refine VW.ret ?_
  simp [Post, PostM, PostC, PostC2, Nx, Bk]
end Go.Vam
