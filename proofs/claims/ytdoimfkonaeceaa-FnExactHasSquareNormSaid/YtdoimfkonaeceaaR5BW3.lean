import Derived.Test.YtdoimfkonaeceaaR5T
import Derived.Test.YtdoimfkonaeceaaFnE
import Derived.Test.YtdoimfkonaeceaaR5BW1
import Derived.Test.YtdoimfkonaeceaaR5BW2
namespace Go.Vam
open Go Go.RowKit Go.Proofs
set_option maxRecDepth 100000
set_option linter.unusedSimpArgs false
set_option linter.unusedVariables false

theorem l_eqInt64SS_ok {a0 : List (List Int)} {a1 : List (List Int)} {r : Bool} (h : l_eqInt64SS a0 a1 = some r) :
    VCall Try.prog 22 [dM a0, dM a1] [.sc (.bool r)] := by
  unfold l_eqInt64SS at h
  refine VCall.enter Try.call22 Try.func22 rfl 27 Try.ntmps22 (by simp) [.tmp 4] rfl ?_
  show VW _ _ _ (mk [(0, .val (dM a0)), (1, .val (dM a1))]) _
  -- region 0
  refine VW.ws tau_ok Sound.none [some 4] [(0, .val (dM a0)), (1, .val (dM a1))] rfl ?_ ?_
  · simp <;> simp [ieq, ilt, ile]
  refine VW.sqc fun K1 hK1 hCK1 => ?_
  -- region 1
  refine VW.ws tau_ok Sound.none [some 6, some 7, some 8, some 9, some 10] [(0, .val (dM a0)), (1, .val (dM a1)), (10, .val (.bool (!(ieq (a0.length : Int) (a1.length : Int)))))] rfl ?_ ?_
  · simp <;> simp [ieq, ilt, ile]
  refine VW.cond rfl (fun hb2 => ?_) (fun hb2 => ?_)
  ·
    replace hb2 : ¬ (a0.length : Int) = (a1.length : Int) := by simpa [ieq, ilt, ile] using hb2
    rw [if_pos hb2] at h
    -- region 2
    refine VW.ws tau_ok Sound.none [some 4] [(4, .val (.bool false))] rfl ?_ ?_
    · simp <;> simp [ieq, ilt, ile]
    cases h
    refine VW.ret ?_
    simp [Post, PostM, PostC, PostC2, Nx, Bk]
  replace hb2 : ¬ (¬ (a0.length : Int) = (a1.length : Int)) := by simpa [ieq, ilt, ile] using hb2
  rw [if_neg hb2] at h
  refine VW.skip ?_
  refine hK1 _ ?_
  refine VW.sqc fun K3 hK3 hCK3 => ?_
  -- region 3
  refine VW.ws tau_ok Sound.none [some 5] [(0, .val (dM a0)), (1, .val (dM a1)), (5, .val (i64 0))] rfl ?_ ?_
  · simp <;> simp [ieq, ilt, ile]
  obtain ⟨x4, hx4, h⟩ := bind_some h
  refine VW.tlO (fun y6 => []) x4 (hCK3) ?_ ?_
  · clear hx4
    rintro y6 rfl
    dsimp only at h
    refine hK3 _ ?_
    -- region 8
    refine VW.ws tau_ok Sound.none [some 4] [(4, .val (.bool true))] rfl ?_ ?_
    · simp <;> simp [ieq, ilt, ile]
    cases h
    refine VW.ret ?_
    simp [Post, PostM, PostC, PostC2, Nx, Bk]
  refine VW.block ?_
  refine VW.loopF (l_eqInt64SS_L0 a0 a1) (fun s4 => [(0, .val (dM a0)), (1, .val (dM a1)), (5, .val (i64 s4))]) hx4 (Fits.of rfl) ?_
  clear hx4
  intro s4 ox4 hx4o hx4b
  unfold l_eqInt64SS_L0 at hx4o
  refine VW.sqc fun K7 hK7 hCK7 => ?_
  -- region 4
  refine VW.ws tau_ok Sound.none [some 11, some 12, some 13, some 14] [(0, .val (dM a0)), (1, .val (dM a1)), (5, .val (i64 s4)), (14, .val (.bool (ilt s4 (a0.length : Int))))] rfl ?_ ?_
  · simp <;> simp [ieq, ilt, ile]
  refine VW.cond rfl (fun hb8 => ?_) (fun hb8 => ?_)
  rotate_left
  ·
    replace hb8 : ¬ (s4 < (a0.length : Int)) := by simpa [ieq, ilt, ile] using hb8
    rw [if_neg hb8] at hx4o
    refine VW.exit ?_
    cases hx4o
    have hq := hx4b _ rfl
    subst hq
    exact ⟨_, rfl, Fits.of rfl⟩
  replace hb8 : s4 < (a0.length : Int) := by simpa [ieq, ilt, ile] using hb8
  rw [if_pos hb8] at hx4o
  refine VW.skip ?_
  refine hK7 _ ?_
  refine VW.sqc fun K9 hK9 hCK9 => ?_
  refine VW.block ?_
  -- region 6
  obtain ⟨v10, hv10, hx4o⟩ := bind_some hx4o
  obtain ⟨hv10a, hv10b, hv10c, hv10d⟩ := idx_some hv10
  obtain ⟨v11, hv11, hx4o⟩ := bind_some hx4o
  obtain ⟨hv11a, hv11b, hv11c, hv11d⟩ := idx_some hv11
  obtain ⟨v12, hv12, hx4o⟩ := bind_some hx4o
  refine VW.wds tau_ok (Sound.none.add 25 (l_eqInt64S_ok hv12) rfl) try_mixed [some 17, some 18, some 19, some 20, some 21, some 22, some 23, some 24, some 25, some 26] [(0, .val (dM a0)), (1, .val (dM a1)), (5, .val (i64 s4)), (26, .val (.bool (!v12)))] 10 rfl (by kernel_rfl) (by rfl) ?_ ?_
  · simp [hv10a, hv10b, hv10c, hv10d, hv11a, hv11b, hv11c, hv11d] <;> simp [ieq, ilt, ile]
  refine VW.cond rfl (fun hb13 => ?_) (fun hb13 => ?_)
  rotate_left
  ·
    replace hb13 : ¬ (v12 = false) := by simpa [ieq, ilt, ile] using hb13
    rw [if_neg hb13] at hx4o
    refine VW.skip ?_
    refine hK9 _ ?_
    -- region 5
    refine VW.wr tau_ok Sound.none [some 15, some 16, some 5] [(0, .val (dM a0)), (1, .val (dM a1)), (5, .val (i64 (w64 (s4 + 1))))] rfl ?_ ?_
    · simp <;> simp [ieq, ilt, ile]
    cases hx4o
    exact ⟨_, rfl, Fits.of rfl⟩
  replace hb13 : v12 = false := by simpa [ieq, ilt, ile] using hb13
  rw [if_pos hb13] at hx4o
  -- region 7
  refine VW.ws tau_ok Sound.none [some 4] [(4, .val (.bool false))] rfl ?_ ?_
  · simp <;> simp [ieq, ilt, ile]
  cases hx4o
  have hq := hx4b _ rfl
  subst hq
  dsimp only at h
  cases h
  refine VW.ret ?_
  simp [Post, PostM, PostC, PostC2, Nx, Bk]

theorem l_FnExactHasSquareNorm_ok {a0_0 : Int} {a0_1 : List Int} {a1 : List (List Int)} {r : Bool} (h : l_FnExactHasSquareNorm a0_0 a0_1 a1 = some r) :
    VCall Try.prog 6 [.agg [i64 a0_0, dI a0_1], dM a1] [.sc (.bool r)] := by
  unfold l_FnExactHasSquareNorm at h
  refine VCall.enter Try.call6 Try.func6 rfl 58 Try.ntmps6 (by simp) [.tmp 4] rfl ?_
  show VW _ _ _ (mk [(0, .val (.agg [i64 a0_0, dI a0_1])), (1, .val (dM a1))]) _
  -- region 0
  refine VW.ws tau_ok Sound.none [some 2, some 4] [(1, .val (dM a1)), (2, .val (.ptr [i64 a0_0, dI a0_1]))] rfl ?_ ?_
  · simp <;> simp [ieq, ilt, ile]
  -- region 1
  refine VW.ws tau_ok Sound.none [some 5] [(1, .val (dM a1)), (2, .val (.ptr [i64 a0_0, dI a0_1])), (5, .val (i64 1048576))] rfl ?_ ?_
  · simp <;> simp [ieq, ilt, ile]
  -- region 2
  obtain ⟨v1, hv1, h⟩ := bind_some h
  refine VW.ws tau_ok (Sound.none.add 14 (l_szSpace_ok hv1) rfl) [some 12, some 13, some 14, some 5] [(1, .val (dM a1)), (2, .val (.ptr [i64 a0_0, dI a0_1])), (5, .val (i64 v1))] rfl ?_ ?_
  · simp <;> simp [ieq, ilt, ile]
  refine VW.sqc fun K2 hK2 hCK2 => ?_
  -- region 3
  refine VW.ws tau_ok Sound.none [some 15, some 16] [(1, .val (dM a1)), (2, .val (.ptr [i64 a0_0, dI a0_1])), (5, .val (i64 v1)), (16, .val (.bool (ilt v1 0)))] rfl ?_ ?_
  · simp <;> simp [ieq, ilt, ile]
  refine VW.cond rfl (fun hb3 => ?_) (fun hb3 => ?_)
  ·
    replace hb3 : v1 < 0 := by simpa [ieq, ilt, ile] using hb3
    rw [if_pos hb3] at h
    -- region 4
    refine VW.ws tau_ok Sound.none [some 4] [(4, .val (.bool true))] rfl ?_ ?_
    · simp <;> simp [ieq, ilt, ile]
    cases h
    refine VW.ret ?_
    simp [Post, PostM, PostC, PostC2, Nx, Bk]
  replace hb3 : ¬ (v1 < 0) := by simpa [ieq, ilt, ile] using hb3
  rw [if_neg hb3] at h
  refine VW.skip ?_
  refine hK2 _ ?_
  -- region 5
  obtain ⟨v4, hv4, h⟩ := bind_some h
  refine VW.ws tau_ok (Sound.none.add 19 (l_szInt64SS_ok hv4) rfl) [some 17, some 18, some 19, some 5] [(1, .val (dM a1)), (2, .val (.ptr [i64 a0_0, dI a0_1])), (5, .val (i64 v4))] rfl ?_ ?_
  · simp <;> simp [ieq, ilt, ile]
  refine VW.sqc fun K5 hK5 hCK5 => ?_
  -- region 6
  refine VW.ws tau_ok Sound.none [some 20, some 21] [(1, .val (dM a1)), (2, .val (.ptr [i64 a0_0, dI a0_1])), (21, .val (.bool (ilt v4 0)))] rfl ?_ ?_
  · simp <;> simp [ieq, ilt, ile]
  refine VW.cond rfl (fun hb6 => ?_) (fun hb6 => ?_)
  ·
    replace hb6 : v4 < 0 := by simpa [ieq, ilt, ile] using hb6
    rw [if_pos hb6] at h
    -- region 7
    refine VW.ws tau_ok Sound.none [some 4] [(4, .val (.bool true))] rfl ?_ ?_
    · simp <;> simp [ieq, ilt, ile]
    cases h
    refine VW.ret ?_
    simp [Post, PostM, PostC, PostC2, Nx, Bk]
  replace hb6 : ¬ (v4 < 0) := by simpa [ieq, ilt, ile] using hb6
  rw [if_neg hb6] at h
  refine VW.skip ?_
  refine hK5 _ ?_
  -- region 8
  obtain ⟨v7, hv7, h⟩ := bind_some h
  obtain ⟨v8, hv8, h⟩ := bind_some h
  obtain ⟨v9, hv9, h⟩ := bind_some h
  refine VW.ws tau_ok (((Sound.none.add 24 (l_toSpace_ok hv7) rfl).add 26 (l_toInt64SS_ok hv8) rfl).add 27 (s_HasSquareNorm_ok hv9) rfl) [some 23, some 24, some 25, some 26, some 27, some 22, some 28, some 29, some 6, some 7] [(1, .val (dM a1)), (2, .val (.ptr [i64 a0_0, dI a0_1])), (6, .val (.bool v9.1)), (7, .val (i64 v9.2))] rfl ?_ ?_
  · simp <;> simp [ieq, ilt, ile]
  -- region 9
  obtain ⟨v10, hv10, h⟩ := bind_some h
  refine VW.ws tau_ok (Sound.none.add 31 (l_toSpace_ok hv10) rfl) [some 30, some 31, some 8, none] [(1, .val (dM a1)), (2, .val (.ptr [i64 a0_0, dI a0_1])), (6, .val (.bool v9.1)), (7, .val (i64 v9.2)), (8, .ref 8 [] true (.ptr [i64 v10.1, dI v10.2]))] rfl ?_ ?_
  · simp <;> simp [ieq, ilt, ile]
  -- region 10
  obtain ⟨v11, hv11, h⟩ := bind_some h
  refine VW.ws tau_ok (Sound.none.add 33 (l_toInt64SS_ok hv11) rfl) [some 32, some 33, some 9] [(1, .val (dM a1)), (2, .val (.ptr [i64 a0_0, dI a0_1])), (6, .val (.bool v9.1)), (7, .val (i64 v9.2)), (8, .ref 8 [] true (.ptr [i64 v10.1, dI v10.2])), (9, .ref 9 [] true (dM v11))] rfl ?_ ?_
  · simp <;> simp [ieq, ilt, ile]
  -- region 11
  obtain ⟨v12, hv12, h⟩ := bind_some h
  refine VW.ws tau_ok (Sound.none.add 37 (i_HasSquareNorm_ok hv12) rfl) [some 35, some 36, some 37, some 34, some 38, some 39, some 10, some 11] [(1, .val (dM a1)), (2, .val (.ptr [i64 a0_0, dI a0_1])), (6, .val (.bool v9.1)), (7, .val (i64 v9.2)), (8, .ref 8 [] true (.ptr [i64 v10.1, dI v10.2])), (9, .ref 9 [] true (dM v11)), (10, .val (.bool v12.1)), (11, .val (i64 v12.2))] rfl ?_ ?_
  · simp <;> simp [ieq, ilt, ile]
  refine VW.sqc fun K13 hK13 hCK13 => ?_
  -- region 12
  obtain ⟨x15, hx15, h⟩ := bind_some h
  refine VW.cut [(1, .val (dM a1)), (2, .val (.ptr [i64 a0_0, dI a0_1])), (8, .ref 8 [] true (.ptr [i64 v10.1, dI v10.2])), (9, .ref 9 [] true (dM v11)), (47, .val (.bool x15))] ?_ fun hy => ?_
  rotate_left
  · clear h
    by_cases hp14 : (v12.1 != v9.1) = true
    · rw [if_pos hp14] at hx15
      have hp14b : (v12.1 != v9.1) = true := by simpa [ieq, ilt, ile] using hp14
      have hp14s := hp14b
      try simp at hp14s
      cases hx15
      refine VW.ws tau_ok Sound.none [some 40, some 41, some 42, some 43, some 44, some 45, some 46, some 47] _ rfl ?_ hy
      simp [hp14b, hp14s] <;> simp [ieq, ilt, ile]
    · rw [if_neg hp14] at hx15
      have hp14b : (v12.1 != v9.1) = false := by simpa [ieq, ilt, ile] using hp14
      have hp14s := hp14b
      try simp at hp14s
      cases hx15
      refine VW.ws tau_ok Sound.none [some 40, some 41, some 42, some 43, some 44, some 45, some 46, some 47] _ rfl ?_ hy
      simp [hp14b, hp14s] <;> simp [ieq, ilt, ile]
  refine VW.cond rfl (fun hb16 => ?_) (fun hb16 => ?_)
  ·
    replace hb16 : x15 = true := by simpa [ieq, ilt, ile] using hb16
    rw [if_pos hb16] at h
    -- region 13
    refine VW.ws tau_ok Sound.none [some 4] [(4, .val (.bool false))] rfl ?_ ?_
    · simp <;> simp [ieq, ilt, ile]
    cases h
    refine VW.ret ?_
    simp [Post, PostM, PostC, PostC2, Nx, Bk]
  replace hb16 : ¬ (x15 = true) := by simpa [ieq, ilt, ile] using hb16
  rw [if_neg hb16] at h
  refine VW.skip ?_
  refine hK13 _ ?_
  refine VW.sqc fun K17 hK17 hCK17 => ?_
  -- region 14
  obtain ⟨v18, hv18, h⟩ := bind_some h
  obtain ⟨v19, hv19, h⟩ := bind_some h
  refine VW.wds tau_ok ((Sound.none.add 50 (l_toSpace_ok hv18) rfl).add 51 (l_eqSpace_ok hv19) rfl) try_mixed [some 48, some 49, some 50, some 51, some 52] [(1, .val (dM a1)), (9, .ref 9 [] true (dM v11)), (52, .val (.bool (!v19)))] 5 rfl (by kernel_rfl) (by rfl) ?_ ?_
  · simp <;> simp [ieq, ilt, ile]
  refine VW.cond rfl (fun hb20 => ?_) (fun hb20 => ?_)
  ·
    replace hb20 : v19 = false := by simpa [ieq, ilt, ile] using hb20
    rw [if_pos hb20] at h
    -- region 15
    refine VW.ws tau_ok Sound.none [some 4] [(4, .val (.bool false))] rfl ?_ ?_
    · simp <;> simp [ieq, ilt, ile]
    cases h
    refine VW.ret ?_
    simp [Post, PostM, PostC, PostC2, Nx, Bk]
  replace hb20 : ¬ (v19 = false) := by simpa [ieq, ilt, ile] using hb20
  rw [if_neg hb20] at h
  refine VW.skip ?_
  refine hK17 _ ?_
  refine VW.sqc fun K21 hK21 hCK21 => ?_
  -- region 16
  obtain ⟨v22, hv22, h⟩ := bind_some h
  obtain ⟨v23, hv23, h⟩ := bind_some h
  refine VW.ws tau_ok ((Sound.none.add 55 (l_toInt64SS_ok hv22) rfl).add 56 (l_eqInt64SS_ok hv23) rfl) [some 53, some 54, some 55, some 56, some 57] [(57, .val (.bool (!v23)))] rfl ?_ ?_
  · simp <;> simp [ieq, ilt, ile]
  refine VW.cond rfl (fun hb24 => ?_) (fun hb24 => ?_)
  ·
    replace hb24 : v23 = false := by simpa [ieq, ilt, ile] using hb24
    rw [if_pos hb24] at h
    -- region 17
    refine VW.ws tau_ok Sound.none [some 4] [(4, .val (.bool false))] rfl ?_ ?_
    · simp <;> simp [ieq, ilt, ile]
    cases h
    refine VW.ret ?_
    simp [Post, PostM, PostC, PostC2, Nx, Bk]
  replace hb24 : ¬ (v23 = false) := by simpa [ieq, ilt, ile] using hb24
  rw [if_neg hb24] at h
  refine VW.skip ?_
  refine hK21 _ ?_
  -- region 18
  refine VW.ws tau_ok Sound.none [some 4] [(4, .val (.bool true))] rfl ?_ ?_
  · simp <;> simp [ieq, ilt, ile]
  cases h
  refine VW.ret ?_
  simp [Post, PostM, PostC, PostC2, Nx, Bk]
end Go.Vam
