import Derived.Test.YtdoimfkonaeceaaR5T
import Derived.Test.YtdoimfkonaeceaaFnF
import Derived.Test.YtdoimfkonaeceaaR5DW1
import Derived.Test.YtdoimfkonaeceaaR5DW2
namespace Go.Vam
open Go Go.RowKit Go.Proofs
set_option maxRecDepth 100000
set_option linter.unusedSimpArgs false
set_option linter.unusedVariables false

theorem l_eqInt64S_ok {a0 : List Int} {a1 : List Int} {r : Bool} (h : l_eqInt64S a0 a1 = some r) :
    VCall Try.prog 31 [dI a0, dI a1] [.sc (.bool r)] := by
  unfold l_eqInt64S at h
  refine VCall.enter Try.call31 Try.func31 rfl 26 Try.ntmps31 (by simp) [.tmp 4] rfl ?_
  show VW _ _ _ (mk [(0, .val (dI a0)), (1, .val (dI a1))]) _
  -- region 0
  refine VW.ws tau_ok Sound.none [some 4] [(0, .val (dI a0)), (1, .val (dI a1))] rfl ?_ ?_
  · simp <;> simp [ieq, ilt, ile]
  refine VW.sqc fun K1 hK1 hCK1 => ?_
  -- region 1
  refine VW.ws tau_ok Sound.none [some 6, some 7, some 8, some 9, some 10] [(0, .val (dI a0)), (1, .val (dI a1)), (10, .val (.bool (!(ieq (a0.length : Int) (a1.length : Int)))))] rfl ?_ ?_
  · simp <;> simp [ieq, ilt, ile]
  refine VW.cond rfl (fun hb2 => ?_) (fun hb2 => ?_)
  ·
    replace hb2 : ¬ (a0.length : Int) = (a1.length : Int) := by simpa [ieq, ilt, ile] using hb2
    rw [if_pos hb2] at h
    -- region 2
    refine VW.ws tau_ok Sound.none [some 4] [(4, .val (.bool false))] rfl ?_ ?_
    · simp <;> simp [ieq, ilt, ile]
    cases h
    refine VW.ret ?_
    simp [Post, PostM, PostC, PostC2, Nx, Bk]
  replace hb2 : ¬ (¬ (a0.length : Int) = (a1.length : Int)) := by simpa [ieq, ilt, ile] using hb2
  rw [if_neg hb2] at h
  refine VW.skip ?_
  refine hK1 _ ?_
  refine VW.sqc fun K3 hK3 hCK3 => ?_
  -- region 3
  refine VW.ws tau_ok Sound.none [some 5] [(0, .val (dI a0)), (1, .val (dI a1)), (5, .val (i64 0))] rfl ?_ ?_
  · simp <;> simp [ieq, ilt, ile]
  obtain ⟨x4, hx4, h⟩ := bind_some h
  refine VW.tlO (fun y6 => []) x4 (hCK3) ?_ ?_
  · clear hx4
    rintro y6 rfl
    dsimp only at h
    refine hK3 _ ?_
    -- region 8
    refine VW.ws tau_ok Sound.none [some 4] [(4, .val (.bool true))] rfl ?_ ?_
    · simp <;> simp [ieq, ilt, ile]
    cases h
    refine VW.ret ?_
    simp [Post, PostM, PostC, PostC2, Nx, Bk]
  refine VW.block ?_
  refine VW.loopF (l_eqInt64S_L0 a0 a1) (fun s4 => [(0, .val (dI a0)), (1, .val (dI a1)), (5, .val (i64 s4))]) hx4 (Fits.of rfl) ?_
  clear hx4
  intro s4 ox4 hx4o hx4b
  unfold l_eqInt64S_L0 at hx4o
  refine VW.sqc fun K7 hK7 hCK7 => ?_
  -- region 4
  refine VW.ws tau_ok Sound.none [some 11, some 12, some 13, some 14] [(0, .val (dI a0)), (1, .val (dI a1)), (5, .val (i64 s4)), (14, .val (.bool (ilt s4 (a0.length : Int))))] rfl ?_ ?_
  · simp <;> simp [ieq, ilt, ile]
  refine VW.cond rfl (fun hb8 => ?_) (fun hb8 => ?_)
  rotate_left
  ·
    replace hb8 : ¬ (s4 < (a0.length : Int)) := by simpa [ieq, ilt, ile] using hb8
    rw [if_neg hb8] at hx4o
    refine VW.exit ?_
    cases hx4o
    have hq := hx4b _ rfl
    subst hq
    exact ⟨_, rfl, Fits.of rfl⟩
  replace hb8 : s4 < (a0.length : Int) := by simpa [ieq, ilt, ile] using hb8
  rw [if_pos hb8] at hx4o
  refine VW.skip ?_
  refine hK7 _ ?_
  refine VW.sqc fun K9 hK9 hCK9 => ?_
  refine VW.block ?_
  -- region 6
  obtain ⟨v10, hv10, hx4o⟩ := bind_some hx4o
  obtain ⟨hv10a, hv10b, hv10c, hv10d⟩ := idx_some hv10
  obtain ⟨v11, hv11, hx4o⟩ := bind_some hx4o
  obtain ⟨hv11a, hv11b, hv11c, hv11d⟩ := idx_some hv11
  refine VW.wds tau_ok Sound.none try_mixed [some 17, some 18, some 19, some 20, some 21, some 22, some 23, some 24, some 25] [(0, .val (dI a0)), (1, .val (dI a1)), (5, .val (i64 s4)), (25, .val (.bool (!(ieq v10 v11))))] 9 rfl (by kernel_rfl) (by rfl) ?_ ?_
  · simp [hv10a, hv10b, hv10c, hv10d, hv11a, hv11b, hv11c, hv11d] <;> simp [ieq, ilt, ile]
  refine VW.cond rfl (fun hb12 => ?_) (fun hb12 => ?_)
  rotate_left
  ·
    replace hb12 : ¬ (¬ v10 = v11) := by simpa [ieq, ilt, ile] using hb12
    rw [if_neg hb12] at hx4o
    refine VW.skip ?_
    refine hK9 _ ?_
    -- region 5
    refine VW.wr tau_ok Sound.none [some 15, some 16, some 5] [(0, .val (dI a0)), (1, .val (dI a1)), (5, .val (i64 (w64 (s4 + 1))))] rfl ?_ ?_
    · simp <;> simp [ieq, ilt, ile]
    cases hx4o
    exact ⟨_, rfl, Fits.of rfl⟩
  replace hb12 : ¬ v10 = v11 := by simpa [ieq, ilt, ile] using hb12
  rw [if_pos hb12] at hx4o
  -- region 7
  refine VW.ws tau_ok Sound.none [some 4] [(4, .val (.bool false))] rfl ?_ ?_
  · simp <;> simp [ieq, ilt, ile]
  cases hx4o
  have hq := hx4b _ rfl
  subst hq
  dsimp only at h
  cases h
  refine VW.ret ?_
  simp [Post, PostM, PostC, PostC2, Nx, Bk]

theorem l_eqDoubling_ok {a0_0 : Int} {a0_1 : List Int} {a1_0 : Int} {a1_1 : List Int} {r : Bool} (h : l_eqDoubling a0_0 a0_1 a1_0 a1_1 = some r) :
    VCall Try.prog 21 [.agg [i64 a0_0, dI a0_1], .agg [i64 a1_0, dI a1_1]] [.sc (.bool r)] := by
  unfold l_eqDoubling at h
  refine VCall.enter Try.call21 Try.func21 rfl 16 Try.ntmps21 (by simp) [.tmp 4] rfl ?_
  show VW _ _ _ (mk [(0, .val (.agg [i64 a0_0, dI a0_1])), (1, .val (.agg [i64 a1_0, dI a1_1]))]) _
  -- region 0
  refine VW.ws tau_ok Sound.none [some 2, some 3, some 4] [(2, .val (.ptr [i64 a0_0, dI a0_1])), (3, .val (.ptr [i64 a1_0, dI a1_1]))] rfl ?_ ?_
  · simp <;> simp [ieq, ilt, ile]
  refine VW.sqc fun K1 hK1 hCK1 => ?_
  -- region 1
  refine VW.ws tau_ok Sound.none [some 5, some 6, some 7, some 8, some 9] [(2, .val (.ptr [i64 a0_0, dI a0_1])), (3, .val (.ptr [i64 a1_0, dI a1_1])), (9, .val (.bool (!(ieq a0_0 a1_0))))] rfl ?_ ?_
  · simp <;> simp [ieq, ilt, ile]
  refine VW.cond rfl (fun hb2 => ?_) (fun hb2 => ?_)
  ·
    replace hb2 : ¬ a0_0 = a1_0 := by simpa [ieq, ilt, ile] using hb2
    rw [if_pos hb2] at h
    -- region 2
    refine VW.ws tau_ok Sound.none [some 4] [(4, .val (.bool false))] rfl ?_ ?_
    · simp <;> simp [ieq, ilt, ile]
    cases h
    refine VW.ret ?_
    simp [Post, PostM, PostC, PostC2, Nx, Bk]
  replace hb2 : ¬ (¬ a0_0 = a1_0) := by simpa [ieq, ilt, ile] using hb2
  rw [if_neg hb2] at h
  refine VW.skip ?_
  refine hK1 _ ?_
  refine VW.sqc fun K3 hK3 hCK3 => ?_
  -- region 3
  obtain ⟨v4, hv4, h⟩ := bind_some h
  refine VW.ws tau_ok (Sound.none.add 14 (l_eqInt64S_ok hv4) rfl) [some 10, some 11, some 12, some 13, some 14, some 15] [(15, .val (.bool (!v4)))] rfl ?_ ?_
  · simp <;> simp [ieq, ilt, ile]
  refine VW.cond rfl (fun hb5 => ?_) (fun hb5 => ?_)
  ·
    replace hb5 : v4 = false := by simpa [ieq, ilt, ile] using hb5
    rw [if_pos hb5] at h
    -- region 4
    refine VW.ws tau_ok Sound.none [some 4] [(4, .val (.bool false))] rfl ?_ ?_
    · simp <;> simp [ieq, ilt, ile]
    cases h
    refine VW.ret ?_
    simp [Post, PostM, PostC, PostC2, Nx, Bk]
  replace hb5 : ¬ (v4 = false) := by simpa [ieq, ilt, ile] using hb5
  rw [if_neg hb5] at h
  refine VW.skip ?_
  refine hK3 _ ?_
  -- region 5
  refine VW.ws tau_ok Sound.none [some 4] [(4, .val (.bool true))] rfl ?_ ?_
  · simp <;> simp [ieq, ilt, ile]
  cases h
  refine VW.ret ?_
  simp [Post, PostM, PostC, PostC2, Nx, Bk]

theorem l_FnExactFixingDimension_ok {a0_0 : Int} {a0_1 : List Int} {a1 : List Int} {r : Bool} (h : l_FnExactFixingDimension a0_0 a0_1 a1 = some r) :
    VCall Try.prog 5 [.agg [i64 a0_0, dI a0_1], dI a1] [.sc (.bool r)] := by
  unfold l_FnExactFixingDimension at h
  refine VCall.enter Try.call5 Try.func5 rfl 56 Try.ntmps5 (by simp) [.tmp 4] rfl ?_
  show VW _ _ _ (mk [(0, .val (.agg [i64 a0_0, dI a0_1])), (1, .val (dI a1))]) _
  -- region 0
  refine VW.ws tau_ok Sound.none [some 2, some 4] [(1, .val (dI a1)), (2, .val (.ptr [i64 a0_0, dI a0_1]))] rfl ?_ ?_
  · simp <;> simp [ieq, ilt, ile]
  refine VW.sqc fun K1 hK1 hCK1 => ?_
  -- region 1
  refine VW.ws tau_ok Sound.none [some 12, some 13, some 14] [(1, .val (dI a1)), (2, .val (.ptr [i64 a0_0, dI a0_1])), (14, .val (.bool (ilt 1048576 (a1.length : Int))))] rfl ?_ ?_
  · simp <;> simp [ieq, ilt, ile]
  refine VW.cond rfl (fun hb2 => ?_) (fun hb2 => ?_)
  ·
    replace hb2 : 1048576 < (a1.length : Int) := by simpa [ieq, ilt, ile] using hb2
    rw [if_pos hb2] at h
    -- region 2
    refine VW.ws tau_ok Sound.none [some 4] [(4, .val (.bool true))] rfl ?_ ?_
    · simp <;> simp [ieq, ilt, ile]
    cases h
    refine VW.ret ?_
    simp [Post, PostM, PostC, PostC2, Nx, Bk]
  replace hb2 : ¬ (1048576 < (a1.length : Int)) := by simpa [ieq, ilt, ile] using hb2
  rw [if_neg hb2] at h
  refine VW.skip ?_
  refine hK1 _ ?_
  -- region 3
  refine VW.ws tau_ok Sound.none [some 5] [(1, .val (dI a1)), (2, .val (.ptr [i64 a0_0, dI a0_1])), (5, .val (i64 1048576))] rfl ?_ ?_
  · simp <;> simp [ieq, ilt, ile]
  -- region 4
  obtain ⟨v3, hv3, h⟩ := bind_some h
  refine VW.ws tau_ok (Sound.none.add 17 (l_szDoubling_ok hv3) rfl) [some 15, some 16, some 17, some 5] [(1, .val (dI a1)), (2, .val (.ptr [i64 a0_0, dI a0_1])), (5, .val (i64 v3))] rfl ?_ ?_
  · simp <;> simp [ieq, ilt, ile]
  refine VW.sqc fun K4 hK4 hCK4 => ?_
  -- region 5
  refine VW.ws tau_ok Sound.none [some 18, some 19] [(1, .val (dI a1)), (2, .val (.ptr [i64 a0_0, dI a0_1])), (19, .val (.bool (ilt v3 0)))] rfl ?_ ?_
  · simp <;> simp [ieq, ilt, ile]
  refine VW.cond rfl (fun hb5 => ?_) (fun hb5 => ?_)
  ·
    replace hb5 : v3 < 0 := by simpa [ieq, ilt, ile] using hb5
    rw [if_pos hb5] at h
    -- region 6
    refine VW.ws tau_ok Sound.none [some 4] [(4, .val (.bool true))] rfl ?_ ?_
    · simp <;> simp [ieq, ilt, ile]
    cases h
    refine VW.ret ?_
    simp [Post, PostM, PostC, PostC2, Nx, Bk]
  replace hb5 : ¬ (v3 < 0) := by simpa [ieq, ilt, ile] using hb5
  rw [if_neg hb5] at h
  refine VW.skip ?_
  refine hK4 _ ?_
  -- region 7
  obtain ⟨v6, hv6, h⟩ := bind_some h
  obtain ⟨v7, hv7, h⟩ := bind_some h
  obtain ⟨v8, hv8, h⟩ := bind_some h
  refine VW.ws tau_ok (((Sound.none.add 22 (l_toDoubling_ok hv6) rfl).add 24 (l_toInt64S_ok hv7) rfl).add 25 (s_FixingDimension_ok hv8) rfl) [some 21, some 22, some 23, some 24, some 25, some 20, some 26, some 27, some 6, some 7] [(1, .val (dI a1)), (2, .val (.ptr [i64 a0_0, dI a0_1])), (6, .val (i64 v8.1)), (7, .val (i64 v8.2))] rfl ?_ ?_
  · simp <;> simp [ieq, ilt, ile]
  -- region 8
  obtain ⟨v9, hv9, h⟩ := bind_some h
  refine VW.ws tau_ok (Sound.none.add 29 (l_toDoubling_ok hv9) rfl) [some 28, some 29, some 8, none] [(1, .val (dI a1)), (2, .val (.ptr [i64 a0_0, dI a0_1])), (6, .val (i64 v8.1)), (7, .val (i64 v8.2)), (8, .ref 8 [] true (.ptr [i64 v9.1, dI v9.2]))] rfl ?_ ?_
  · simp <;> simp [ieq, ilt, ile]
  -- region 9
  obtain ⟨v10, hv10, h⟩ := bind_some h
  refine VW.ws tau_ok (Sound.none.add 31 (l_toInt64S_ok hv10) rfl) [some 30, some 31, some 9] [(1, .val (dI a1)), (2, .val (.ptr [i64 a0_0, dI a0_1])), (6, .val (i64 v8.1)), (7, .val (i64 v8.2)), (8, .ref 8 [] true (.ptr [i64 v9.1, dI v9.2])), (9, .ref 9 [] true (dI v10))] rfl ?_ ?_
  · simp <;> simp [ieq, ilt, ile]
  -- region 10
  obtain ⟨v11, hv11, h⟩ := bind_some h
  refine VW.ws tau_ok (Sound.none.add 35 (i_FixingDimension_ok hv11) rfl) [some 33, some 34, some 35, some 32, some 36, some 37, some 10, some 11] [(1, .val (dI a1)), (2, .val (.ptr [i64 a0_0, dI a0_1])), (6, .val (i64 v8.1)), (7, .val (i64 v8.2)), (8, .ref 8 [] true (.ptr [i64 v9.1, dI v9.2])), (9, .ref 9 [] true (dI v10)), (10, .val (i64 v11.1)), (11, .val (i64 v11.2))] rfl ?_ ?_
  · simp <;> simp [ieq, ilt, ile]
  refine VW.sqc fun K12 hK12 hCK12 => ?_
  -- region 11
  obtain ⟨x14, hx14, h⟩ := bind_some h
  refine VW.cut [(1, .val (dI a1)), (2, .val (.ptr [i64 a0_0, dI a0_1])), (8, .ref 8 [] true (.ptr [i64 v9.1, dI v9.2])), (9, .ref 9 [] true (dI v10)), (45, .val (.bool x14))] ?_ fun hy => ?_
  rotate_left
  · clear h
    by_cases hp13 : ¬ v11.1 = v8.1
    · rw [if_pos hp13] at hx14
      have hp13b : ieq v11.1 v8.1 = false := by simpa [ieq, ilt, ile] using hp13
      have hp13s := hp13b
      try simp at hp13s
      cases hx14
      refine VW.ws tau_ok Sound.none [some 38, some 39, some 40, some 41, some 42, some 43, some 44, some 45] _ rfl ?_ hy
      simp [hp13b, hp13s] <;> simp [ieq, ilt, ile]
    · rw [if_neg hp13] at hx14
      have hp13b : ieq v11.1 v8.1 = true := by simpa [ieq, ilt, ile] using hp13
      have hp13s := hp13b
      try simp at hp13s
      cases hx14
      refine VW.ws tau_ok Sound.none [some 38, some 39, some 40, some 41, some 42, some 43, some 44, some 45] _ rfl ?_ hy
      simp [hp13b, hp13s] <;> simp [ieq, ilt, ile]
  refine VW.cond rfl (fun hb15 => ?_) (fun hb15 => ?_)
  ·
    replace hb15 : x14 = true := by simpa [ieq, ilt, ile] using hb15
    rw [if_pos hb15] at h
    -- region 12
    refine VW.ws tau_ok Sound.none [some 4] [(4, .val (.bool false))] rfl ?_ ?_
    · simp <;> simp [ieq, ilt, ile]
    cases h
    refine VW.ret ?_
    simp [Post, PostM, PostC, PostC2, Nx, Bk]
  replace hb15 : ¬ (x14 = true) := by simpa [ieq, ilt, ile] using hb15
  rw [if_neg hb15] at h
  refine VW.skip ?_
  refine hK12 _ ?_
  refine VW.sqc fun K16 hK16 hCK16 => ?_
  -- region 13
  obtain ⟨v17, hv17, h⟩ := bind_some h
  obtain ⟨v18, hv18, h⟩ := bind_some h
  refine VW.wds tau_ok ((Sound.none.add 48 (l_toDoubling_ok hv17) rfl).add 49 (l_eqDoubling_ok hv18) rfl) try_mixed [some 46, some 47, some 48, some 49, some 50] [(1, .val (dI a1)), (9, .ref 9 [] true (dI v10)), (50, .val (.bool (!v18)))] 5 rfl (by kernel_rfl) (by rfl) ?_ ?_
  · simp <;> simp [ieq, ilt, ile]
  refine VW.cond rfl (fun hb19 => ?_) (fun hb19 => ?_)
  ·
    replace hb19 : v18 = false := by simpa [ieq, ilt, ile] using hb19
    rw [if_pos hb19] at h
    -- region 14
    refine VW.ws tau_ok Sound.none [some 4] [(4, .val (.bool false))] rfl ?_ ?_
    · simp <;> simp [ieq, ilt, ile]
    cases h
    refine VW.ret ?_
    simp [Post, PostM, PostC, PostC2, Nx, Bk]
  replace hb19 : ¬ (v18 = false) := by simpa [ieq, ilt, ile] using hb19
  rw [if_neg hb19] at h
  refine VW.skip ?_
  refine hK16 _ ?_
  refine VW.sqc fun K20 hK20 hCK20 => ?_
  -- region 15
  obtain ⟨v21, hv21, h⟩ := bind_some h
  obtain ⟨v22, hv22, h⟩ := bind_some h
  refine VW.ws tau_ok ((Sound.none.add 53 (l_toInt64S_ok hv21) rfl).add 54 (l_eqInt64S_ok hv22) rfl) [some 51, some 52, some 53, some 54, some 55] [(55, .val (.bool (!v22)))] rfl ?_ ?_
  · simp <;> simp [ieq, ilt, ile]
  refine VW.cond rfl (fun hb23 => ?_) (fun hb23 => ?_)
  ·
    replace hb23 : v22 = false := by simpa [ieq, ilt, ile] using hb23
    rw [if_pos hb23] at h
    -- region 16
    refine VW.ws tau_ok Sound.none [some 4] [(4, .val (.bool false))] rfl ?_ ?_
    · simp <;> simp [ieq, ilt, ile]
    cases h
    refine VW.ret ?_
    simp [Post, PostM, PostC, PostC2, Nx, Bk]
  replace hb23 : ¬ (v22 = false) := by simpa [ieq, ilt, ile] using hb23
  rw [if_neg hb23] at h
  refine VW.skip ?_
  refine hK20 _ ?_
  -- region 17
  refine VW.ws tau_ok Sound.none [some 4] [(4, .val (.bool true))] rfl ?_ ?_
  · simp <;> simp [ieq, ilt, ile]
  cases h
  refine VW.ret ?_
  simp [Post, PostM, PostC, PostC2, Nx, Bk]
end Go.Vam
