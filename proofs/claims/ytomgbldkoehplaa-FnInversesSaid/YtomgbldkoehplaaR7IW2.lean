import Derived.Test.YtomgbldkoehplaaR7T
import Derived.Test.YtomgbldkoehplaaFnK
import Derived.Test.YtomgbldkoehplaaR7IW1
namespace Go.Vam
open Go Go.RowKit Go.Proofs
set_option maxRecDepth 100000
set_option linter.unusedSimpArgs false
set_option linter.unusedVariables false

theorem i_field_inverse_ok {a0 : Int} {a1 : List (List Int)} {r : (List (List Int)) × Bool} (h : i_field_inverse a0 a1 = some r) :
    VCall Try.prog 91 [i64 a0, dM a1] [.own true (dM r.1), .sc (.bool r.2)] := by
  unfold i_field_inverse at h
  refine VCall.enter Try.call91 Try.func91 rfl 68 Try.ntmps91 (by simp) [.tmp 4, .tmp 5] rfl ?_
  show VW _ _ _ (mk [(0, .val (i64 a0)), (1, .val (dM a1))]) _
  -- region 0
  refine VW.ws tau_ok Sound.none [some 4, some 5] [(0, .val (i64 a0)), (1, .val (dM a1))] rfl ?_ ?_
  · simp <;> simp [ieq, ilt, ile]
  -- region 1
  refine VW.ws tau_ok Sound.none [some 12, some 13, some 14, some 6, some 7] [(0, .val (i64 a0)), (1, .val (dM a1)), (6, .val (i64 (a1.length : Int))), (7, .ref 7 [] true (dM []))] rfl ?_ ?_
  · simp <;> simp [ieq, ilt, ile]
  refine VW.sqc fun K1 hK1 hCK1 => ?_
  -- region 2
  obtain ⟨v2, hv2, h⟩ := bind_some h
  refine VW.ws tau_ok (Sound.none.add 16 (i_unit_ok hv2) rfl) [some 15, some 16, some 17, some 18] [(0, .val (i64 a0)), (1, .val (dM a1)), (6, .val (i64 (a1.length : Int))), (7, .ref 7 [] true (dM [])), (16, .ref 16 [] true (dM v2)), (17, .val (i64 (v2.length : Int))), (18, .val (i64 0))] rfl ?_ ?_
  · simp <;> simp [ieq, ilt, ile]
  obtain ⟨x3, hx3, h⟩ := bind_some h
  refine VW.tlE [(0, .val (i64 a0)), (6, .val (i64 (a1.length : Int))), (7, .ref 7 [] true (dM x3))] (hCK1) ?_ ?_
  · clear hx3
    refine hK1 _ ?_
    -- region 7
    obtain ⟨v12, hv12, h⟩ := bind_some h
    refine VW.ws tau_ok (Sound.none.add 36 (i_field_basis_ok hv12) rfl) [some 34, some 35, some 36, some 10] [(6, .val (i64 (a1.length : Int))), (10, .ref 10 [] true (dM v12))] rfl ?_ ?_
    · simp <;> simp [ieq, ilt, ile]
    refine VW.sqc fun K13 hK13 hCK13 => ?_
    -- region 8
    obtain ⟨x17, hx17, h⟩ := bind_some h
    refine VW.cut [(6, .val (i64 (a1.length : Int))), (10, .ref 10 [] true (dM v12)), (50, .val (.bool x17))] ?_ fun hy => ?_
    rotate_left
    · clear h
      by_cases hp14 : (v12.length : Int) < (a1.length : Int)
      · rw [if_pos hp14] at hx17
        have hp14b : ilt (v12.length : Int) (a1.length : Int) = true := by simpa [ieq, ilt, ile] using hp14
        have hp14s := hp14b
        try simp at hp14s
        cases hx17
        refine VW.ws tau_ok Sound.none [some 37, some 38, some 39, some 40, some 41, some 42, some 43, some 44, some 45, some 46, some 47, some 48, some 49, some 50] _ rfl ?_ hy
        simp [hp14b, hp14s] <;> simp [ieq, ilt, ile]
      · rw [if_neg hp14] at hx17
        have hp14b : ilt (v12.length : Int) (a1.length : Int) = false := by simpa [ieq, ilt, ile] using hp14
        have hp14s := hp14b
        try simp at hp14s
        obtain ⟨v15, hv15, hx17⟩ := bind_some hx17
        obtain ⟨hv15a, hv15b, hv15c, hv15d⟩ := idx_some hv15
        obtain ⟨v16, hv16, hx17⟩ := bind_some hx17
        cases hx17
        refine VW.ws tau_ok (Sound.none.add 47 (i_lead_ok hv16) rfl) [some 37, some 38, some 39, some 40, some 41, some 42, some 43, some 44, some 45, some 46, some 47, some 48, some 49, some 50] _ rfl ?_ hy
        simp [hp14b, hp14s, hv15a, hv15b, hv15c, hv15d] <;> simp [ieq, ilt, ile]
    refine VW.cond rfl (fun hb18 => ?_) (fun hb18 => ?_)
    ·
      replace hb18 : x17 = true := by simpa [ieq, ilt, ile] using hb18
      rw [if_pos hb18] at h
      -- region 9
      refine VW.ws tau_ok Sound.none [some 4, some 5] [(4, .ref 4 [] true (.list [])), (5, .val (.bool false))] rfl ?_ ?_
      · simp <;> simp [ieq, ilt, ile]
      cases h
      refine VW.ret ?_
      simp [Post, PostM, PostC, PostC2, Nx, Bk]
    replace hb18 : ¬ (x17 = true) := by simpa [ieq, ilt, ile] using hb18
    rw [if_neg hb18] at h
    refine VW.skip ?_
    refine hK13 _ ?_
    refine VW.sqc fun K19 hK19 hCK19 => ?_
    -- region 10
    refine VW.ws tau_ok Sound.none [some 51, some 52, some 53] [(6, .val (i64 (a1.length : Int))), (10, .ref 10 [] true (dM v12)), (52, .val (i64 (v12.length : Int))), (53, .val (i64 0))] rfl ?_ ?_
    · simp <;> simp [ieq, ilt, ile]
    obtain ⟨x20, hx20, h⟩ := bind_some h
    refine VW.tlE [(10, .ref 10 [] true (dM x20))] (hCK19) ?_ ?_
    · clear hx20
      refine hK19 _ ?_
      -- region 15
      refine VW.ws tau_ok Sound.none [some 67, some 4, some 5] [(4, .ref 4 [] true (dM x20)), (5, .val (.bool true))] rfl ?_ ?_
      · simp <;> simp [ieq, ilt, ile]
      cases h
      refine VW.ret ?_
      simp [Post, PostM, PostC, PostC2, Nx, Bk]
    refine VW.block ?_
    refine VW.loopF (i_field_inverse_L1 a1 v12) (fun s20 => [(6, .val (i64 (a1.length : Int))), (10, .ref 10 [] true (dM s20.1)), (52, .val (i64 (v12.length : Int))), (53, .val (i64 s20.2))]) hx20 (Fits.of rfl) ?_
    clear hx20
    intro s20 ox20 hx20o hx20b
    unfold i_field_inverse_L1 at hx20o
    -- region 11
    refine VW.ws tau_ok Sound.none [some 54] [(6, .val (i64 (a1.length : Int))), (10, .ref 10 [] true (dM s20.1)), (52, .val (i64 (v12.length : Int))), (53, .val (i64 s20.2)), (54, .val (.bool (ilt s20.2 (v12.length : Int))))] rfl ?_ ?_
    · simp <;> simp [ieq, ilt, ile]
    refine VW.sqc fun K22 hK22 hCK22 => ?_
    refine VW.cond rfl (fun hb23 => ?_) (fun hb23 => ?_)
    rotate_left
    ·
      replace hb23 : ¬ (s20.2 < (v12.length : Int)) := by simpa [ieq, ilt, ile] using hb23
      rw [if_neg hb23] at hx20o
      refine VW.exit ?_
      cases hx20o
      have hq := hx20b _ rfl
      subst hq
      exact Fits.of rfl
    replace hb23 : s20.2 < (v12.length : Int) := by simpa [ieq, ilt, ile] using hb23
    rw [if_pos hb23] at hx20o
    refine VW.skip ?_
    refine hK22 _ ?_
    refine VW.sqc fun K24 hK24 hCK24 => ?_
    refine VW.block ?_
    -- region 12
    refine VW.ws tau_ok Sound.none [some 55, some 11] [(6, .val (i64 (a1.length : Int))), (10, .ref 10 [] true (dM s20.1)), (11, .val (i64 s20.2)), (52, .val (i64 (v12.length : Int))), (53, .val (i64 s20.2))] rfl ?_ ?_
    · simp <;> simp [ieq, ilt, ile]
    -- region 13
    obtain ⟨v25, hv25, hx20o⟩ := bind_some hx20o
    obtain ⟨hv25a, hv25b, hv25c, hv25d⟩ := idx_some hv25
    obtain ⟨hc26, hx20o⟩ := chk_some hx20o
    have hc26s := hc26
    try simp at hc26s
    obtain ⟨v27, hv27, hx20o⟩ := bind_some hx20o
    refine VW.wr tau_ok (Sound.none.add 64 (g_slices_Clone_LI_I_ok hv27) rfl) [some 56, some 57, some 58, some 59, some 60, some 61, some 62, some 63, some 64, some 65, none] [(6, .val (i64 (a1.length : Int))), (10, .ref 10 [] true (dM (s20.1.set s20.2.toNat v27))), (52, .val (i64 (v12.length : Int))), (53, .val (i64 s20.2))] rfl ?_ ?_
    · simp [hv25a, hv25b, hv25c, hv25d, hc26, hc26s] <;> simp [ieq, ilt, ile]
    refine hK24 _ ?_
    -- region 14
    refine VW.wr tau_ok Sound.none [some 66, some 53] [(6, .val (i64 (a1.length : Int))), (10, .ref 10 [] true (dM (s20.1.set s20.2.toNat v27))), (52, .val (i64 (v12.length : Int))), (53, .val (i64 (w64 (s20.2 + 1))))] rfl ?_ ?_
    · simp <;> simp [ieq, ilt, ile]
    cases hx20o
    exact ⟨_, rfl, Fits.of rfl⟩
  refine VW.block ?_
  refine VW.loopF (i_field_inverse_L0 a1 v2) (fun s3 => [(0, .val (i64 a0)), (1, .val (dM a1)), (6, .val (i64 (a1.length : Int))), (7, .ref 7 [] true (dM s3.1)), (16, .val (dM v2)), (17, .val (i64 (v2.length : Int))), (18, .val (i64 s3.2))]) hx3 (Fits.freeze (s := 16) rfl (by simp) (Fits.of rfl)) ?_
  clear hx3
  intro s3 ox3 hx3o hx3b
  unfold i_field_inverse_L0 at hx3o
  -- region 3
  refine VW.ws tau_ok Sound.none [some 19] [(0, .val (i64 a0)), (1, .val (dM a1)), (6, .val (i64 (a1.length : Int))), (7, .ref 7 [] true (dM s3.1)), (16, .val (dM v2)), (17, .val (i64 (v2.length : Int))), (18, .val (i64 s3.2)), (19, .val (.bool (ilt s3.2 (v2.length : Int))))] rfl ?_ ?_
  · simp <;> simp [ieq, ilt, ile]
  refine VW.sqc fun K5 hK5 hCK5 => ?_
  refine VW.cond rfl (fun hb6 => ?_) (fun hb6 => ?_)
  rotate_left
  ·
    replace hb6 : ¬ (s3.2 < (v2.length : Int)) := by simpa [ieq, ilt, ile] using hb6
    rw [if_neg hb6] at hx3o
    refine VW.exit ?_
    cases hx3o
    have hq := hx3b _ rfl
    subst hq
    exact Fits.of rfl
  replace hb6 : s3.2 < (v2.length : Int) := by simpa [ieq, ilt, ile] using hb6
  rw [if_pos hb6] at hx3o
  refine VW.skip ?_
  refine hK5 _ ?_
  refine VW.sqc fun K7 hK7 hCK7 => ?_
  refine VW.block ?_
  -- region 4
  obtain ⟨v8, hv8, hx3o⟩ := bind_some hx3o
  obtain ⟨hv8a, hv8b, hv8c, hv8d⟩ := idx_some hv8
  refine VW.ws tau_ok Sound.none [some 20, some 21, some 22, some 8, some 9] [(0, .val (i64 a0)), (1, .val (dM a1)), (6, .val (i64 (a1.length : Int))), (7, .ref 7 [] true (dM s3.1)), (8, .val (i64 s3.2)), (9, .val (dI v8)), (16, .val (dM v2)), (17, .val (i64 (v2.length : Int))), (18, .val (i64 s3.2))] rfl ?_ ?_
  · simp [hv8a, hv8b, hv8c, hv8d] <;> simp [ieq, ilt, ile]
  -- region 5
  obtain ⟨v9, hv9, hx3o⟩ := bind_some hx3o
  obtain ⟨hv9a, hv9b, hv9c, hv9d⟩ := idx_some hv9
  obtain ⟨v10, hv10, hx3o⟩ := bind_some hx3o
  obtain ⟨hc11, hx3o⟩ := chk_some hx3o
  have hc11s := hc11
  try simp at hc11s
  refine VW.wr tau_ok (Sound.none.add 30 (g_slices_Concat_LI_I_ok hv10) rfl) [some 23, some 24, some 25, some 26, some 27, some 28, some 29, some 30, some 31, some 32, some 7] [(0, .val (i64 a0)), (1, .val (dM a1)), (6, .val (i64 (a1.length : Int))), (7, .ref 7 [] true (dM (s3.1 ++ [v10]))), (16, .val (dM v2)), (17, .val (i64 (v2.length : Int))), (18, .val (i64 s3.2))] rfl ?_ ?_
  · simp [hv9a, hv9b, hv9c, hv9d, hc11, hc11s] <;> simp [ieq, ilt, ile]
  refine hK7 _ ?_
  -- region 6
  refine VW.wr tau_ok Sound.none [some 33, some 18] [(0, .val (i64 a0)), (1, .val (dM a1)), (6, .val (i64 (a1.length : Int))), (7, .ref 7 [] true (dM (s3.1 ++ [v10]))), (16, .val (dM v2)), (17, .val (i64 (v2.length : Int))), (18, .val (i64 (w64 (s3.2 + 1))))] rfl ?_ ?_
  · simp <;> simp [ieq, ilt, ile]
  cases hx3o
  exact ⟨_, rfl, Fits.of rfl⟩

theorem i_InverseMatrix_ok {a0 : Int} {a1 : List (List Int)} {r : (List (List Int)) × Int} (h : i_InverseMatrix a0 a1 = some r) :
    VCall Try.prog 17 [i64 a0, dM a1] [.own true (dM r.1), .sc (i64 r.2)] := by
  unfold i_InverseMatrix at h
  refine VCall.enter Try.call17 Try.func17 rfl 24 Try.ntmps17 (by simp) [.tmp 4, .tmp 5] rfl ?_
  show VW _ _ _ (mk [(0, .val (i64 a0)), (1, .val (dM a1))]) _
  -- region 0
  refine VW.ws tau_ok Sound.none [some 4, some 5] [(0, .val (i64 a0)), (1, .val (dM a1))] rfl ?_ ?_
  · simp <;> simp [ieq, ilt, ile]
  refine VW.sqc fun K1 hK1 hCK1 => ?_
  -- region 1
  obtain ⟨v2, hv2, h⟩ := bind_some h
  refine VW.ws tau_ok (Sound.none.add 11 (i_checkSquare_ok hv2) rfl) [some 9, some 10, some 11, some 6] [(0, .val (i64 a0)), (1, .val (dM a1)), (6, .val (i64 v2))] rfl ?_ ?_
  · simp <;> simp [ieq, ilt, ile]
  -- region 2
  refine VW.ws tau_ok Sound.none [some 12, some 13] [(0, .val (i64 a0)), (1, .val (dM a1)), (6, .val (i64 v2)), (13, .val (.bool (!(ieq v2 0))))] rfl ?_ ?_
  · simp <;> simp [ieq, ilt, ile]
  refine VW.cond rfl (fun hb3 => ?_) (fun hb3 => ?_)
  ·
    replace hb3 : ¬ v2 = 0 := by simpa [ieq, ilt, ile] using hb3
    rw [if_pos hb3] at h
    -- region 3
    refine VW.ws tau_ok Sound.none [some 14, some 4, some 5] [(4, .ref 4 [] true (.list [])), (5, .val (i64 v2))] rfl ?_ ?_
    · simp <;> simp [ieq, ilt, ile]
    cases h
    refine VW.ret ?_
    simp [Post, PostM, PostC, PostC2, Nx, Bk]
  replace hb3 : ¬ (¬ v2 = 0) := by simpa [ieq, ilt, ile] using hb3
  rw [if_neg hb3] at h
  refine VW.skip ?_
  refine hK1 _ ?_
  -- region 4
  obtain ⟨v4, hv4, h⟩ := bind_some h
  refine VW.ws tau_ok (Sound.none.add 18 (i_field_inverse_ok hv4) rfl) [some 16, some 17, some 18, some 15, some 19, some 20, some 7, some 8] [(7, .ref 7 [] true (dM v4.1)), (8, .val (.bool v4.2))] rfl ?_ ?_
  · simp <;> simp [ieq, ilt, ile]
  refine VW.sqc fun K5 hK5 hCK5 => ?_
  -- region 5
  refine VW.ws tau_ok Sound.none [some 21, some 22] [(7, .ref 7 [] true (dM v4.1)), (22, .val (.bool (!v4.2)))] rfl ?_ ?_
  · simp <;> simp [ieq, ilt, ile]
  refine VW.cond rfl (fun hb6 => ?_) (fun hb6 => ?_)
  ·
    replace hb6 : v4.2 = false := by simpa [ieq, ilt, ile] using hb6
    rw [if_pos hb6] at h
    -- region 6
    refine VW.ws tau_ok Sound.none [some 4, some 5] [(4, .ref 4 [] true (.list [])), (5, .val (i64 5))] rfl ?_ ?_
    · simp <;> simp [ieq, ilt, ile]
    cases h
    refine VW.ret ?_
    simp [Post, PostM, PostC, PostC2, Nx, Bk]
  replace hb6 : ¬ (v4.2 = false) := by simpa [ieq, ilt, ile] using hb6
  rw [if_neg hb6] at h
  refine VW.skip ?_
  refine hK5 _ ?_
  -- region 7
  refine VW.ws tau_ok Sound.none [some 23, some 4, some 5] [(4, .ref 4 [] true (dM v4.1)), (5, .val (i64 0))] rfl ?_ ?_
  · simp <;> simp [ieq, ilt, ile]
  cases h
  refine VW.ret ?_
  simp [Post, PostM, PostC, PostC2, Nx, Bk]

theorem s_l01In_ok {a0 : Int} {a1 : Int} {a2 : Int} {r : Bool} (h : s_l01In a0 a1 a2 = some r) :
    VCall Try.prog 171 [i64 a0, i64 a1, i64 a2] [.sc (.bool r)] := by
  unfold s_l01In at h
  refine VCall.enter Try.call171 Try.func171 rfl 15 Try.ntmps171 (by simp) [.tmp 6] rfl ?_
  show VW _ _ _ (mk [(0, .val (i64 a0)), (1, .val (i64 a1)), (2, .val (i64 a2))]) _
  -- region 0
  refine VW.ws tau_ok Sound.none [some 6] [(0, .val (i64 a0)), (1, .val (i64 a1)), (2, .val (i64 a2))] rfl ?_ ?_
  · simp <;> simp [ieq, ilt, ile]
  -- region 1
  obtain ⟨x2, hx2, h⟩ := bind_some h
  refine VW.cut [(6, .val (.bool x2))] ?_ fun hy => ?_
  rotate_left
  · clear h
    by_cases hp1 : a1 ≤ a0
    · rw [if_pos hp1] at hx2
      have hp1b : ile a1 a0 = true := by simpa [ieq, ilt, ile] using hp1
      have hp1s := hp1b
      try simp at hp1s
      cases hx2
      refine VW.ws tau_ok Sound.none [some 7, some 8, some 9, some 10, some 11, some 12, some 13, some 14, some 6] _ rfl ?_ hy
      simp [hp1b, hp1s] <;> simp [ieq, ilt, ile]
    · rw [if_neg hp1] at hx2
      have hp1b : ile a1 a0 = false := by simpa [ieq, ilt, ile] using hp1
      have hp1s := hp1b
      try simp at hp1s
      cases hx2
      refine VW.ws tau_ok Sound.none [some 7, some 8, some 9, some 10, some 11, some 12, some 13, some 14, some 6] _ rfl ?_ hy
      simp [hp1b, hp1s] <;> simp [ieq, ilt, ile]
  cases h
  refine VW.ret ?_
  simp [Post, PostM, PostC, PostC2, Nx, Bk]

theorem s_l01Numbers_ok {a0 : Int} {a1 : List Int} {r : Bool} (h : s_l01Numbers a0 a1 = some r) :
    VCall Try.prog 196 [i64 a0, dI a1] [.sc (.bool r)] := by
  unfold s_l01Numbers at h
  refine VCall.enter Try.call196 Try.func196 rfl 20 Try.ntmps196 (by simp) [.tmp 4] rfl ?_
  show VW _ _ _ (mk [(0, .val (i64 a0)), (1, .val (dI a1))]) _
  -- region 0
  refine VW.ws tau_ok Sound.none [some 4] [(0, .val (i64 a0)), (1, .val (dI a1))] rfl ?_ ?_
  · simp <;> simp [ieq, ilt, ile]
  refine VW.sqc fun K1 hK1 hCK1 => ?_
  -- region 1
  refine VW.ws tau_ok Sound.none [some 5] [(0, .val (i64 a0)), (1, .val (dI a1)), (5, .val (i64 0))] rfl ?_ ?_
  · simp <;> simp [ieq, ilt, ile]
  obtain ⟨x2, hx2, h⟩ := bind_some h
  refine VW.tlO (fun y4 => []) x2 (hCK1) ?_ ?_
  · clear hx2
    rintro y4 rfl
    dsimp only at h
    refine hK1 _ ?_
    -- region 6
    refine VW.ws tau_ok Sound.none [some 4] [(4, .val (.bool true))] rfl ?_ ?_
    · simp <;> simp [ieq, ilt, ile]
    cases h
    refine VW.ret ?_
    simp [Post, PostM, PostC, PostC2, Nx, Bk]
  refine VW.block ?_
  refine VW.loopF (s_l01Numbers_L0 a0 a1) (fun s2 => [(0, .val (i64 a0)), (1, .val (dI a1)), (5, .val (i64 s2))]) hx2 (Fits.of rfl) ?_
  clear hx2
  intro s2 ox2 hx2o hx2b
  unfold s_l01Numbers_L0 at hx2o
  refine VW.sqc fun K5 hK5 hCK5 => ?_
  -- region 2
  refine VW.ws tau_ok Sound.none [some 6, some 7, some 8, some 9] [(0, .val (i64 a0)), (1, .val (dI a1)), (5, .val (i64 s2)), (9, .val (.bool (ilt s2 (a1.length : Int))))] rfl ?_ ?_
  · simp <;> simp [ieq, ilt, ile]
  refine VW.cond rfl (fun hb6 => ?_) (fun hb6 => ?_)
  rotate_left
  ·
    replace hb6 : ¬ (s2 < (a1.length : Int)) := by simpa [ieq, ilt, ile] using hb6
    rw [if_neg hb6] at hx2o
    refine VW.exit ?_
    cases hx2o
    have hq := hx2b _ rfl
    subst hq
    exact ⟨_, rfl, Fits.of rfl⟩
  replace hb6 : s2 < (a1.length : Int) := by simpa [ieq, ilt, ile] using hb6
  rw [if_pos hb6] at hx2o
  refine VW.skip ?_
  refine hK5 _ ?_
  refine VW.sqc fun K7 hK7 hCK7 => ?_
  refine VW.block ?_
  -- region 4
  obtain ⟨v8, hv8, hx2o⟩ := bind_some hx2o
  obtain ⟨hv8a, hv8b, hv8c, hv8d⟩ := idx_some hv8
  obtain ⟨v9, hv9, hx2o⟩ := bind_some hx2o
  refine VW.ws tau_ok (Sound.none.add 18 (s_l01In_ok hv9) rfl) [some 12, some 13, some 14, some 15, some 16, some 17, some 18, some 19] [(0, .val (i64 a0)), (1, .val (dI a1)), (5, .val (i64 s2)), (19, .val (.bool (!v9)))] rfl ?_ ?_
  · simp [hv8a, hv8b, hv8c, hv8d] <;> simp [ieq, ilt, ile]
  refine VW.cond rfl (fun hb10 => ?_) (fun hb10 => ?_)
  rotate_left
  ·
    replace hb10 : ¬ (v9 = false) := by simpa [ieq, ilt, ile] using hb10
    rw [if_neg hb10] at hx2o
    refine VW.skip ?_
    refine hK7 _ ?_
    -- region 3
    refine VW.wr tau_ok Sound.none [some 10, some 11, some 5] [(0, .val (i64 a0)), (1, .val (dI a1)), (5, .val (i64 (w64 (s2 + 1))))] rfl ?_ ?_
    · simp <;> simp [ieq, ilt, ile]
    cases hx2o
    exact ⟨_, rfl, Fits.of rfl⟩
  replace hb10 : v9 = false := by simpa [ieq, ilt, ile] using hb10
  rw [if_pos hb10] at hx2o
  -- region 5
  refine VW.ws tau_ok Sound.none [some 4] [(4, .val (.bool false))] rfl ?_ ?_
  · simp <;> simp [ieq, ilt, ile]
  cases hx2o
  have hq := hx2b _ rfl
  subst hq
  dsimp only at h
  cases h
  refine VW.ret ?_
  simp [Post, PostM, PostC, PostC2, Nx, Bk]

theorem s_l02Is_ok {a0 : Int} {a1 : List (List Int)} {r : Bool} (h : s_l02Is a0 a1 = some r) :
    VCall Try.prog 180 [i64 a0, dM a1] [.sc (.bool r)] := by
  unfold s_l02Is at h
  refine VCall.enter Try.call180 Try.func180 rfl 58 Try.ntmps180 (by simp) [.tmp 4] rfl ?_
  show VW _ _ _ (mk [(0, .val (i64 a0)), (1, .val (dM a1))]) _
  -- region 0
  refine VW.ws tau_ok Sound.none [some 4] [(0, .val (i64 a0)), (1, .val (dM a1))] rfl ?_ ?_
  · simp <;> simp [ieq, ilt, ile]
  refine VW.sqc fun K1 hK1 hCK1 => ?_
  -- region 1
  obtain ⟨x8, hx8, h⟩ := bind_some h
  refine VW.cut [(0, .val (i64 a0)), (1, .val (dM a1)), (32, .val (.bool x8))] ?_ fun hy => ?_
  rotate_left
  · clear h
    obtain ⟨v2, hv2, hx8⟩ := bind_some hx8
    by_cases hp3 : v2 = false
    · rw [if_pos hp3] at hx8
      have hp3b : v2 = false := by simpa [ieq, ilt, ile] using hp3
      have hp3s := hp3b
      try simp at hp3s
      cases hx8
      refine VW.ws tau_ok (Sound.none.add 7 (s_l01Prime_ok hv2) rfl) [some 6, some 7, some 8, some 9, some 10, some 11, some 12, some 13, some 14, some 15, some 16, some 17, some 18, some 19, some 20, some 21, some 22, some 23, some 24, some 25, some 26, some 27, some 28, some 29, some 30, some 31, some 32] _ rfl ?_ hy
      simp [hp3b, hp3s] <;> simp [ieq, ilt, ile]
    · rw [if_neg hp3] at hx8
      have hp3b : v2 = true := by simpa [ieq, ilt, ile] using hp3
      have hp3s := hp3b
      try simp at hp3s
      by_cases hp4 : (a1.length : Int) < 1
      · rw [if_pos hp4] at hx8
        have hp4b : ilt (a1.length : Int) 1 = true := by simpa [ieq, ilt, ile] using hp4
        have hp4s := hp4b
        try simp at hp4s
        cases hx8
        refine VW.ws tau_ok (Sound.none.add 7 (s_l01Prime_ok hv2) rfl) [some 6, some 7, some 8, some 9, some 10, some 11, some 12, some 13, some 14, some 15, some 16, some 17, some 18, some 19, some 20, some 21, some 22, some 23, some 24, some 25, some 26, some 27, some 28, some 29, some 30, some 31, some 32] _ rfl ?_ hy
        simp [hp3b, hp3s, hp4b, hp4s] <;> simp [ieq, ilt, ile]
      · rw [if_neg hp4] at hx8
        have hp4b : ilt (a1.length : Int) 1 = false := by simpa [ieq, ilt, ile] using hp4
        have hp4s := hp4b
        try simp at hp4s
        by_cases hp5 : 16 < (a1.length : Int)
        · rw [if_pos hp5] at hx8
          have hp5b : ilt 16 (a1.length : Int) = true := by simpa [ieq, ilt, ile] using hp5
          have hp5s := hp5b
          try simp at hp5s
          cases hx8
          refine VW.ws tau_ok (Sound.none.add 7 (s_l01Prime_ok hv2) rfl) [some 6, some 7, some 8, some 9, some 10, some 11, some 12, some 13, some 14, some 15, some 16, some 17, some 18, some 19, some 20, some 21, some 22, some 23, some 24, some 25, some 26, some 27, some 28, some 29, some 30, some 31, some 32] _ rfl ?_ hy
          simp [hp3b, hp3s, hp4b, hp4s, hp5b, hp5s] <;> simp [ieq, ilt, ile]
        · rw [if_neg hp5] at hx8
          have hp5b : ilt 16 (a1.length : Int) = false := by simpa [ieq, ilt, ile] using hp5
          have hp5s := hp5b
          try simp at hp5s
          obtain ⟨v6, hv6, hx8⟩ := bind_some hx8
          obtain ⟨hv6a, hv6b, hv6c, hv6d⟩ := idx_some hv6
          replace hv6b : 0 < a1.length := hv6b
          replace hv6c : a1[0]? = some v6 := hv6c
          replace hv6d : ∀ h, a1[0]'h = v6 := hv6d
          by_cases hp7 : (v6.length : Int) < 1
          · rw [if_pos hp7] at hx8
            have hp7b : ilt (v6.length : Int) 1 = true := by simpa [ieq, ilt, ile] using hp7
            have hp7s := hp7b
            try simp at hp7s
            cases hx8
            refine VW.ws tau_ok (Sound.none.add 7 (s_l01Prime_ok hv2) rfl) [some 6, some 7, some 8, some 9, some 10, some 11, some 12, some 13, some 14, some 15, some 16, some 17, some 18, some 19, some 20, some 21, some 22, some 23, some 24, some 25, some 26, some 27, some 28, some 29, some 30, some 31, some 32] _ rfl ?_ hy
            simp [hp3b, hp3s, hp4b, hp4s, hp5b, hp5s, hv6a, hv6b, hv6c, hv6d, hp7b, hp7s] <;> simp [ieq, ilt, ile]
          · rw [if_neg hp7] at hx8
            have hp7b : ilt (v6.length : Int) 1 = false := by simpa [ieq, ilt, ile] using hp7
            have hp7s := hp7b
            try simp at hp7s
            cases hx8
            refine VW.ws tau_ok (Sound.none.add 7 (s_l01Prime_ok hv2) rfl) [some 6, some 7, some 8, some 9, some 10, some 11, some 12, some 13, some 14, some 15, some 16, some 17, some 18, some 19, some 20, some 21, some 22, some 23, some 24, some 25, some 26, some 27, some 28, some 29, some 30, some 31, some 32] _ rfl ?_ hy
            simp [hp3b, hp3s, hp4b, hp4s, hp5b, hp5s, hv6a, hv6b, hv6c, hv6d, hp7b, hp7s] <;> simp [ieq, ilt, ile]
  refine VW.cond rfl (fun hb9 => ?_) (fun hb9 => ?_)
  ·
    replace hb9 : x8 = true := by simpa [ieq, ilt, ile] using hb9
    rw [if_pos hb9] at h
    -- region 2
    refine VW.ws tau_ok Sound.none [some 4] [(4, .val (.bool false))] rfl ?_ ?_
    · simp <;> simp [ieq, ilt, ile]
    cases h
    refine VW.ret ?_
    simp [Post, PostM, PostC, PostC2, Nx, Bk]
  replace hb9 : ¬ (x8 = true) := by simpa [ieq, ilt, ile] using hb9
  rw [if_neg hb9] at h
  refine VW.skip ?_
  refine hK1 _ ?_
  refine VW.sqc fun K10 hK10 hCK10 => ?_
  -- region 3
  refine VW.ws tau_ok Sound.none [some 5] [(0, .val (i64 a0)), (1, .val (dM a1)), (5, .val (i64 0))] rfl ?_ ?_
  · simp <;> simp [ieq, ilt, ile]
  obtain ⟨x11, hx11, h⟩ := bind_some h
  refine VW.tlO (fun y13 => []) x11 (hCK10) ?_ ?_
  · clear hx11
    rintro y13 rfl
    dsimp only at h
    refine hK10 _ ?_
    -- region 8
    refine VW.ws tau_ok Sound.none [some 4] [(4, .val (.bool true))] rfl ?_ ?_
    · simp <;> simp [ieq, ilt, ile]
    cases h
    refine VW.ret ?_
    simp [Post, PostM, PostC, PostC2, Nx, Bk]
  refine VW.block ?_
  refine VW.loopF (s_l02Is_L0 a0 a1) (fun s11 => [(0, .val (i64 a0)), (1, .val (dM a1)), (5, .val (i64 s11))]) hx11 (Fits.of rfl) ?_
  clear hx11
  intro s11 ox11 hx11o hx11b
  unfold s_l02Is_L0 at hx11o
  refine VW.sqc fun K14 hK14 hCK14 => ?_
  -- region 4
  refine VW.ws tau_ok Sound.none [some 33, some 34, some 35, some 36] [(0, .val (i64 a0)), (1, .val (dM a1)), (5, .val (i64 s11)), (36, .val (.bool (ilt s11 (a1.length : Int))))] rfl ?_ ?_
  · simp <;> simp [ieq, ilt, ile]
  refine VW.cond rfl (fun hb15 => ?_) (fun hb15 => ?_)
  rotate_left
  ·
    replace hb15 : ¬ (s11 < (a1.length : Int)) := by simpa [ieq, ilt, ile] using hb15
    rw [if_neg hb15] at hx11o
    refine VW.exit ?_
    cases hx11o
    have hq := hx11b _ rfl
    subst hq
    exact ⟨_, rfl, Fits.of rfl⟩
  replace hb15 : s11 < (a1.length : Int) := by simpa [ieq, ilt, ile] using hb15
  rw [if_pos hb15] at hx11o
  refine VW.skip ?_
  refine hK14 _ ?_
  refine VW.sqc fun K16 hK16 hCK16 => ?_
  refine VW.block ?_
  -- region 6
  obtain ⟨x21, hx21, hx11o⟩ := bind_some hx11o
  refine VW.cut [(0, .val (i64 a0)), (1, .val (dM a1)), (5, .val (i64 s11)), (57, .val (.bool x21))] ?_ fun hy => ?_
  rotate_left
  · clear hx11o
    obtain ⟨v17, hv17, hx21⟩ := bind_some hx21
    obtain ⟨hv17a, hv17b, hv17c, hv17d⟩ := idx_some hv17
    obtain ⟨v18, hv18, hx21⟩ := bind_some hx21
    obtain ⟨hv18a, hv18b, hv18c, hv18d⟩ := idx_some hv18
    replace hv18b : 0 < a1.length := hv18b
    replace hv18c : a1[0]? = some v18 := hv18c
    replace hv18d : ∀ h, a1[0]'h = v18 := hv18d
    by_cases hp19 : ¬ (v17.length : Int) = (v18.length : Int)
    · rw [if_pos hp19] at hx21
      have hp19b : ieq (v17.length : Int) (v18.length : Int) = false := by simpa [ieq, ilt, ile] using hp19
      have hp19s := hp19b
      try simp at hp19s
      cases hx21
      refine VW.wds tau_ok Sound.none try_mixed [some 39, some 40, some 41, some 42, some 43, some 44, some 45, some 46, some 47, some 48, some 49, some 50, some 51, some 52, some 53, some 54, some 55, some 56, some 57] _ 19 rfl (by kernel_rfl) (by rfl) ?_ hy
      simp [hv17a, hv17b, hv17c, hv17d, hv18a, hv18b, hv18c, hv18d, hp19b, hp19s] <;> simp [ieq, ilt, ile]
    · rw [if_neg hp19] at hx21
      have hp19b : ieq (v17.length : Int) (v18.length : Int) = true := by simpa [ieq, ilt, ile] using hp19
      have hp19s := hp19b
      try simp at hp19s
      obtain ⟨v20, hv20, hx21⟩ := bind_some hx21
      cases hx21
      refine VW.wds tau_ok (Sound.none.add 55 (s_l01Numbers_ok hv20) rfl) try_mixed [some 39, some 40, some 41, some 42, some 43, some 44, some 45, some 46, some 47, some 48, some 49, some 50, some 51, some 52, some 53, some 54, some 55, some 56, some 57] _ 19 rfl (by kernel_rfl) (by rfl) ?_ hy
      simp [hv17a, hv17b, hv17c, hv17d, hv18a, hv18b, hv18c, hv18d, hp19b, hp19s] <;> simp [ieq, ilt, ile]
  refine VW.cond rfl (fun hb22 => ?_) (fun hb22 => ?_)
  rotate_left
  ·
    replace hb22 : ¬ (x21 = true) := by simpa [ieq, ilt, ile] using hb22
    rw [if_neg hb22] at hx11o
    refine VW.skip ?_
    refine hK16 _ ?_
    -- region 5
    refine VW.wr tau_ok Sound.none [some 37, some 38, some 5] [(0, .val (i64 a0)), (1, .val (dM a1)), (5, .val (i64 (w64 (s11 + 1))))] rfl ?_ ?_
    · simp <;> simp [ieq, ilt, ile]
    cases hx11o
    exact ⟨_, rfl, Fits.of rfl⟩
  replace hb22 : x21 = true := by simpa [ieq, ilt, ile] using hb22
  rw [if_pos hb22] at hx11o
  -- region 7
  refine VW.ws tau_ok Sound.none [some 4] [(4, .val (.bool false))] rfl ?_ ?_
  · simp <;> simp [ieq, ilt, ile]
  cases hx11o
  have hq := hx11b _ rfl
  subst hq
  dsimp only at h
  cases h
  refine VW.ret ?_
  simp [Post, PostM, PostC, PostC2, Nx, Bk]

theorem s_l02Square_ok {a0 : Int} {a1 : List (List Int)} {r : Int} (h : s_l02Square a0 a1 = some r) :
    VCall Try.prog 92 [i64 a0, dM a1] [.sc (i64 r)] := by
  unfold s_l02Square at h
  refine VCall.enter Try.call92 Try.func92 rfl 16 Try.ntmps92 (by simp) [.tmp 4] rfl ?_
  show VW _ _ _ (mk [(0, .val (i64 a0)), (1, .val (dM a1))]) _
  -- region 0
  refine VW.ws tau_ok Sound.none [some 4] [(0, .val (i64 a0)), (1, .val (dM a1))] rfl ?_ ?_
  · simp <;> simp [ieq, ilt, ile]
  refine VW.sqc fun K1 hK1 hCK1 => ?_
  -- region 1
  obtain ⟨v2, hv2, h⟩ := bind_some h
  refine VW.ws tau_ok (Sound.none.add 7 (s_l02Is_ok hv2) rfl) [some 5, some 6, some 7, some 8] [(1, .val (dM a1)), (8, .val (.bool (!v2)))] rfl ?_ ?_
  · simp <;> simp [ieq, ilt, ile]
  refine VW.cond rfl (fun hb3 => ?_) (fun hb3 => ?_)
  ·
    replace hb3 : v2 = false := by simpa [ieq, ilt, ile] using hb3
    rw [if_pos hb3] at h
    -- region 2
    refine VW.ws tau_ok Sound.none [some 4] [(4, .val (i64 1))] rfl ?_ ?_
    · simp <;> simp [ieq, ilt, ile]
    cases h
    refine VW.ret ?_
    simp [Post, PostM, PostC, PostC2, Nx, Bk]
  replace hb3 : ¬ (v2 = false) := by simpa [ieq, ilt, ile] using hb3
  rw [if_neg hb3] at h
  refine VW.skip ?_
  refine hK1 _ ?_
  refine VW.sqc fun K4 hK4 hCK4 => ?_
  -- region 3
  obtain ⟨v5, hv5, h⟩ := bind_some h
  obtain ⟨hv5a, hv5b, hv5c, hv5d⟩ := idx_some hv5
  replace hv5b : 0 < a1.length := hv5b
  replace hv5c : a1[0]? = some v5 := hv5c
  replace hv5d : ∀ h, a1[0]'h = v5 := hv5d
  refine VW.ws tau_ok Sound.none [some 9, some 10, some 11, some 12, some 13, some 14, some 15] [(15, .val (.bool (!(ieq (a1.length : Int) (v5.length : Int)))))] rfl ?_ ?_
  · simp [hv5a, hv5b, hv5c, hv5d] <;> simp [ieq, ilt, ile]
  refine VW.cond rfl (fun hb6 => ?_) (fun hb6 => ?_)
  ·
    replace hb6 : ¬ (a1.length : Int) = (v5.length : Int) := by simpa [ieq, ilt, ile] using hb6
    rw [if_pos hb6] at h
    -- region 4
    refine VW.ws tau_ok Sound.none [some 4] [(4, .val (i64 2))] rfl ?_ ?_
    · simp <;> simp [ieq, ilt, ile]
    cases h
    refine VW.ret ?_
    simp [Post, PostM, PostC, PostC2, Nx, Bk]
  replace hb6 : ¬ (¬ (a1.length : Int) = (v5.length : Int)) := by simpa [ieq, ilt, ile] using hb6
  rw [if_neg hb6] at h
  refine VW.skip ?_
  refine hK4 _ ?_
  -- region 5
  refine VW.ws tau_ok Sound.none [some 4] [(4, .val (i64 0))] rfl ?_ ?_
  · simp <;> simp [ieq, ilt, ile]
  cases h
  refine VW.ret ?_
  simp [Post, PostM, PostC, PostC2, Nx, Bk]

theorem s_l01Own_ok {a0 : List Int} {r : List Int} (h : s_l01Own a0 = some r) :
    VCall Try.prog 163 [dI a0] [.own true (dI r)] := by
  unfold s_l01Own at h
  refine VCall.enter Try.call163 Try.func163 rfl 6 Try.ntmps163 (by simp) [.tmp 2] rfl ?_
  show VW _ _ _ (mk [(0, .val (dI a0))]) _
  -- region 0
  refine VW.ws tau_ok Sound.none [some 2] [(0, .val (dI a0))] rfl ?_ ?_
  · simp <;> simp [ieq, ilt, ile]
  -- region 1
  obtain ⟨hc1, h⟩ := chk_some h
  have hc1s := hc1
  try simp at hc1s
  refine VW.ws tau_ok Sound.none [some 3, some 4, some 5, some 2] [(2, .ref 2 [] true (dI (([] : List Int) ++ a0)))] rfl ?_ ?_
  · simp [hc1, hc1s] <;> simp [ieq, ilt, ile]
  cases h
  refine VW.ret ?_
  simp [Post, PostM, PostC, PostC2, Nx, Bk]

theorem s_l01Own2_ok {a0 : List (List Int)} {r : List (List Int)} (h : s_l01Own2 a0 = some r) :
    VCall Try.prog 181 [dM a0] [.own true (dM r)] := by
  unfold s_l01Own2 at h
  refine VCall.enter Try.call181 Try.func181 rfl 21 Try.ntmps181 (by simp) [.tmp 2] rfl ?_
  show VW _ _ _ (mk [(0, .val (dM a0))]) _
  -- region 0
  refine VW.ws tau_ok Sound.none [some 2] [(0, .val (dM a0))] rfl ?_ ?_
  · simp <;> simp [ieq, ilt, ile]
  -- region 1
  refine VW.ws tau_ok Sound.none [some 5, some 3] [(0, .val (dM a0)), (3, .ref 3 [] true (dM []))] rfl ?_ ?_
  · simp <;> simp [ieq, ilt, ile]
  refine VW.sqc fun K1 hK1 hCK1 => ?_
  -- region 2
  refine VW.ws tau_ok Sound.none [some 4] [(0, .val (dM a0)), (3, .ref 3 [] true (dM [])), (4, .val (i64 0))] rfl ?_ ?_
  · simp <;> simp [ieq, ilt, ile]
  obtain ⟨x2, hx2, h⟩ := bind_some h
  refine VW.tlE [(3, .ref 3 [] true (dM x2))] (hCK1) ?_ ?_
  · clear hx2
    refine hK1 _ ?_
    -- region 6
    refine VW.ws tau_ok Sound.none [some 20, some 2] [(2, .ref 2 [] true (dM x2))] rfl ?_ ?_
    · simp <;> simp [ieq, ilt, ile]
    cases h
    refine VW.ret ?_
    simp [Post, PostM, PostC, PostC2, Nx, Bk]
  refine VW.block ?_
  refine VW.loopF (s_l01Own2_L0 a0) (fun s2 => [(0, .val (dM a0)), (3, .ref 3 [] true (dM s2.1)), (4, .val (i64 s2.2))]) hx2 (Fits.of rfl) ?_
  clear hx2
  intro s2 ox2 hx2o hx2b
  unfold s_l01Own2_L0 at hx2o
  refine VW.sqc fun K4 hK4 hCK4 => ?_
  -- region 3
  refine VW.ws tau_ok Sound.none [some 6, some 7, some 8, some 9] [(0, .val (dM a0)), (3, .ref 3 [] true (dM s2.1)), (4, .val (i64 s2.2)), (9, .val (.bool (ilt s2.2 (a0.length : Int))))] rfl ?_ ?_
  · simp <;> simp [ieq, ilt, ile]
  refine VW.cond rfl (fun hb5 => ?_) (fun hb5 => ?_)
  rotate_left
  ·
    replace hb5 : ¬ (s2.2 < (a0.length : Int)) := by simpa [ieq, ilt, ile] using hb5
    rw [if_neg hb5] at hx2o
    refine VW.exit ?_
    cases hx2o
    have hq := hx2b _ rfl
    subst hq
    exact Fits.of rfl
  replace hb5 : s2.2 < (a0.length : Int) := by simpa [ieq, ilt, ile] using hb5
  rw [if_pos hb5] at hx2o
  refine VW.skip ?_
  refine hK4 _ ?_
  refine VW.sqc fun K6 hK6 hCK6 => ?_
  refine VW.block ?_
  -- region 5
  obtain ⟨v7, hv7, hx2o⟩ := bind_some hx2o
  obtain ⟨hv7a, hv7b, hv7c, hv7d⟩ := idx_some hv7
  obtain ⟨v8, hv8, hx2o⟩ := bind_some hx2o
  obtain ⟨hc9, hx2o⟩ := chk_some hx2o
  have hc9s := hc9
  try simp at hc9s
  refine VW.wr tau_ok (Sound.none.add 17 (s_l01Own_ok hv8) rfl) [some 12, some 13, some 14, some 15, some 16, some 17, some 18, some 19, some 3] [(0, .val (dM a0)), (3, .ref 3 [] true (dM (s2.1 ++ [v8]))), (4, .val (i64 s2.2))] rfl ?_ ?_
  · simp [hv7a, hv7b, hv7c, hv7d, hc9, hc9s] <;> simp [ieq, ilt, ile]
  refine hK6 _ ?_
  -- region 4
  refine VW.wr tau_ok Sound.none [some 10, some 11, some 4] [(0, .val (dM a0)), (3, .ref 3 [] true (dM (s2.1 ++ [v8]))), (4, .val (i64 (w64 (s2.2 + 1))))] rfl ?_ ?_
  · simp <;> simp [ieq, ilt, ile]
  cases hx2o
  exact ⟨_, rfl, Fits.of rfl⟩

theorem s_l01Inv_ok {a0 : Int} {a1 : Int} {r : Int} (h : s_l01Inv a0 a1 = some r) :
    VCall Try.prog 165 [i64 a0, i64 a1] [.sc (i64 r)] := by
  unfold s_l01Inv at h
  refine VCall.enter Try.call165 Try.func165 rfl 15 Try.ntmps165 (by simp) [.tmp 4] rfl ?_
  show VW _ _ _ (mk [(0, .val (i64 a0)), (1, .val (i64 a1))]) _
  -- region 0
  refine VW.ws tau_ok Sound.none [some 4] [(0, .val (i64 a0)), (1, .val (i64 a1))] rfl ?_ ?_
  · simp <;> simp [ieq, ilt, ile]
  -- region 1
  refine VW.ws tau_ok Sound.none [some 5] [(0, .val (i64 a0)), (1, .val (i64 a1)), (5, .val (i64 1))] rfl ?_ ?_
  · simp <;> simp [ieq, ilt, ile]
  refine VW.sqc fun K1 hK1 hCK1 => ?_
  obtain ⟨x2, hx2, h⟩ := bind_some h
  refine VW.tlE [(5, .val (i64 x2))] (hCK1) ?_ ?_
  · clear hx2
    refine hK1 _ ?_
    -- region 4
    refine VW.ws tau_ok Sound.none [some 14, some 4] [(4, .val (i64 x2))] rfl ?_ ?_
    · simp <;> simp [ieq, ilt, ile]
    cases h
    refine VW.ret ?_
    simp [Post, PostM, PostC, PostC2, Nx, Bk]
  refine VW.block ?_
  refine VW.loopF (s_l01Inv_L0 a0 a1) (fun s2 => [(0, .val (i64 a0)), (1, .val (i64 a1)), (5, .val (i64 s2))]) hx2 (Fits.of rfl) ?_
  clear hx2
  intro s2 ox2 hx2o hx2b
  unfold s_l01Inv_L0 at hx2o
  refine VW.sqc fun K4 hK4 hCK4 => ?_
  -- region 2
  obtain ⟨hc5, hx2o⟩ := chk_some hx2o
  have hc5s := hc5
  try simp at hc5s
  refine VW.ws tau_ok Sound.none [some 6, some 7, some 8, some 9, some 10, some 11] [(0, .val (i64 a0)), (1, .val (i64 a1)), (5, .val (i64 s2)), (11, .val (.bool (!(ieq ((w64 (a1 * s2)).tmod a0) 1))))] rfl ?_ ?_
  · simp [hc5, hc5s] <;> simp [ieq, ilt, ile]
  refine VW.cond rfl (fun hb6 => ?_) (fun hb6 => ?_)
  rotate_left
  ·
    replace hb6 : ¬ (¬ ((w64 (a1 * s2)).tmod a0) = 1) := by simpa [ieq, ilt, ile] using hb6
    rw [if_neg hb6] at hx2o
    refine VW.exit ?_
    cases hx2o
    have hq := hx2b _ rfl
    subst hq
    exact Fits.of rfl
  replace hb6 : ¬ ((w64 (a1 * s2)).tmod a0) = 1 := by simpa [ieq, ilt, ile] using hb6
  rw [if_pos hb6] at hx2o
  refine VW.skip ?_
  refine hK4 _ ?_
  refine VW.block ?_
  -- region 3
  refine VW.wr tau_ok Sound.none [some 12, some 13, some 5] [(0, .val (i64 a0)), (1, .val (i64 a1)), (5, .val (i64 (w64 (s2 + 1))))] rfl ?_ ?_
  · simp <;> simp [ieq, ilt, ile]
  cases hx2o
  exact ⟨_, rfl, Fits.of rfl⟩

theorem s_l02Det_ok {a0 : Int} {a1 : List (List Int)} {r : Int} (h : s_l02Det a0 a1 = some r) :
    VCall Try.prog 93 [i64 a0, dM a1] [.sc (i64 r)] := by
  unfold s_l02Det at h
  refine VCall.enter Try.call93 Try.func93 rfl 119 Try.ntmps93 (by simp) [.tmp 4] rfl ?_
  show VW _ _ _ (mk [(0, .val (i64 a0)), (1, .val (dM a1))]) _
  -- region 0
  refine VW.ws tau_ok Sound.none [some 4] [(0, .val (i64 a0)), (1, .val (dM a1))] rfl ?_ ?_
  · simp <;> simp [ieq, ilt, ile]
  -- region 1
  obtain ⟨v1, hv1, h⟩ := bind_some h
  refine VW.ws tau_ok (Sound.none.add 13 (s_l01Own2_ok hv1) rfl) [some 12, some 13, some 5, some 6] [(0, .val (i64 a0)), (5, .ref 5 [] true (dM v1)), (6, .val (i64 1))] rfl ?_ ?_
  · simp <;> simp [ieq, ilt, ile]
  refine VW.sqc fun K2 hK2 hCK2 => ?_
  -- region 2
  refine VW.ws tau_ok Sound.none [some 7] [(0, .val (i64 a0)), (5, .ref 5 [] true (dM v1)), (6, .val (i64 1)), (7, .val (i64 0))] rfl ?_ ?_
  · simp <;> simp [ieq, ilt, ile]
  obtain ⟨x3, hx3, h⟩ := bind_some h
  refine VW.tlO (fun y5 => [(6, .val (i64 y5))]) x3 (hCK2) ?_ ?_
  · clear hx3
    rintro y5 rfl
    dsimp only at h
    refine hK2 _ ?_
    -- region 21
    refine VW.ws tau_ok Sound.none [some 118, some 4] [(4, .val (i64 y5))] rfl ?_ ?_
    · simp <;> simp [ieq, ilt, ile]
    cases h
    refine VW.ret ?_
    simp [Post, PostM, PostC, PostC2, Nx, Bk]
  refine VW.block ?_
  refine VW.loopF (s_l02Det_L0 a0) (fun s3 => [(0, .val (i64 a0)), (5, .ref 5 [] false (dM s3.1)), (6, .val (i64 s3.2.1)), (7, .val (i64 s3.2.2))]) hx3 (Fits.weak (s := 5) rfl (by simp) (Fits.of rfl)) ?_
  clear hx3
  intro s3 ox3 hx3o hx3b
  unfold s_l02Det_L0 at hx3o
  refine VW.sqc fun K6 hK6 hCK6 => ?_
  -- region 3
  refine VW.ws tau_ok Sound.none [some 14, some 15, some 16, some 17] [(0, .val (i64 a0)), (5, .ref 5 [] false (dM s3.1)), (6, .val (i64 s3.2.1)), (7, .val (i64 s3.2.2)), (17, .val (.bool (ilt s3.2.2 (s3.1.length : Int))))] rfl ?_ ?_
  · simp <;> simp [ieq, ilt, ile]
  refine VW.cond rfl (fun hb7 => ?_) (fun hb7 => ?_)
  rotate_left
  ·
    replace hb7 : ¬ (s3.2.2 < (s3.1.length : Int)) := by simpa [ieq, ilt, ile] using hb7
    rw [if_neg hb7] at hx3o
    refine VW.exit ?_
    cases hx3o
    have hq := hx3b _ rfl
    subst hq
    exact ⟨_, rfl, Fits.of rfl⟩
  replace hb7 : s3.2.2 < (s3.1.length : Int) := by simpa [ieq, ilt, ile] using hb7
  rw [if_pos hb7] at hx3o
  refine VW.skip ?_
  refine hK6 _ ?_
  refine VW.sqc fun K8 hK8 hCK8 => ?_
  refine VW.block ?_
  -- region 5
  refine VW.ws tau_ok Sound.none [some 20, some 8] [(0, .val (i64 a0)), (5, .ref 5 [] false (dM s3.1)), (6, .val (i64 s3.2.1)), (7, .val (i64 s3.2.2)), (8, .val (i64 s3.2.2))] rfl ?_ ?_
  · simp <;> simp [ieq, ilt, ile]
  refine VW.sqc fun K9 hK9 hCK9 => ?_
  obtain ⟨x10, hx10, hx3o⟩ := bind_some hx3o
  refine VW.tlE [(0, .val (i64 a0)), (5, .ref 5 [] false (dM s3.1)), (6, .val (i64 s3.2.1)), (7, .val (i64 s3.2.2)), (8, .val (i64 x10))] (hCK9) ?_ ?_
  · clear hx10
    refine hK9 _ ?_
    refine VW.sqc fun K18 hK18 hCK18 => ?_
    -- region 8
    refine VW.ws tau_ok Sound.none [some 37, some 38, some 39, some 40] [(0, .val (i64 a0)), (5, .ref 5 [] false (dM s3.1)), (6, .val (i64 s3.2.1)), (7, .val (i64 s3.2.2)), (8, .val (i64 x10)), (40, .val (.bool (ieq x10 (s3.1.length : Int))))] rfl ?_ ?_
    · simp <;> simp [ieq, ilt, ile]
    refine VW.cond rfl (fun hb19 => ?_) (fun hb19 => ?_)
    ·
      replace hb19 : x10 = (s3.1.length : Int) := by simpa [ieq, ilt, ile] using hb19
      rw [if_pos hb19] at hx3o
      -- region 9
      refine VW.ws tau_ok Sound.none [some 4] [(4, .val (i64 0))] rfl ?_ ?_
      · simp <;> simp [ieq, ilt, ile]
      cases hx3o
      have hq := hx3b _ rfl
      subst hq
      dsimp only at h
      cases h
      refine VW.ret ?_
      simp [Post, PostM, PostC, PostC2, Nx, Bk]
    replace hb19 : ¬ (x10 = (s3.1.length : Int)) := by simpa [ieq, ilt, ile] using hb19
    rw [if_neg hb19] at hx3o
    refine VW.skip ?_
    refine hK18 _ ?_
    refine VW.sqc fun K20 hK20 hCK20 => ?_
    -- region 10
    refine VW.ws tau_ok Sound.none [some 41, some 42, some 43] [(0, .val (i64 a0)), (5, .ref 5 [] false (dM s3.1)), (6, .val (i64 s3.2.1)), (7, .val (i64 s3.2.2)), (8, .val (i64 x10)), (43, .val (.bool (ilt s3.2.2 x10)))] rfl ?_ ?_
    · simp <;> simp [ieq, ilt, ile]
    obtain ⟨x21, hx21, hx3o⟩ := bind_some hx3o
    refine VW.tlE [(0, .val (i64 a0)), (5, .ref 5 [] false (dM x21.1)), (6, .val (i64 x21.2)), (7, .val (i64 s3.2.2))] (hCK20) ?_ ?_
    · clear hx21
      refine hK20 _ ?_
      -- region 15
      obtain ⟨v29, hv29, hx3o⟩ := bind_some hx3o
      obtain ⟨hv29a, hv29b, hv29c, hv29d⟩ := idx_some hv29
      obtain ⟨v30, hv30, hx3o⟩ := bind_some hx3o
      obtain ⟨hv30a, hv30b, hv30c, hv30d⟩ := idx_some hv30
      obtain ⟨hc31, hx3o⟩ := chk_some hx3o
      have hc31s := hc31
      try simp at hc31s
      refine VW.ws tau_ok Sound.none [some 64, some 65, some 66, some 67, some 68, some 69, some 70, some 71, some 72, some 73, some 74, some 6] [(0, .val (i64 a0)), (5, .ref 5 [] false (dM x21.1)), (6, .val (i64 ((w64 (x21.2 * v30)).tmod a0))), (7, .val (i64 s3.2.2))] rfl ?_ ?_
      · simp [hv29a, hv29b, hv29c, hv29d, hv30a, hv30b, hv30c, hv30d, hc31, hc31s] <;> simp [ieq, ilt, ile]
      -- region 16
      obtain ⟨v32, hv32, hx3o⟩ := bind_some hx3o
      refine VW.ws tau_ok (Sound.none.add 83 (s_l01Inv_ok hv32) rfl) [some 75, some 76, some 77, some 78, some 79, some 80, some 81, some 82, some 83, some 10] [(0, .val (i64 a0)), (5, .ref 5 [] false (dM x21.1)), (6, .val (i64 ((w64 (x21.2 * v30)).tmod a0))), (7, .val (i64 s3.2.2)), (10, .val (i64 v32))] rfl ?_ ?_
      · simp [hv29a, hv29b, hv29c, hv29d, hv30a, hv30b, hv30c, hv30d] <;> simp [ieq, ilt, ile]
      -- region 17
      refine VW.ws tau_ok Sound.none [some 84, some 85, some 11] [(0, .val (i64 a0)), (5, .ref 5 [] false (dM x21.1)), (6, .val (i64 ((w64 (x21.2 * v30)).tmod a0))), (7, .val (i64 s3.2.2)), (10, .val (i64 v32)), (11, .val (i64 (w64 (s3.2.2 + 1))))] rfl ?_ ?_
      · simp <;> simp [ieq, ilt, ile]
      obtain ⟨x33, hx33, hx3o⟩ := bind_some hx3o
      refine VW.tlE [(0, .val (i64 a0)), (5, .ref 5 [] false (dM x33)), (6, .val (i64 ((w64 (x21.2 * v30)).tmod a0))), (7, .val (i64 s3.2.2))] (hCK8) ?_ ?_
      · clear hx33
        refine hK8 _ ?_
        -- region 4
        refine VW.wr tau_ok Sound.none [some 18, some 19, some 7] [(0, .val (i64 a0)), (5, .ref 5 [] false (dM x33)), (6, .val (i64 ((w64 (x21.2 * v30)).tmod a0))), (7, .val (i64 (w64 (s3.2.2 + 1))))] rfl ?_ ?_
        · simp <;> simp [ieq, ilt, ile]
        cases hx3o
        exact ⟨_, rfl, Fits.of rfl⟩
      refine VW.block ?_
      refine VW.loopF (s_l02Det_L2 a0 s3 v32) (fun s33 => [(0, .val (i64 a0)), (5, .ref 5 [] false (dM s33.1)), (6, .val (i64 ((w64 (x21.2 * v30)).tmod a0))), (7, .val (i64 s3.2.2)), (10, .val (i64 v32)), (11, .val (i64 s33.2))]) hx33 (Fits.of rfl) ?_
      clear hx33
      intro s33 ox33 hx33o hx33b
      unfold s_l02Det_L2 at hx33o
      refine VW.sqc fun K35 hK35 hCK35 => ?_
      -- region 18
      refine VW.ws tau_ok Sound.none [some 86, some 87, some 88, some 89] [(0, .val (i64 a0)), (5, .ref 5 [] false (dM s33.1)), (6, .val (i64 ((w64 (x21.2 * v30)).tmod a0))), (7, .val (i64 s3.2.2)), (10, .val (i64 v32)), (11, .val (i64 s33.2)), (89, .val (.bool (ilt s33.2 (s33.1.length : Int))))] rfl ?_ ?_
      · simp <;> simp [ieq, ilt, ile]
      refine VW.cond rfl (fun hb36 => ?_) (fun hb36 => ?_)
      rotate_left
      ·
        replace hb36 : ¬ (s33.2 < (s33.1.length : Int)) := by simpa [ieq, ilt, ile] using hb36
        rw [if_neg hb36] at hx33o
        refine VW.exit ?_
        cases hx33o
        have hq := hx33b _ rfl
        subst hq
        exact Fits.of rfl
      replace hb36 : s33.2 < (s33.1.length : Int) := by simpa [ieq, ilt, ile] using hb36
      rw [if_pos hb36] at hx33o
      refine VW.skip ?_
      refine hK35 _ ?_
      refine VW.sqc fun K37 hK37 hCK37 => ?_
      refine VW.block ?_
      -- region 20
      obtain ⟨v38, hv38, hx33o⟩ := bind_some hx33o
      obtain ⟨hv38a, hv38b, hv38c, hv38d⟩ := idx_some hv38
      obtain ⟨v39, hv39, hx33o⟩ := bind_some hx33o
      obtain ⟨hv39a, hv39b, hv39c, hv39d⟩ := idx_some hv39
      obtain ⟨v40, hv40, hx33o⟩ := bind_some hx33o
      obtain ⟨hv40a, hv40b, hv40c, hv40d⟩ := idx_some hv40
      obtain ⟨hc41, hx33o⟩ := chk_some hx33o
      have hc41s := hc41
      try simp at hc41s
      obtain ⟨v42, hv42, hx33o⟩ := bind_some hx33o
      refine VW.wdr tau_ok (Sound.none.add 116 (s_l02Plus_ok hv42) rfl) try_mixed [some 92, some 93, some 94, some 95, some 96, some 97, some 98, some 99, some 100, some 101, some 102, some 103, some 104, some 105, some 106, some 107, some 108, some 109, some 110, some 111, some 112, some 113, some 114, some 115, some 116, some 117, none] [(0, .val (i64 a0)), (5, .ref 5 [] false (dM (s33.1.set s33.2.toNat v42))), (6, .val (i64 ((w64 (x21.2 * v30)).tmod a0))), (7, .val (i64 s3.2.2)), (10, .val (i64 v32)), (11, .val (i64 s33.2))] 26 rfl (by kernel_rfl) (by rfl) ?_ ?_
      · simp [hv38a, hv38b, hv38c, hv38d, hv39a, hv39b, hv39c, hv39d, hv40a, hv40b, hv40c, hv40d, hc41, hc41s] <;> simp [ieq, ilt, ile]
      refine hK37 _ ?_
      -- region 19
      refine VW.wr tau_ok Sound.none [some 90, some 91, some 11] [(0, .val (i64 a0)), (5, .ref 5 [] false (dM (s33.1.set s33.2.toNat v42))), (6, .val (i64 ((w64 (x21.2 * v30)).tmod a0))), (7, .val (i64 s3.2.2)), (10, .val (i64 v32)), (11, .val (i64 (w64 (s33.2 + 1))))] rfl ?_ ?_
      · simp <;> simp [ieq, ilt, ile]
      cases hx33o
      exact ⟨_, rfl, Fits.of rfl⟩
    refine VW.cond rfl (fun hb23 => ?_) (fun hb23 => ?_)
    rotate_left
    ·
      replace hb23 : ¬ (s3.2.2 < x10) := by simpa [ieq, ilt, ile] using hb23
      rw [if_neg hb23] at hx21
      refine VW.skip ?_
      cases hx21
      exact Fits.of rfl
    replace hb23 : s3.2.2 < x10 := by simpa [ieq, ilt, ile] using hb23
    rw [if_pos hb23] at hx21
    -- region 11
    obtain ⟨v24, hv24, hx21⟩ := bind_some hx21
    obtain ⟨hv24a, hv24b, hv24c, hv24d⟩ := idx_some hv24
    refine VW.ws tau_ok Sound.none [some 44, some 45, some 46, some 47, some 9] [(0, .val (i64 a0)), (5, .ref 5 [] false (dM s3.1)), (6, .val (i64 s3.2.1)), (7, .val (i64 s3.2.2)), (8, .val (i64 x10)), (9, .val (dI v24))] rfl ?_ ?_
    · simp [hv24a, hv24b, hv24c, hv24d] <;> simp [ieq, ilt, ile]
    -- region 12
    obtain ⟨v25, hv25, hx21⟩ := bind_some hx21
    obtain ⟨hv25a, hv25b, hv25c, hv25d⟩ := idx_some hv25
    refine VW.ws tau_ok Sound.none [some 48, some 49, some 50, some 51, some 52, some 53, some 54, none] [(0, .val (i64 a0)), (5, .ref 5 [] false (dM (s3.1.set x10.toNat v25))), (6, .val (i64 s3.2.1)), (7, .val (i64 s3.2.2)), (9, .val (dI v24))] rfl ?_ ?_
    · simp [hv25a, hv25b, hv25c, hv25d, hv24a, hv24b, hv24c, hv24d] <;> simp [ieq, ilt, ile]
    obtain ⟨l26, hl26, hx21⟩ := bind_some hx21
    rw [Option.some.inj hl26]
    -- region 13
    obtain ⟨v27, hv27, hx21⟩ := bind_some hx21
    obtain ⟨hv27a, hv27b, hv27c, hv27d⟩ := idx_some hv27
    refine VW.ws tau_ok Sound.none [some 55, some 56, some 57, some 58, none] [(0, .val (i64 a0)), (5, .ref 5 [] false (dM (l26.set s3.2.2.toNat v24))), (6, .val (i64 s3.2.1)), (7, .val (i64 s3.2.2))] rfl ?_ ?_
    · simp [hv27a, hv27b, hv27c, hv27d] <;> simp [ieq, ilt, ile]
    -- region 14
    obtain ⟨hc28, hx21⟩ := chk_some hx21
    have hc28s := hc28
    try simp at hc28s
    refine VW.wr tau_ok Sound.none [some 59, some 60, some 61, some 62, some 63, some 6] [(0, .val (i64 a0)), (5, .ref 5 [] false (dM (l26.set s3.2.2.toNat v24))), (6, .val (i64 ((w64 (a0 - s3.2.1)).tmod a0))), (7, .val (i64 s3.2.2))] rfl ?_ ?_
    · simp [hc28, hc28s] <;> simp [ieq, ilt, ile]
    cases hx21
    exact Fits.of rfl
  refine VW.block ?_
  refine VW.loopF (s_l02Det_L1 s3) (fun s10 => [(0, .val (i64 a0)), (5, .ref 5 [] false (dM s3.1)), (6, .val (i64 s3.2.1)), (7, .val (i64 s3.2.2)), (8, .val (i64 s10))]) hx10 (Fits.of rfl) ?_
  clear hx10
  intro s10 ox10 hx10o hx10b
  unfold s_l02Det_L1 at hx10o
  refine VW.sqc fun K12 hK12 hCK12 => ?_
  -- region 6
  obtain ⟨x16, hx16, hx10o⟩ := bind_some hx10o
  refine VW.cut [(0, .val (i64 a0)), (5, .ref 5 [] false (dM s3.1)), (6, .val (i64 s3.2.1)), (7, .val (i64 s3.2.2)), (8, .val (i64 s10)), (34, .val (.bool x16))] ?_ fun hy => ?_
  rotate_left
  · clear hx10o
    by_cases hp13 : s10 < (s3.1.length : Int)
    · rw [if_pos hp13] at hx16
      have hp13b : ilt s10 (s3.1.length : Int) = true := by simpa [ieq, ilt, ile] using hp13
      have hp13s := hp13b
      try simp at hp13s
      obtain ⟨v14, hv14, hx16⟩ := bind_some hx16
      obtain ⟨hv14a, hv14b, hv14c, hv14d⟩ := idx_some hv14
      obtain ⟨v15, hv15, hx16⟩ := bind_some hx16
      obtain ⟨hv15a, hv15b, hv15c, hv15d⟩ := idx_some hv15
      cases hx16
      refine VW.ws tau_ok Sound.none [some 21, some 22, some 23, some 24, some 25, some 26, some 27, some 28, some 29, some 30, some 31, some 32, some 33, some 34] _ rfl ?_ hy
      simp [hp13b, hp13s, hv14a, hv14b, hv14c, hv14d, hv15a, hv15b, hv15c, hv15d] <;> simp [ieq, ilt, ile]
    · rw [if_neg hp13] at hx16
      have hp13b : ilt s10 (s3.1.length : Int) = false := by simpa [ieq, ilt, ile] using hp13
      have hp13s := hp13b
      try simp at hp13s
      cases hx16
      refine VW.ws tau_ok Sound.none [some 21, some 22, some 23, some 24, some 25, some 26, some 27, some 28, some 29, some 30, some 31, some 32, some 33, some 34] _ rfl ?_ hy
      simp [hp13b, hp13s] <;> simp [ieq, ilt, ile]
  refine VW.cond rfl (fun hb17 => ?_) (fun hb17 => ?_)
  rotate_left
  ·
    replace hb17 : ¬ (x16 = true) := by simpa [ieq, ilt, ile] using hb17
    rw [if_neg hb17] at hx10o
    refine VW.exit ?_
    cases hx10o
    have hq := hx10b _ rfl
    subst hq
    exact Fits.of rfl
  replace hb17 : x16 = true := by simpa [ieq, ilt, ile] using hb17
  rw [if_pos hb17] at hx10o
  refine VW.skip ?_
  refine hK12 _ ?_
  refine VW.block ?_
  -- region 7
  refine VW.wr tau_ok Sound.none [some 35, some 36, some 8] [(0, .val (i64 a0)), (5, .ref 5 [] false (dM s3.1)), (6, .val (i64 s3.2.1)), (7, .val (i64 s3.2.2)), (8, .val (i64 (w64 (s10 + 1))))] rfl ?_ ?_
  · simp <;> simp [ieq, ilt, ile]
  cases hx10o
  exact ⟨_, rfl, Fits.of rfl⟩

theorem s_l02Unit_ok {a0 : Int} {r : List (List Int)} (h : s_l02Unit a0 = some r) :
    VCall Try.prog 183 [i64 a0] [.own true (dM r)] := by
  unfold s_l02Unit at h
  refine VCall.enter Try.call183 Try.func183 rfl 22 Try.ntmps183 (by simp) [.tmp 2] rfl ?_
  show VW _ _ _ (mk [(0, .val (i64 a0))]) _
  -- region 0
  refine VW.ws tau_ok Sound.none [some 2] [(0, .val (i64 a0))] rfl ?_ ?_
  · simp <;> simp [ieq, ilt, ile]
  -- region 1
  refine VW.ws tau_ok Sound.none [some 6, some 3] [(0, .val (i64 a0)), (3, .ref 3 [] true (dM []))] rfl ?_ ?_
  · simp <;> simp [ieq, ilt, ile]
  refine VW.sqc fun K1 hK1 hCK1 => ?_
  -- region 2
  refine VW.ws tau_ok Sound.none [some 4] [(0, .val (i64 a0)), (3, .ref 3 [] true (dM [])), (4, .val (i64 0))] rfl ?_ ?_
  · simp <;> simp [ieq, ilt, ile]
  obtain ⟨x2, hx2, h⟩ := bind_some h
  refine VW.tlE [(3, .ref 3 [] true (dM x2))] (hCK1) ?_ ?_
  · clear hx2
    refine hK1 _ ?_
    -- region 8
    refine VW.ws tau_ok Sound.none [some 21, some 2] [(2, .ref 2 [] true (dM x2))] rfl ?_ ?_
    · simp <;> simp [ieq, ilt, ile]
    cases h
    refine VW.ret ?_
    simp [Post, PostM, PostC, PostC2, Nx, Bk]
  refine VW.block ?_
  refine VW.loopF (s_l02Unit_L0 a0) (fun s2 => [(0, .val (i64 a0)), (3, .ref 3 [] true (dM s2.1)), (4, .val (i64 s2.2))]) hx2 (Fits.of rfl) ?_
  clear hx2
  intro s2 ox2 hx2o hx2b
  unfold s_l02Unit_L0 at hx2o
  refine VW.sqc fun K4 hK4 hCK4 => ?_
  -- region 3
  refine VW.ws tau_ok Sound.none [some 7, some 8, some 9] [(0, .val (i64 a0)), (3, .ref 3 [] true (dM s2.1)), (4, .val (i64 s2.2)), (9, .val (.bool (ilt s2.2 a0)))] rfl ?_ ?_
  · simp <;> simp [ieq, ilt, ile]
  refine VW.cond rfl (fun hb5 => ?_) (fun hb5 => ?_)
  rotate_left
  ·
    replace hb5 : ¬ (s2.2 < a0) := by simpa [ieq, ilt, ile] using hb5
    rw [if_neg hb5] at hx2o
    refine VW.exit ?_
    cases hx2o
    have hq := hx2b _ rfl
    subst hq
    exact Fits.of rfl
  replace hb5 : s2.2 < a0 := by simpa [ieq, ilt, ile] using hb5
  rw [if_pos hb5] at hx2o
  refine VW.skip ?_
  refine hK4 _ ?_
  refine VW.sqc fun K6 hK6 hCK6 => ?_
  refine VW.block ?_
  -- region 5
  obtain ⟨hc7, hx2o⟩ := chk_some hx2o
  have hc7s := hc7
  try simp at hc7s
  refine VW.ws tau_ok Sound.none [some 12, some 13, some 5] [(0, .val (i64 a0)), (3, .ref 3 [] true (dM s2.1)), (4, .val (i64 s2.2)), (5, .ref 5 [] true (dI (List.replicate a0.toNat 0)))] rfl ?_ ?_
  · simp [hc7, hc7s] <;> simp [ieq, ilt, ile]
  obtain ⟨l8, hl8, hx2o⟩ := bind_some hx2o
  rw [Option.some.inj hl8]
  -- region 6
  obtain ⟨v9, hv9, hx2o⟩ := bind_some hx2o
  obtain ⟨hv9a, hv9b, hv9c, hv9d⟩ := idx_some hv9
  refine VW.ws tau_ok Sound.none [some 14, some 15, some 16, none] [(0, .val (i64 a0)), (3, .ref 3 [] true (dM s2.1)), (4, .val (i64 s2.2)), (5, .ref 5 [] true (dI (l8.set s2.2.toNat 1)))] rfl ?_ ?_
  · simp [hv9a, hv9b, hv9c, hv9d] <;> simp [ieq, ilt, ile]
  -- region 7
  obtain ⟨hc10, hx2o⟩ := chk_some hx2o
  have hc10s := hc10
  try simp at hc10s
  refine VW.wr tau_ok Sound.none [some 17, some 18, some 19, some 20, some 3] [(0, .val (i64 a0)), (3, .ref 3 [] true (dM (s2.1 ++ [l8.set s2.2.toNat 1]))), (4, .val (i64 s2.2))] rfl ?_ ?_
  · simp [hc10, hc10s] <;> simp [ieq, ilt, ile]
  refine hK6 _ ?_
  -- region 4
  refine VW.wr tau_ok Sound.none [some 10, some 11, some 4] [(0, .val (i64 a0)), (3, .ref 3 [] true (dM (s2.1 ++ [l8.set s2.2.toNat 1]))), (4, .val (i64 (w64 (s2.2 + 1))))] rfl ?_ ?_
  · simp <;> simp [ieq, ilt, ile]
  cases hx2o
  exact ⟨_, rfl, Fits.of rfl⟩

theorem s_l02Basis_ok {a0 : Int} {a1 : List (List Int)} {r : List (List Int)} (h : s_l02Basis a0 a1 = some r) :
    VCall Try.prog 184 [i64 a0, dM a1] [.own false (dM r)] := by
  unfold s_l02Basis at h
  refine VCall.enter Try.call184 Try.func184 rfl 106 Try.ntmps184 (by simp) [.tmp 4] rfl ?_
  show VW _ _ _ (mk [(0, .val (i64 a0)), (1, .val (dM a1))]) _
  -- region 0
  refine VW.ws tau_ok Sound.none [some 4] [(0, .val (i64 a0)), (1, .val (dM a1))] rfl ?_ ?_
  · simp <;> simp [ieq, ilt, ile]
  -- region 1
  obtain ⟨v1, hv1, h⟩ := bind_some h
  refine VW.ws tau_ok (Sound.none.add 12 (s_l01Own2_ok hv1) rfl) [some 11, some 12, some 5] [(0, .val (i64 a0)), (5, .ref 5 [] true (dM v1))] rfl ?_ ?_
  · simp <;> simp [ieq, ilt, ile]
  -- region 2
  refine VW.ws tau_ok Sound.none [some 6] [(0, .val (i64 a0)), (5, .ref 5 [] true (dM v1)), (6, .val (i64 0))] rfl ?_ ?_
  · simp <;> simp [ieq, ilt, ile]
  refine VW.sqc fun K2 hK2 hCK2 => ?_
  -- region 3
  refine VW.ws tau_ok Sound.none [some 7] [(0, .val (i64 a0)), (5, .ref 5 [] true (dM v1)), (6, .val (i64 0)), (7, .val (i64 0))] rfl ?_ ?_
  · simp <;> simp [ieq, ilt, ile]
  obtain ⟨x3, hx3, h⟩ := bind_some h
  refine VW.tlE [(5, .ref 5 [] false (dM x3.1)), (6, .val (i64 x3.2))] (hCK2) ?_ ?_
  · clear hx3
    refine hK2 _ ?_
    -- region 20
    obtain ⟨hc43, h⟩ := chk_some h
    have hc43s := hc43
    try simp at hc43s
    refine VW.ws tau_ok Sound.none [some 103, some 104, some 105, some 4] [(4, .ref 4 [] false (dM (x3.1.take x3.2.toNat)))] rfl ?_ ?_
    · simp [hc43, hc43s] <;> simp [ieq, ilt, ile]
    cases h
    refine VW.ret ?_
    simp [Post, PostM, PostC, PostC2, Nx, Bk]
  refine VW.block ?_
  refine VW.loopF (s_l02Basis_L0 a0) (fun s3 => [(0, .val (i64 a0)), (5, .ref 5 [] false (dM s3.1)), (6, .val (i64 s3.2.1)), (7, .val (i64 s3.2.2))]) hx3 (Fits.weak (s := 5) rfl (by simp) (Fits.of rfl)) ?_
  clear hx3
  intro s3 ox3 hx3o hx3b
  unfold s_l02Basis_L0 at hx3o
  refine VW.sqc fun K5 hK5 hCK5 => ?_
  -- region 4
  obtain ⟨x8, hx8, hx3o⟩ := bind_some hx3o
  refine VW.cut [(0, .val (i64 a0)), (5, .ref 5 [] false (dM s3.1)), (6, .val (i64 s3.2.1)), (7, .val (i64 s3.2.2)), (23, .val (.bool x8))] ?_ fun hy => ?_
  rotate_left
  · clear hx3o
    by_cases hp6 : 0 < (s3.1.length : Int)
    · rw [if_pos hp6] at hx8
      have hp6b : ilt 0 (s3.1.length : Int) = true := by simpa [ieq, ilt, ile] using hp6
      have hp6s := hp6b
      try simp at hp6s
      obtain ⟨v7, hv7, hx8⟩ := bind_some hx8
      obtain ⟨hv7a, hv7b, hv7c, hv7d⟩ := idx_some hv7
      replace hv7b : 0 < s3.1.length := hv7b
      replace hv7c : s3.1[0]? = some v7 := hv7c
      replace hv7d : ∀ h, s3.1[0]'h = v7 := hv7d
      cases hx8
      refine VW.ws tau_ok Sound.none [some 13, some 14, some 15, some 16, some 17, some 18, some 19, some 20, some 21, some 22, some 23] _ rfl ?_ hy
      simp [hp6b, hp6s, hv7a, hv7b, hv7c, hv7d] <;> simp [ieq, ilt, ile]
    · rw [if_neg hp6] at hx8
      have hp6b : ilt 0 (s3.1.length : Int) = false := by simpa [ieq, ilt, ile] using hp6
      have hp6s := hp6b
      try simp at hp6s
      cases hx8
      refine VW.ws tau_ok Sound.none [some 13, some 14, some 15, some 16, some 17, some 18, some 19, some 20, some 21, some 22, some 23] _ rfl ?_ hy
      simp [hp6b, hp6s] <;> simp [ieq, ilt, ile]
  refine VW.cond rfl (fun hb9 => ?_) (fun hb9 => ?_)
  rotate_left
  ·
    replace hb9 : ¬ (x8 = true) := by simpa [ieq, ilt, ile] using hb9
    rw [if_neg hb9] at hx3o
    refine VW.exit ?_
    cases hx3o
    have hq := hx3b _ rfl
    subst hq
    exact Fits.of rfl
  replace hb9 : x8 = true := by simpa [ieq, ilt, ile] using hb9
  rw [if_pos hb9] at hx3o
  refine VW.skip ?_
  refine hK5 _ ?_
  refine VW.sqc fun K10 hK10 hCK10 => ?_
  obtain ⟨x11, hx11, hx3o⟩ := bind_some hx3o
  refine VW.tlE [(0, .val (i64 a0)), (5, .ref 5 [] false (dM x11.1)), (6, .val (i64 x11.2)), (7, .val (i64 s3.2.2))] (hCK10) ?_ ?_
  · clear hx11
    refine hK10 _ ?_
    -- region 5
    refine VW.wr tau_ok Sound.none [some 24, some 25, some 7] [(0, .val (i64 a0)), (5, .ref 5 [] false (dM x11.1)), (6, .val (i64 x11.2)), (7, .val (i64 (w64 (s3.2.2 + 1))))] rfl ?_ ?_
    · simp <;> simp [ieq, ilt, ile]
    cases hx3o
    exact ⟨_, rfl, Fits.of rfl⟩
  refine VW.block ?_
  -- region 6
  refine VW.ws tau_ok Sound.none [some 26, some 8] [(0, .val (i64 a0)), (5, .ref 5 [] false (dM s3.1)), (6, .val (i64 s3.2.1)), (7, .val (i64 s3.2.2)), (8, .val (i64 s3.2.1))] rfl ?_ ?_
  · simp <;> simp [ieq, ilt, ile]
  refine VW.sqc fun K13 hK13 hCK13 => ?_
  obtain ⟨x14, hx14, hx11⟩ := bind_some hx11
  refine VW.tlE [(0, .val (i64 a0)), (5, .ref 5 [] false (dM s3.1)), (6, .val (i64 s3.2.1)), (7, .val (i64 s3.2.2)), (8, .val (i64 x14))] (hCK13) ?_ ?_
  · clear hx14
    refine hK13 _ ?_
    refine VW.sqc fun K22 hK22 hCK22 => ?_
    -- region 9
    refine VW.ws tau_ok Sound.none [some 43, some 44, some 45, some 46] [(0, .val (i64 a0)), (5, .ref 5 [] false (dM s3.1)), (6, .val (i64 s3.2.1)), (7, .val (i64 s3.2.2)), (8, .val (i64 x14)), (46, .val (.bool (ieq x14 (s3.1.length : Int))))] rfl ?_ ?_
    · simp <;> simp [ieq, ilt, ile]
    refine VW.cond rfl (fun hb23 => ?_) (fun hb23 => ?_)
    ·
      replace hb23 : x14 = (s3.1.length : Int) := by simpa [ieq, ilt, ile] using hb23
      rw [if_pos hb23] at hx11
      refine VW.exit ?_
      cases hx11
      exact Fits.of rfl
    replace hb23 : ¬ (x14 = (s3.1.length : Int)) := by simpa [ieq, ilt, ile] using hb23
    rw [if_neg hb23] at hx11
    refine VW.skip ?_
    refine hK22 _ ?_
    -- region 10
    obtain ⟨v24, hv24, hx11⟩ := bind_some hx11
    obtain ⟨hv24a, hv24b, hv24c, hv24d⟩ := idx_some hv24
    refine VW.ws tau_ok Sound.none [some 47, some 48, some 49, some 50, some 9] [(0, .val (i64 a0)), (5, .ref 5 [] false (dM s3.1)), (6, .val (i64 s3.2.1)), (7, .val (i64 s3.2.2)), (8, .val (i64 x14)), (9, .val (dI v24))] rfl ?_ ?_
    · simp [hv24a, hv24b, hv24c, hv24d] <;> simp [ieq, ilt, ile]
    -- region 11
    obtain ⟨v25, hv25, hx11⟩ := bind_some hx11
    obtain ⟨hv25a, hv25b, hv25c, hv25d⟩ := idx_some hv25
    refine VW.ws tau_ok Sound.none [some 51, some 52, some 53, some 54, some 55, some 56, some 57, none] [(0, .val (i64 a0)), (5, .ref 5 [] false (dM (s3.1.set x14.toNat v25))), (6, .val (i64 s3.2.1)), (7, .val (i64 s3.2.2)), (9, .val (dI v24))] rfl ?_ ?_
    · simp [hv25a, hv25b, hv25c, hv25d, hv24a, hv24b, hv24c, hv24d] <;> simp [ieq, ilt, ile]
    -- region 12
    obtain ⟨v26, hv26, hx11⟩ := bind_some hx11
    obtain ⟨hv26a, hv26b, hv26c, hv26d⟩ := idx_some hv26
    obtain ⟨v27, hv27, hx11⟩ := bind_some hx11
    obtain ⟨v28, hv28, hx11⟩ := bind_some hx11
    refine VW.ws tau_ok ((Sound.none.add 65 (s_l01Inv_ok hv27) rfl).add 66 (s_l02Scale_ok hv28) rfl) [some 58, some 59, some 60, some 61, some 62, some 63, some 64, some 65, some 66, some 9] [(0, .val (i64 a0)), (5, .ref 5 [] false (dM (s3.1.set x14.toNat v25))), (6, .val (i64 s3.2.1)), (7, .val (i64 s3.2.2)), (9, .ref 9 [] true (dI v28))] rfl ?_ ?_
    · simp [hv26a, hv26b, hv26c, hv26d] <;> simp [ieq, ilt, ile]
    refine VW.fits (fl' := [(0, .val (i64 a0)), (5, .ref 5 [] false (dM (s3.1.set x14.toNat v25))), (6, .val (i64 s3.2.1)), (7, .val (i64 s3.2.2)), (9, .val (dI v28))]) (Fits.freeze (s := 9) rfl (by simp) (Fits.of rfl)) ?_
    obtain ⟨l29, hl29, hx11⟩ := bind_some hx11
    rw [Option.some.inj hl29]
    -- region 13
    obtain ⟨v30, hv30, hx11⟩ := bind_some hx11
    obtain ⟨hv30a, hv30b, hv30c, hv30d⟩ := idx_some hv30
    refine VW.ws tau_ok Sound.none [some 67, some 68, some 69, some 70, none] [(0, .val (i64 a0)), (5, .ref 5 [] false (dM (l29.set s3.2.1.toNat v28))), (6, .val (i64 s3.2.1)), (7, .val (i64 s3.2.2)), (9, .val (dI v28))] rfl ?_ ?_
    · simp [hv30a, hv30b, hv30c, hv30d] <;> simp [ieq, ilt, ile]
    refine VW.sqc fun K31 hK31 hCK31 => ?_
    -- region 14
    refine VW.ws tau_ok Sound.none [some 10] [(0, .val (i64 a0)), (5, .ref 5 [] false (dM (l29.set s3.2.1.toNat v28))), (6, .val (i64 s3.2.1)), (7, .val (i64 s3.2.2)), (9, .val (dI v28)), (10, .val (i64 0))] rfl ?_ ?_
    · simp <;> simp [ieq, ilt, ile]
    obtain ⟨x32, hx32, hx11⟩ := bind_some hx11
    refine VW.tlE [(0, .val (i64 a0)), (5, .ref 5 [] false (dM x32)), (6, .val (i64 s3.2.1)), (7, .val (i64 s3.2.2))] (hCK31) ?_ ?_
    · clear hx32
      refine hK31 _ ?_
      -- region 19
      refine VW.wr tau_ok Sound.none [some 101, some 102, some 6] [(0, .val (i64 a0)), (5, .ref 5 [] false (dM x32)), (6, .val (i64 (w64 (s3.2.1 + 1)))), (7, .val (i64 s3.2.2))] rfl ?_ ?_
      · simp <;> simp [ieq, ilt, ile]
      cases hx11
      exact Fits.of rfl
    refine VW.block ?_
    refine VW.loopF (s_l02Basis_L2 a0 s3 v28) (fun s32 => [(0, .val (i64 a0)), (5, .ref 5 [] false (dM s32.1)), (6, .val (i64 s3.2.1)), (7, .val (i64 s3.2.2)), (9, .val (dI v28)), (10, .val (i64 s32.2))]) hx32 (Fits.of rfl) ?_
    clear hx32
    intro s32 ox32 hx32o hx32b
    unfold s_l02Basis_L2 at hx32o
    refine VW.sqc fun K34 hK34 hCK34 => ?_
    -- region 15
    refine VW.ws tau_ok Sound.none [some 71, some 72, some 73, some 74] [(0, .val (i64 a0)), (5, .ref 5 [] false (dM s32.1)), (6, .val (i64 s3.2.1)), (7, .val (i64 s3.2.2)), (9, .val (dI v28)), (10, .val (i64 s32.2)), (74, .val (.bool (ilt s32.2 (s32.1.length : Int))))] rfl ?_ ?_
    · simp <;> simp [ieq, ilt, ile]
    refine VW.cond rfl (fun hb35 => ?_) (fun hb35 => ?_)
    rotate_left
    ·
      replace hb35 : ¬ (s32.2 < (s32.1.length : Int)) := by simpa [ieq, ilt, ile] using hb35
      rw [if_neg hb35] at hx32o
      refine VW.exit ?_
      cases hx32o
      have hq := hx32b _ rfl
      subst hq
      exact Fits.of rfl
    replace hb35 : s32.2 < (s32.1.length : Int) := by simpa [ieq, ilt, ile] using hb35
    rw [if_pos hb35] at hx32o
    refine VW.skip ?_
    refine hK34 _ ?_
    obtain ⟨x36, hx36, hx32o⟩ := bind_some hx32o
    refine VW.sqE [(0, .val (i64 a0)), (5, .ref 5 [] false (dM x36)), (6, .val (i64 s3.2.1)), (7, .val (i64 s3.2.2)), (9, .val (dI v28)), (10, .val (i64 s32.2))] ?_ ?_
    · clear hx36
      -- region 16
      refine VW.wr tau_ok Sound.none [some 75, some 76, some 10] [(0, .val (i64 a0)), (5, .ref 5 [] false (dM x36)), (6, .val (i64 s3.2.1)), (7, .val (i64 s3.2.2)), (9, .val (dI v28)), (10, .val (i64 (w64 (s32.2 + 1))))] rfl ?_ ?_
      · simp <;> simp [ieq, ilt, ile]
      cases hx32o
      exact ⟨_, rfl, Fits.of rfl⟩
    refine VW.block ?_
    -- region 17
    refine VW.ws tau_ok Sound.none [some 77, some 78, some 79] [(0, .val (i64 a0)), (5, .ref 5 [] false (dM s32.1)), (6, .val (i64 s3.2.1)), (7, .val (i64 s3.2.2)), (9, .val (dI v28)), (10, .val (i64 s32.2)), (79, .val (.bool (!(ieq s32.2 s3.2.1))))] rfl ?_ ?_
    · simp <;> simp [ieq, ilt, ile]
    refine VW.cond rfl (fun hb38 => ?_) (fun hb38 => ?_)
    rotate_left
    ·
      replace hb38 : ¬ (¬ s32.2 = s3.2.1) := by simpa [ieq, ilt, ile] using hb38
      rw [if_neg hb38] at hx36
      refine VW.skip ?_
      cases hx36
      exact Fits.of rfl
    replace hb38 : ¬ s32.2 = s3.2.1 := by simpa [ieq, ilt, ile] using hb38
    rw [if_pos hb38] at hx36
    -- region 18
    obtain ⟨v39, hv39, hx36⟩ := bind_some hx36
    obtain ⟨hv39a, hv39b, hv39c, hv39d⟩ := idx_some hv39
    obtain ⟨v40, hv40, hx36⟩ := bind_some hx36
    obtain ⟨hv40a, hv40b, hv40c, hv40d⟩ := idx_some hv40
    obtain ⟨hc41, hx36⟩ := chk_some hx36
    have hc41s := hc41
    try simp at hc41s
    obtain ⟨v42, hv42, hx36⟩ := bind_some hx36
    refine VW.wdr tau_ok (Sound.none.add 99 (s_l02Plus_ok hv42) rfl) try_mixed [some 80, some 81, some 82, some 83, some 84, some 85, some 86, some 87, some 88, some 89, some 90, some 91, some 92, some 93, some 94, some 95, some 96, some 97, some 98, some 99, some 100, none] [(0, .val (i64 a0)), (5, .ref 5 [] false (dM (s32.1.set s32.2.toNat v42))), (6, .val (i64 s3.2.1)), (7, .val (i64 s3.2.2)), (9, .val (dI v28)), (10, .val (i64 s32.2))] 21 rfl (by kernel_rfl) (by rfl) ?_ ?_
    · simp [hv39a, hv39b, hv39c, hv39d, hv40a, hv40b, hv40c, hv40d, hc41, hc41s] <;> simp [ieq, ilt, ile]
    cases hx36
    exact Fits.of rfl
  refine VW.block ?_
  refine VW.loopF (s_l02Basis_L1 s3) (fun s14 => [(0, .val (i64 a0)), (5, .ref 5 [] false (dM s3.1)), (6, .val (i64 s3.2.1)), (7, .val (i64 s3.2.2)), (8, .val (i64 s14))]) hx14 (Fits.of rfl) ?_
  clear hx14
  intro s14 ox14 hx14o hx14b
  unfold s_l02Basis_L1 at hx14o
  refine VW.sqc fun K16 hK16 hCK16 => ?_
  -- region 7
  obtain ⟨x20, hx20, hx14o⟩ := bind_some hx14o
  refine VW.cut [(0, .val (i64 a0)), (5, .ref 5 [] false (dM s3.1)), (6, .val (i64 s3.2.1)), (7, .val (i64 s3.2.2)), (8, .val (i64 s14)), (40, .val (.bool x20))] ?_ fun hy => ?_
  rotate_left
  · clear hx14o
    by_cases hp17 : s14 < (s3.1.length : Int)
    · rw [if_pos hp17] at hx20
      have hp17b : ilt s14 (s3.1.length : Int) = true := by simpa [ieq, ilt, ile] using hp17
      have hp17s := hp17b
      try simp at hp17s
      obtain ⟨v18, hv18, hx20⟩ := bind_some hx20
      obtain ⟨hv18a, hv18b, hv18c, hv18d⟩ := idx_some hv18
      obtain ⟨v19, hv19, hx20⟩ := bind_some hx20
      obtain ⟨hv19a, hv19b, hv19c, hv19d⟩ := idx_some hv19
      cases hx20
      refine VW.ws tau_ok Sound.none [some 27, some 28, some 29, some 30, some 31, some 32, some 33, some 34, some 35, some 36, some 37, some 38, some 39, some 40] _ rfl ?_ hy
      simp [hp17b, hp17s, hv18a, hv18b, hv18c, hv18d, hv19a, hv19b, hv19c, hv19d] <;> simp [ieq, ilt, ile]
    · rw [if_neg hp17] at hx20
      have hp17b : ilt s14 (s3.1.length : Int) = false := by simpa [ieq, ilt, ile] using hp17
      have hp17s := hp17b
      try simp at hp17s
      cases hx20
      refine VW.ws tau_ok Sound.none [some 27, some 28, some 29, some 30, some 31, some 32, some 33, some 34, some 35, some 36, some 37, some 38, some 39, some 40] _ rfl ?_ hy
      simp [hp17b, hp17s] <;> simp [ieq, ilt, ile]
  refine VW.cond rfl (fun hb21 => ?_) (fun hb21 => ?_)
  rotate_left
  ·
    replace hb21 : ¬ (x20 = true) := by simpa [ieq, ilt, ile] using hb21
    rw [if_neg hb21] at hx14o
    refine VW.exit ?_
    cases hx14o
    have hq := hx14b _ rfl
    subst hq
    exact Fits.of rfl
  replace hb21 : x20 = true := by simpa [ieq, ilt, ile] using hb21
  rw [if_pos hb21] at hx14o
  refine VW.skip ?_
  refine hK16 _ ?_
  refine VW.block ?_
  -- region 8
  refine VW.wr tau_ok Sound.none [some 41, some 42, some 8] [(0, .val (i64 a0)), (5, .ref 5 [] false (dM s3.1)), (6, .val (i64 s3.2.1)), (7, .val (i64 s3.2.2)), (8, .val (i64 (w64 (s14 + 1))))] rfl ?_ ?_
  · simp <;> simp [ieq, ilt, ile]
  cases hx14o
  exact ⟨_, rfl, Fits.of rfl⟩

theorem s_l02Inverse_ok {a0 : Int} {a1 : List (List Int)} {r : List (List Int)} (h : s_l02Inverse a0 a1 = some r) :
    VCall Try.prog 94 [i64 a0, dM a1] [.own true (dM r)] := by
  unfold s_l02Inverse at h
  refine VCall.enter Try.call94 Try.func94 rfl 55 Try.ntmps94 (by simp) [.tmp 4] rfl ?_
  show VW _ _ _ (mk [(0, .val (i64 a0)), (1, .val (dM a1))]) _
  -- region 0
  refine VW.ws tau_ok Sound.none [some 4] [(0, .val (i64 a0)), (1, .val (dM a1))] rfl ?_ ?_
  · simp <;> simp [ieq, ilt, ile]
  -- region 1
  obtain ⟨v1, hv1, h⟩ := bind_some h
  refine VW.ws tau_ok (Sound.none.add 13 (s_l02Unit_ok hv1) rfl) [some 10, some 11, some 12, some 13, some 5, some 6] [(0, .val (i64 a0)), (1, .val (dM a1)), (5, .ref 5 [] true (dM [])), (6, .ref 6 [] true (dM v1))] rfl ?_ ?_
  · simp <;> simp [ieq, ilt, ile]
  refine VW.sqc fun K2 hK2 hCK2 => ?_
  -- region 2
  refine VW.ws tau_ok Sound.none [some 7] [(0, .val (i64 a0)), (1, .val (dM a1)), (5, .ref 5 [] true (dM [])), (6, .ref 6 [] true (dM v1)), (7, .val (i64 0))] rfl ?_ ?_
  · simp <;> simp [ieq, ilt, ile]
  obtain ⟨x3, hx3, h⟩ := bind_some h
  refine VW.tlE [(0, .val (i64 a0)), (1, .val (dM a1)), (5, .ref 5 [] true (dM x3))] (hCK2) ?_ ?_
  · clear hx3
    refine hK2 _ ?_
    -- region 6
    obtain ⟨v13, hv13, h⟩ := bind_some h
    refine VW.ws tau_ok (Sound.none.add 35 (s_l02Basis_ok hv13) rfl) [some 33, some 34, some 35, some 5] [(1, .val (dM a1)), (5, .ref 5 [] false (dM v13))] rfl ?_ ?_
    · simp <;> simp [ieq, ilt, ile]
    -- region 7
    refine VW.ws tau_ok Sound.none [some 36, some 8] [(1, .val (dM a1)), (5, .ref 5 [] false (dM v13)), (8, .ref 8 [] true (dM []))] rfl ?_ ?_
    · simp <;> simp [ieq, ilt, ile]
    refine VW.sqc fun K14 hK14 hCK14 => ?_
    -- region 8
    refine VW.ws tau_ok Sound.none [some 9] [(1, .val (dM a1)), (5, .ref 5 [] false (dM v13)), (8, .ref 8 [] true (dM [])), (9, .val (i64 0))] rfl ?_ ?_
    · simp <;> simp [ieq, ilt, ile]
    obtain ⟨x15, hx15, h⟩ := bind_some h
    refine VW.tlE [(8, .ref 8 [] true (dM x15))] (hCK14) ?_ ?_
    · clear hx15
      refine hK14 _ ?_
      -- region 12
      refine VW.ws tau_ok Sound.none [some 54, some 4] [(4, .ref 4 [] true (dM x15))] rfl ?_ ?_
      · simp <;> simp [ieq, ilt, ile]
      cases h
      refine VW.ret ?_
      simp [Post, PostM, PostC, PostC2, Nx, Bk]
    refine VW.block ?_
    refine VW.loopF (s_l02Inverse_L1 a1 v13) (fun s15 => [(1, .val (dM a1)), (5, .ref 5 [] false (dM v13)), (8, .ref 8 [] true (dM s15.1)), (9, .val (i64 s15.2))]) hx15 (Fits.of rfl) ?_
    clear hx15
    intro s15 ox15 hx15o hx15b
    unfold s_l02Inverse_L1 at hx15o
    refine VW.sqc fun K17 hK17 hCK17 => ?_
    -- region 9
    refine VW.ws tau_ok Sound.none [some 37, some 38, some 39, some 40] [(1, .val (dM a1)), (5, .ref 5 [] false (dM v13)), (8, .ref 8 [] true (dM s15.1)), (9, .val (i64 s15.2)), (40, .val (.bool (ilt s15.2 (v13.length : Int))))] rfl ?_ ?_
    · simp <;> simp [ieq, ilt, ile]
    refine VW.cond rfl (fun hb18 => ?_) (fun hb18 => ?_)
    rotate_left
    ·
      replace hb18 : ¬ (s15.2 < (v13.length : Int)) := by simpa [ieq, ilt, ile] using hb18
      rw [if_neg hb18] at hx15o
      refine VW.exit ?_
      cases hx15o
      have hq := hx15b _ rfl
      subst hq
      exact Fits.of rfl
    replace hb18 : s15.2 < (v13.length : Int) := by simpa [ieq, ilt, ile] using hb18
    rw [if_pos hb18] at hx15o
    refine VW.skip ?_
    refine hK17 _ ?_
    refine VW.sqc fun K19 hK19 hCK19 => ?_
    refine VW.block ?_
    -- region 11
    obtain ⟨v20, hv20, hx15o⟩ := bind_some hx15o
    obtain ⟨hv20a, hv20b, hv20c, hv20d⟩ := idx_some hv20
    obtain ⟨hc21, hx15o⟩ := chk_some hx15o
    have hc21s := hc21
    try simp at hc21s
    obtain ⟨v22, hv22, hx15o⟩ := bind_some hx15o
    obtain ⟨hc23, hx15o⟩ := chk_some hx15o
    have hc23s := hc23
    try simp at hc23s
    refine VW.wr tau_ok (Sound.none.add 51 (s_l01Own_ok hv22) rfl) [some 43, some 44, some 45, some 46, some 47, some 48, some 49, some 50, some 51, some 52, some 53, some 8] [(1, .val (dM a1)), (5, .ref 5 [] false (dM v13)), (8, .ref 8 [] true (dM (s15.1 ++ [v22]))), (9, .val (i64 s15.2))] rfl ?_ ?_
    · simp [hv20a, hv20b, hv20c, hv20d, hc21, hc21s, hc23, hc23s] <;> simp [ieq, ilt, ile]
    refine hK19 _ ?_
    -- region 10
    refine VW.wr tau_ok Sound.none [some 41, some 42, some 9] [(1, .val (dM a1)), (5, .ref 5 [] false (dM v13)), (8, .ref 8 [] true (dM (s15.1 ++ [v22]))), (9, .val (i64 (w64 (s15.2 + 1))))] rfl ?_ ?_
    · simp <;> simp [ieq, ilt, ile]
    cases hx15o
    exact ⟨_, rfl, Fits.of rfl⟩
  refine VW.block ?_
  refine VW.loopF (s_l02Inverse_L0 a1 v1) (fun s3 => [(0, .val (i64 a0)), (1, .val (dM a1)), (5, .ref 5 [] true (dM s3.1)), (6, .ref 6 [] true (dM v1)), (7, .val (i64 s3.2))]) hx3 (Fits.of rfl) ?_
  clear hx3
  intro s3 ox3 hx3o hx3b
  unfold s_l02Inverse_L0 at hx3o
  refine VW.sqc fun K5 hK5 hCK5 => ?_
  -- region 3
  refine VW.ws tau_ok Sound.none [some 14, some 15, some 16, some 17] [(0, .val (i64 a0)), (1, .val (dM a1)), (5, .ref 5 [] true (dM s3.1)), (6, .ref 6 [] true (dM v1)), (7, .val (i64 s3.2)), (17, .val (.bool (ilt s3.2 (a1.length : Int))))] rfl ?_ ?_
  · simp <;> simp [ieq, ilt, ile]
  refine VW.cond rfl (fun hb6 => ?_) (fun hb6 => ?_)
  rotate_left
  ·
    replace hb6 : ¬ (s3.2 < (a1.length : Int)) := by simpa [ieq, ilt, ile] using hb6
    rw [if_neg hb6] at hx3o
    refine VW.exit ?_
    cases hx3o
    have hq := hx3b _ rfl
    subst hq
    exact Fits.of rfl
  replace hb6 : s3.2 < (a1.length : Int) := by simpa [ieq, ilt, ile] using hb6
  rw [if_pos hb6] at hx3o
  refine VW.skip ?_
  refine hK5 _ ?_
  refine VW.sqc fun K7 hK7 hCK7 => ?_
  refine VW.block ?_
  -- region 5
  obtain ⟨v8, hv8, hx3o⟩ := bind_some hx3o
  obtain ⟨hv8a, hv8b, hv8c, hv8d⟩ := idx_some hv8
  obtain ⟨v9, hv9, hx3o⟩ := bind_some hx3o
  obtain ⟨v10, hv10, hx3o⟩ := bind_some hx3o
  obtain ⟨hv10a, hv10b, hv10c, hv10d⟩ := idx_some hv10
  obtain ⟨hc11, hx3o⟩ := chk_some hx3o
  have hc11s := hc11
  try simp at hc11s
  obtain ⟨hc12, hx3o⟩ := chk_some hx3o
  have hc12s := hc12
  try simp at hc12s
  refine VW.wdr tau_ok (Sound.none.add 25 (s_l01Own_ok hv9) rfl) try_mixed [some 20, some 21, some 22, some 23, some 24, some 25, some 26, some 27, some 28, some 29, some 30, some 31, some 32, some 5] [(0, .val (i64 a0)), (1, .val (dM a1)), (5, .ref 5 [] true (dM (s3.1 ++ [v9 ++ v10]))), (6, .ref 6 [] true (dM v1)), (7, .val (i64 s3.2))] 10 rfl (by kernel_rfl) (by rfl) ?_ ?_
  · simp [hv8a, hv8b, hv8c, hv8d, hv10a, hv10b, hv10c, hv10d, hc11, hc11s, hc12, hc12s] <;> simp [ieq, ilt, ile]
  refine hK7 _ ?_
  -- region 4
  refine VW.wr tau_ok Sound.none [some 18, some 19, some 7] [(0, .val (i64 a0)), (1, .val (dM a1)), (5, .ref 5 [] true (dM (s3.1 ++ [v9 ++ v10]))), (6, .ref 6 [] true (dM v1)), (7, .val (i64 (w64 (s3.2 + 1))))] rfl ?_ ?_
  · simp <;> simp [ieq, ilt, ile]
  cases hx3o
  exact ⟨_, rfl, Fits.of rfl⟩

theorem s_InverseMatrix_ok {a0 : Int} {a1 : List (List Int)} {r : (List (List Int)) × Int} (h : s_InverseMatrix a0 a1 = some r) :
    VCall Try.prog 18 [i64 a0, dM a1] [.own true (dM r.1), .sc (i64 r.2)] := by
  unfold s_InverseMatrix at h
  refine VCall.enter Try.call18 Try.func18 rfl 24 Try.ntmps18 (by simp) [.tmp 4, .tmp 5] rfl ?_
  show VW _ _ _ (mk [(0, .val (i64 a0)), (1, .val (dM a1))]) _
  -- region 0
  refine VW.ws tau_ok Sound.none [some 4, some 5] [(0, .val (i64 a0)), (1, .val (dM a1))] rfl ?_ ?_
  · simp <;> simp [ieq, ilt, ile]
  -- region 1
  obtain ⟨v1, hv1, h⟩ := bind_some h
  refine VW.ws tau_ok (Sound.none.add 9 (s_l02Square_ok hv1) rfl) [some 7, some 8, some 9, some 6] [(0, .val (i64 a0)), (1, .val (dM a1)), (6, .val (i64 v1))] rfl ?_ ?_
  · simp <;> simp [ieq, ilt, ile]
  refine VW.sqc fun K2 hK2 hCK2 => ?_
  -- region 2
  obtain ⟨x5, hx5, h⟩ := bind_some h
  refine VW.cut [(0, .val (i64 a0)), (1, .val (dM a1)), (6, .val (i64 v1)), (17, .val (.bool x5))] ?_ fun hy => ?_
  rotate_left
  · clear h
    by_cases hp3 : v1 = 0
    · rw [if_pos hp3] at hx5
      have hp3b : ieq v1 0 = true := by simpa [ieq, ilt, ile] using hp3
      have hp3s := hp3b
      try simp at hp3s
      obtain ⟨v4, hv4, hx5⟩ := bind_some hx5
      cases hx5
      refine VW.ws tau_ok (Sound.none.add 15 (s_l02Det_ok hv4) rfl) [some 10, some 11, some 12, some 13, some 14, some 15, some 16, some 17] _ rfl ?_ hy
      simp [hp3b, hp3s] <;> simp [ieq, ilt, ile]
    · rw [if_neg hp3] at hx5
      have hp3b : ieq v1 0 = false := by simpa [ieq, ilt, ile] using hp3
      have hp3s := hp3b
      try simp at hp3s
      cases hx5
      refine VW.ws tau_ok Sound.none [some 10, some 11, some 12, some 13, some 14, some 15, some 16, some 17] _ rfl ?_ hy
      simp [hp3b, hp3s] <;> simp [ieq, ilt, ile]
  obtain ⟨x6, hx6, h⟩ := bind_some h
  refine VW.tlE [(0, .val (i64 a0)), (1, .val (dM a1)), (6, .val (i64 x6))] (hCK2) ?_ ?_
  · clear hx6
    refine hK2 _ ?_
    refine VW.sqc fun K9 hK9 hCK9 => ?_
    -- region 4
    refine VW.ws tau_ok Sound.none [some 18, some 19] [(0, .val (i64 a0)), (1, .val (dM a1)), (6, .val (i64 x6)), (19, .val (.bool (!(ieq x6 0))))] rfl ?_ ?_
    · simp <;> simp [ieq, ilt, ile]
    refine VW.cond rfl (fun hb10 => ?_) (fun hb10 => ?_)
    ·
      replace hb10 : ¬ x6 = 0 := by simpa [ieq, ilt, ile] using hb10
      rw [if_pos hb10] at h
      -- region 5
      refine VW.ws tau_ok Sound.none [some 20, some 4, some 5] [(4, .ref 4 [] true (.list [])), (5, .val (i64 x6))] rfl ?_ ?_
      · simp <;> simp [ieq, ilt, ile]
      cases h
      refine VW.ret ?_
      simp [Post, PostM, PostC, PostC2, Nx, Bk]
    replace hb10 : ¬ (¬ x6 = 0) := by simpa [ieq, ilt, ile] using hb10
    rw [if_neg hb10] at h
    refine VW.skip ?_
    refine hK9 _ ?_
    -- region 6
    obtain ⟨v11, hv11, h⟩ := bind_some h
    refine VW.ws tau_ok (Sound.none.add 23 (s_l02Inverse_ok hv11) rfl) [some 21, some 22, some 23, some 4, some 5] [(4, .ref 4 [] true (dM v11)), (5, .val (i64 0))] rfl ?_ ?_
    · simp <;> simp [ieq, ilt, ile]
    cases h
    refine VW.ret ?_
    simp [Post, PostM, PostC, PostC2, Nx, Bk]
  refine VW.cond rfl (fun hb8 => ?_) (fun hb8 => ?_)
  rotate_left
  ·
    replace hb8 : ¬ (x5 = true) := by simpa [ieq, ilt, ile] using hb8
    rw [if_neg hb8] at hx6
    refine VW.skip ?_
    cases hx6
    exact Fits.of rfl
  replace hb8 : x5 = true := by simpa [ieq, ilt, ile] using hb8
  rw [if_pos hb8] at hx6
  -- region 3
  refine VW.wr tau_ok Sound.none [some 6] [(0, .val (i64 a0)), (1, .val (dM a1)), (6, .val (i64 5))] rfl ?_ ?_
  · simp <;> simp [ieq, ilt, ile]
  cases hx6
  exact Fits.of rfl

theorem l_likeInts_ok {a0 : List Int} {a1 : List Int} {r : Bool} (h : l_likeInts a0 a1 = some r) :
    VCall Try.prog 59 [dI a0, dI a1] [.sc (.bool r)] := by
  unfold l_likeInts at h
  refine VCall.enter Try.call59 Try.func59 rfl 26 Try.ntmps59 (by simp) [.tmp 4] rfl ?_
  show VW _ _ _ (mk [(0, .val (dI a0)), (1, .val (dI a1))]) _
  -- region 0
  refine VW.ws tau_ok Sound.none [some 4] [(0, .val (dI a0)), (1, .val (dI a1))] rfl ?_ ?_
  · simp <;> simp [ieq, ilt, ile]
  refine VW.sqc fun K1 hK1 hCK1 => ?_
  -- region 1
  refine VW.ws tau_ok Sound.none [some 6, some 7, some 8, some 9, some 10] [(0, .val (dI a0)), (1, .val (dI a1)), (10, .val (.bool (!(ieq (a0.length : Int) (a1.length : Int)))))] rfl ?_ ?_
  · simp <;> simp [ieq, ilt, ile]
  refine VW.cond rfl (fun hb2 => ?_) (fun hb2 => ?_)
  ·
    replace hb2 : ¬ (a0.length : Int) = (a1.length : Int) := by simpa [ieq, ilt, ile] using hb2
    rw [if_pos hb2] at h
    -- region 2
    refine VW.ws tau_ok Sound.none [some 4] [(4, .val (.bool false))] rfl ?_ ?_
    · simp <;> simp [ieq, ilt, ile]
    cases h
    refine VW.ret ?_
    simp [Post, PostM, PostC, PostC2, Nx, Bk]
  replace hb2 : ¬ (¬ (a0.length : Int) = (a1.length : Int)) := by simpa [ieq, ilt, ile] using hb2
  rw [if_neg hb2] at h
  refine VW.skip ?_
  refine hK1 _ ?_
  refine VW.sqc fun K3 hK3 hCK3 => ?_
  -- region 3
  refine VW.ws tau_ok Sound.none [some 5] [(0, .val (dI a0)), (1, .val (dI a1)), (5, .val (i64 0))] rfl ?_ ?_
  · simp <;> simp [ieq, ilt, ile]
  obtain ⟨x4, hx4, h⟩ := bind_some h
  refine VW.tlO (fun y6 => []) x4 (hCK3) ?_ ?_
  · clear hx4
    rintro y6 rfl
    dsimp only at h
    refine hK3 _ ?_
    -- region 8
    refine VW.ws tau_ok Sound.none [some 4] [(4, .val (.bool true))] rfl ?_ ?_
    · simp <;> simp [ieq, ilt, ile]
    cases h
    refine VW.ret ?_
    simp [Post, PostM, PostC, PostC2, Nx, Bk]
  refine VW.block ?_
  refine VW.loopF (l_likeInts_L0 a0 a1) (fun s4 => [(0, .val (dI a0)), (1, .val (dI a1)), (5, .val (i64 s4))]) hx4 (Fits.of rfl) ?_
  clear hx4
  intro s4 ox4 hx4o hx4b
  unfold l_likeInts_L0 at hx4o
  refine VW.sqc fun K7 hK7 hCK7 => ?_
  -- region 4
  refine VW.ws tau_ok Sound.none [some 11, some 12, some 13, some 14] [(0, .val (dI a0)), (1, .val (dI a1)), (5, .val (i64 s4)), (14, .val (.bool (ilt s4 (a0.length : Int))))] rfl ?_ ?_
  · simp <;> simp [ieq, ilt, ile]
  refine VW.cond rfl (fun hb8 => ?_) (fun hb8 => ?_)
  rotate_left
  ·
    replace hb8 : ¬ (s4 < (a0.length : Int)) := by simpa [ieq, ilt, ile] using hb8
    rw [if_neg hb8] at hx4o
    refine VW.exit ?_
    cases hx4o
    have hq := hx4b _ rfl
    subst hq
    exact ⟨_, rfl, Fits.of rfl⟩
  replace hb8 : s4 < (a0.length : Int) := by simpa [ieq, ilt, ile] using hb8
  rw [if_pos hb8] at hx4o
  refine VW.skip ?_
  refine hK7 _ ?_
  refine VW.sqc fun K9 hK9 hCK9 => ?_
  refine VW.block ?_
  -- region 6
  obtain ⟨v10, hv10, hx4o⟩ := bind_some hx4o
  obtain ⟨hv10a, hv10b, hv10c, hv10d⟩ := idx_some hv10
  obtain ⟨v11, hv11, hx4o⟩ := bind_some hx4o
  obtain ⟨hv11a, hv11b, hv11c, hv11d⟩ := idx_some hv11
  refine VW.wds tau_ok Sound.none try_mixed [some 17, some 18, some 19, some 20, some 21, some 22, some 23, some 24, some 25] [(0, .val (dI a0)), (1, .val (dI a1)), (5, .val (i64 s4)), (25, .val (.bool (!(ieq v10 v11))))] 9 rfl (by kernel_rfl) (by rfl) ?_ ?_
  · simp [hv10a, hv10b, hv10c, hv10d, hv11a, hv11b, hv11c, hv11d] <;> simp [ieq, ilt, ile]
  refine VW.cond rfl (fun hb12 => ?_) (fun hb12 => ?_)
  rotate_left
  ·
    replace hb12 : ¬ (¬ v10 = v11) := by simpa [ieq, ilt, ile] using hb12
    rw [if_neg hb12] at hx4o
    refine VW.skip ?_
    refine hK9 _ ?_
    -- region 5
    refine VW.wr tau_ok Sound.none [some 15, some 16, some 5] [(0, .val (dI a0)), (1, .val (dI a1)), (5, .val (i64 (w64 (s4 + 1))))] rfl ?_ ?_
    · simp <;> simp [ieq, ilt, ile]
    cases hx4o
    exact ⟨_, rfl, Fits.of rfl⟩
  replace hb12 : ¬ v10 = v11 := by simpa [ieq, ilt, ile] using hb12
  rw [if_pos hb12] at hx4o
  -- region 7
  refine VW.ws tau_ok Sound.none [some 4] [(4, .val (.bool false))] rfl ?_ ?_
  · simp <;> simp [ieq, ilt, ile]
  cases hx4o
  have hq := hx4b _ rfl
  subst hq
  dsimp only at h
  cases h
  refine VW.ret ?_
  simp [Post, PostM, PostC, PostC2, Nx, Bk]

theorem l_likeRows5_ok {a0 : List (List Int)} {a1 : List (List Int)} {r : Bool} (h : l_likeRows5 a0 a1 = some r) :
    VCall Try.prog 19 [dM a0, dM a1] [.sc (.bool r)] := by
  unfold l_likeRows5 at h
  refine VCall.enter Try.call19 Try.func19 rfl 27 Try.ntmps19 (by simp) [.tmp 4] rfl ?_
  show VW _ _ _ (mk [(0, .val (dM a0)), (1, .val (dM a1))]) _
  -- region 0
  refine VW.ws tau_ok Sound.none [some 4] [(0, .val (dM a0)), (1, .val (dM a1))] rfl ?_ ?_
  · simp <;> simp [ieq, ilt, ile]
  refine VW.sqc fun K1 hK1 hCK1 => ?_
  -- region 1
  refine VW.ws tau_ok Sound.none [some 6, some 7, some 8, some 9, some 10] [(0, .val (dM a0)), (1, .val (dM a1)), (10, .val (.bool (!(ieq (a0.length : Int) (a1.length : Int)))))] rfl ?_ ?_
  · simp <;> simp [ieq, ilt, ile]
  refine VW.cond rfl (fun hb2 => ?_) (fun hb2 => ?_)
  ·
    replace hb2 : ¬ (a0.length : Int) = (a1.length : Int) := by simpa [ieq, ilt, ile] using hb2
    rw [if_pos hb2] at h
    -- region 2
    refine VW.ws tau_ok Sound.none [some 4] [(4, .val (.bool false))] rfl ?_ ?_
    · simp <;> simp [ieq, ilt, ile]
    cases h
    refine VW.ret ?_
    simp [Post, PostM, PostC, PostC2, Nx, Bk]
  replace hb2 : ¬ (¬ (a0.length : Int) = (a1.length : Int)) := by simpa [ieq, ilt, ile] using hb2
  rw [if_neg hb2] at h
  refine VW.skip ?_
  refine hK1 _ ?_
  refine VW.sqc fun K3 hK3 hCK3 => ?_
  -- region 3
  refine VW.ws tau_ok Sound.none [some 5] [(0, .val (dM a0)), (1, .val (dM a1)), (5, .val (i64 0))] rfl ?_ ?_
  · simp <;> simp [ieq, ilt, ile]
  obtain ⟨x4, hx4, h⟩ := bind_some h
  refine VW.tlO (fun y6 => []) x4 (hCK3) ?_ ?_
  · clear hx4
    rintro y6 rfl
    dsimp only at h
    refine hK3 _ ?_
    -- region 8
    refine VW.ws tau_ok Sound.none [some 4] [(4, .val (.bool true))] rfl ?_ ?_
    · simp <;> simp [ieq, ilt, ile]
    cases h
    refine VW.ret ?_
    simp [Post, PostM, PostC, PostC2, Nx, Bk]
  refine VW.block ?_
  refine VW.loopF (l_likeRows5_L0 a0 a1) (fun s4 => [(0, .val (dM a0)), (1, .val (dM a1)), (5, .val (i64 s4))]) hx4 (Fits.of rfl) ?_
  clear hx4
  intro s4 ox4 hx4o hx4b
  unfold l_likeRows5_L0 at hx4o
  refine VW.sqc fun K7 hK7 hCK7 => ?_
  -- region 4
  refine VW.ws tau_ok Sound.none [some 11, some 12, some 13, some 14] [(0, .val (dM a0)), (1, .val (dM a1)), (5, .val (i64 s4)), (14, .val (.bool (ilt s4 (a0.length : Int))))] rfl ?_ ?_
  · simp <;> simp [ieq, ilt, ile]
  refine VW.cond rfl (fun hb8 => ?_) (fun hb8 => ?_)
  rotate_left
  ·
    replace hb8 : ¬ (s4 < (a0.length : Int)) := by simpa [ieq, ilt, ile] using hb8
    rw [if_neg hb8] at hx4o
    refine VW.exit ?_
    cases hx4o
    have hq := hx4b _ rfl
    subst hq
    exact ⟨_, rfl, Fits.of rfl⟩
  replace hb8 : s4 < (a0.length : Int) := by simpa [ieq, ilt, ile] using hb8
  rw [if_pos hb8] at hx4o
  refine VW.skip ?_
  refine hK7 _ ?_
  refine VW.sqc fun K9 hK9 hCK9 => ?_
  refine VW.block ?_
  -- region 6
  obtain ⟨v10, hv10, hx4o⟩ := bind_some hx4o
  obtain ⟨hv10a, hv10b, hv10c, hv10d⟩ := idx_some hv10
  obtain ⟨v11, hv11, hx4o⟩ := bind_some hx4o
  obtain ⟨hv11a, hv11b, hv11c, hv11d⟩ := idx_some hv11
  obtain ⟨v12, hv12, hx4o⟩ := bind_some hx4o
  refine VW.wds tau_ok (Sound.none.add 25 (l_likeInts_ok hv12) rfl) try_mixed [some 17, some 18, some 19, some 20, some 21, some 22, some 23, some 24, some 25, some 26] [(0, .val (dM a0)), (1, .val (dM a1)), (5, .val (i64 s4)), (26, .val (.bool (!v12)))] 10 rfl (by kernel_rfl) (by rfl) ?_ ?_
  · simp [hv10a, hv10b, hv10c, hv10d, hv11a, hv11b, hv11c, hv11d] <;> simp [ieq, ilt, ile]
  refine VW.cond rfl (fun hb13 => ?_) (fun hb13 => ?_)
  rotate_left
  ·
    replace hb13 : ¬ (v12 = false) := by simpa [ieq, ilt, ile] using hb13
    rw [if_neg hb13] at hx4o
    refine VW.skip ?_
    refine hK9 _ ?_
    -- region 5
    refine VW.wr tau_ok Sound.none [some 15, some 16, some 5] [(0, .val (dM a0)), (1, .val (dM a1)), (5, .val (i64 (w64 (s4 + 1))))] rfl ?_ ?_
    · simp <;> simp [ieq, ilt, ile]
    cases hx4o
    exact ⟨_, rfl, Fits.of rfl⟩
  replace hb13 : v12 = false := by simpa [ieq, ilt, ile] using hb13
  rw [if_pos hb13] at hx4o
  -- region 7
  refine VW.ws tau_ok Sound.none [some 4] [(4, .val (.bool false))] rfl ?_ ?_
  · simp <;> simp [ieq, ilt, ile]
  cases hx4o
  have hq := hx4b _ rfl
  subst hq
  dsimp only at h
  cases h
  refine VW.ret ?_
  simp [Post, PostM, PostC, PostC2, Nx, Bk]

theorem i_field_determinant_ok {a0 : Int} {a1 : List (List Int)} {r : Int} (h : i_field_determinant a0 a1 = some r) :
    VCall Try.prog 95 [i64 a0, dM a1] [.sc (i64 r)] := by
  unfold i_field_determinant at h
  refine VCall.enter Try.call95 Try.func95 rfl 111 Try.ntmps95 (by simp) [.tmp 4] rfl ?_
  show VW _ _ _ (mk [(0, .val (i64 a0)), (1, .val (dM a1))]) _
  -- region 0
  refine VW.ws tau_ok Sound.none [some 4] [(0, .val (i64 a0)), (1, .val (dM a1))] rfl ?_ ?_
  · simp <;> simp [ieq, ilt, ile]
  -- region 1
  obtain ⟨v1, hv1, h⟩ := bind_some h
  refine VW.ws tau_ok (Sound.none.add 11 (i_cloneRows_ok hv1) rfl) [some 10, some 11, some 5, some 6] [(0, .val (i64 a0)), (5, .ref 5 [] true (dM v1)), (6, .val (i64 1))] rfl ?_ ?_
  · simp <;> simp [ieq, ilt, ile]
  refine VW.sqc fun K2 hK2 hCK2 => ?_
  -- region 2
  refine VW.ws tau_ok Sound.none [some 12, some 13, some 14] [(0, .val (i64 a0)), (5, .ref 5 [] true (dM v1)), (6, .val (i64 1)), (13, .val (i64 (v1.length : Int))), (14, .val (i64 0))] rfl ?_ ?_
  · simp <;> simp [ieq, ilt, ile]
  obtain ⟨x3, hx3, h⟩ := bind_some h
  refine VW.tlO (fun y5 => [(6, .val (i64 y5))]) x3 (hCK2) ?_ ?_
  · clear hx3
    rintro y5 rfl
    dsimp only at h
    refine hK2 _ ?_
    -- region 19
    refine VW.ws tau_ok Sound.none [some 110, some 4] [(4, .val (i64 y5))] rfl ?_ ?_
    · simp <;> simp [ieq, ilt, ile]
    cases h
    refine VW.ret ?_
    simp [Post, PostM, PostC, PostC2, Nx, Bk]
  refine VW.block ?_
  refine VW.loopF (i_field_determinant_L0 a0 v1) (fun s3 => [(0, .val (i64 a0)), (5, .ref 5 [] true (dM s3.1)), (6, .val (i64 s3.2.1)), (13, .val (i64 (v1.length : Int))), (14, .val (i64 s3.2.2))]) hx3 (Fits.of rfl) ?_
  clear hx3
  intro s3 ox3 hx3o hx3b
  unfold i_field_determinant_L0 at hx3o
  -- region 3
  refine VW.ws tau_ok Sound.none [some 15] [(0, .val (i64 a0)), (5, .ref 5 [] true (dM s3.1)), (6, .val (i64 s3.2.1)), (13, .val (i64 (v1.length : Int))), (14, .val (i64 s3.2.2)), (15, .val (.bool (ilt s3.2.2 (v1.length : Int))))] rfl ?_ ?_
  · simp <;> simp [ieq, ilt, ile]
  refine VW.sqc fun K6 hK6 hCK6 => ?_
  refine VW.cond rfl (fun hb7 => ?_) (fun hb7 => ?_)
  rotate_left
  ·
    replace hb7 : ¬ (s3.2.2 < (v1.length : Int)) := by simpa [ieq, ilt, ile] using hb7
    rw [if_neg hb7] at hx3o
    refine VW.exit ?_
    cases hx3o
    have hq := hx3b _ rfl
    subst hq
    exact ⟨_, rfl, Fits.of rfl⟩
  replace hb7 : s3.2.2 < (v1.length : Int) := by simpa [ieq, ilt, ile] using hb7
  rw [if_pos hb7] at hx3o
  refine VW.skip ?_
  refine hK6 _ ?_
  refine VW.sqc fun K8 hK8 hCK8 => ?_
  refine VW.block ?_
  -- region 4
  refine VW.ws tau_ok Sound.none [some 16, some 7] [(0, .val (i64 a0)), (5, .ref 5 [] true (dM s3.1)), (6, .val (i64 s3.2.1)), (7, .val (i64 s3.2.2)), (13, .val (i64 (v1.length : Int))), (14, .val (i64 s3.2.2))] rfl ?_ ?_
  · simp <;> simp [ieq, ilt, ile]
  -- region 5
  refine VW.ws tau_ok Sound.none [some 17, some 8] [(0, .val (i64 a0)), (5, .ref 5 [] true (dM s3.1)), (6, .val (i64 s3.2.1)), (7, .val (i64 s3.2.2)), (8, .val (i64 s3.2.2)), (13, .val (i64 (v1.length : Int))), (14, .val (i64 s3.2.2))] rfl ?_ ?_
  · simp <;> simp [ieq, ilt, ile]
  refine VW.sqc fun K9 hK9 hCK9 => ?_
  obtain ⟨x10, hx10, hx3o⟩ := bind_some hx3o
  refine VW.tlE [(0, .val (i64 a0)), (5, .ref 5 [] true (dM s3.1)), (6, .val (i64 s3.2.1)), (7, .val (i64 s3.2.2)), (8, .val (i64 x10)), (13, .val (i64 (v1.length : Int))), (14, .val (i64 s3.2.2))] (hCK9) ?_ ?_
  · clear hx10
    refine hK9 _ ?_
    refine VW.sqc fun K18 hK18 hCK18 => ?_
    -- region 8
    refine VW.ws tau_ok Sound.none [some 34, some 35, some 36, some 37] [(0, .val (i64 a0)), (5, .ref 5 [] true (dM s3.1)), (6, .val (i64 s3.2.1)), (7, .val (i64 s3.2.2)), (8, .val (i64 x10)), (13, .val (i64 (v1.length : Int))), (14, .val (i64 s3.2.2)), (37, .val (.bool (ieq x10 (s3.1.length : Int))))] rfl ?_ ?_
    · simp <;> simp [ieq, ilt, ile]
    refine VW.cond rfl (fun hb19 => ?_) (fun hb19 => ?_)
    ·
      replace hb19 : x10 = (s3.1.length : Int) := by simpa [ieq, ilt, ile] using hb19
      rw [if_pos hb19] at hx3o
      -- region 9
      refine VW.ws tau_ok Sound.none [some 4] [(4, .val (i64 0))] rfl ?_ ?_
      · simp <;> simp [ieq, ilt, ile]
      cases hx3o
      have hq := hx3b _ rfl
      subst hq
      dsimp only at h
      cases h
      refine VW.ret ?_
      simp [Post, PostM, PostC, PostC2, Nx, Bk]
    replace hb19 : ¬ (x10 = (s3.1.length : Int)) := by simpa [ieq, ilt, ile] using hb19
    rw [if_neg hb19] at hx3o
    refine VW.skip ?_
    refine hK18 _ ?_
    refine VW.sqc fun K20 hK20 hCK20 => ?_
    -- region 10
    refine VW.ws tau_ok Sound.none [some 38, some 39, some 40] [(0, .val (i64 a0)), (5, .ref 5 [] true (dM s3.1)), (6, .val (i64 s3.2.1)), (7, .val (i64 s3.2.2)), (8, .val (i64 x10)), (13, .val (i64 (v1.length : Int))), (14, .val (i64 s3.2.2)), (40, .val (.bool (!(ieq x10 s3.2.2))))] rfl ?_ ?_
    · simp <;> simp [ieq, ilt, ile]
    obtain ⟨x21, hx21, hx3o⟩ := bind_some hx3o
    refine VW.tlE [(0, .val (i64 a0)), (5, .ref 5 [] true (dM x21.1)), (6, .val (i64 x21.2)), (7, .val (i64 s3.2.2)), (13, .val (i64 (v1.length : Int))), (14, .val (i64 s3.2.2))] (hCK20) ?_ ?_
    · clear hx21
      refine hK20 _ ?_
      -- region 13
      obtain ⟨v28, hv28, hx3o⟩ := bind_some hx3o
      obtain ⟨hv28a, hv28b, hv28c, hv28d⟩ := idx_some hv28
      obtain ⟨v29, hv29, hx3o⟩ := bind_some hx3o
      obtain ⟨hv29a, hv29b, hv29c, hv29d⟩ := idx_some hv29
      obtain ⟨v30, hv30, hx3o⟩ := bind_some hx3o
      refine VW.ws tau_ok (Sound.none.add 69 (i_field_num_ok hv30) rfl) [some 59, some 60, some 61, some 62, some 63, some 64, some 65, some 66, some 67, some 68, some 69, some 6] [(0, .val (i64 a0)), (5, .ref 5 [] true (dM x21.1)), (6, .val (i64 v30)), (7, .val (i64 s3.2.2)), (13, .val (i64 (v1.length : Int))), (14, .val (i64 s3.2.2))] rfl ?_ ?_
      · simp [hv28a, hv28b, hv28c, hv28d, hv29a, hv29b, hv29c, hv29d] <;> simp [ieq, ilt, ile]
      -- region 14
      refine VW.ws tau_ok Sound.none [some 70, some 71, some 9] [(0, .val (i64 a0)), (5, .ref 5 [] true (dM x21.1)), (6, .val (i64 v30)), (7, .val (i64 s3.2.2)), (9, .val (i64 (w64 (s3.2.2 + 1)))), (13, .val (i64 (v1.length : Int))), (14, .val (i64 s3.2.2))] rfl ?_ ?_
      · simp <;> simp [ieq, ilt, ile]
      obtain ⟨x31, hx31, hx3o⟩ := bind_some hx3o
      refine VW.tlE [(0, .val (i64 a0)), (5, .ref 5 [] true (dM x31)), (6, .val (i64 v30)), (13, .val (i64 (v1.length : Int))), (14, .val (i64 s3.2.2))] (hCK8) ?_ ?_
      · clear hx31
        refine hK8 _ ?_
        -- region 18
        refine VW.wr tau_ok Sound.none [some 109, some 14] [(0, .val (i64 a0)), (5, .ref 5 [] true (dM x31)), (6, .val (i64 v30)), (13, .val (i64 (v1.length : Int))), (14, .val (i64 (w64 (s3.2.2 + 1))))] rfl ?_ ?_
        · simp <;> simp [ieq, ilt, ile]
        cases hx3o
        exact ⟨_, rfl, Fits.of rfl⟩
      refine VW.block ?_
      refine VW.loopF (i_field_determinant_L2 a0 s3) (fun s31 => [(0, .val (i64 a0)), (5, .ref 5 [] true (dM s31.1)), (6, .val (i64 v30)), (7, .val (i64 s3.2.2)), (9, .val (i64 s31.2)), (13, .val (i64 (v1.length : Int))), (14, .val (i64 s3.2.2))]) hx31 (Fits.of rfl) ?_
      clear hx31
      intro s31 ox31 hx31o hx31b
      unfold i_field_determinant_L2 at hx31o
      refine VW.sqc fun K33 hK33 hCK33 => ?_
      -- region 15
      refine VW.ws tau_ok Sound.none [some 72, some 73, some 74, some 75] [(0, .val (i64 a0)), (5, .ref 5 [] true (dM s31.1)), (6, .val (i64 v30)), (7, .val (i64 s3.2.2)), (9, .val (i64 s31.2)), (13, .val (i64 (v1.length : Int))), (14, .val (i64 s3.2.2)), (75, .val (.bool (ilt s31.2 (s31.1.length : Int))))] rfl ?_ ?_
      · simp <;> simp [ieq, ilt, ile]
      refine VW.cond rfl (fun hb34 => ?_) (fun hb34 => ?_)
      rotate_left
      ·
        replace hb34 : ¬ (s31.2 < (s31.1.length : Int)) := by simpa [ieq, ilt, ile] using hb34
        rw [if_neg hb34] at hx31o
        refine VW.exit ?_
        cases hx31o
        have hq := hx31b _ rfl
        subst hq
        exact Fits.of rfl
      replace hb34 : s31.2 < (s31.1.length : Int) := by simpa [ieq, ilt, ile] using hb34
      rw [if_pos hb34] at hx31o
      refine VW.skip ?_
      refine hK33 _ ?_
      refine VW.sqc fun K35 hK35 hCK35 => ?_
      refine VW.block ?_
      -- region 17
      obtain ⟨v36, hv36, hx31o⟩ := bind_some hx31o
      obtain ⟨hv36a, hv36b, hv36c, hv36d⟩ := idx_some hv36
      obtain ⟨v37, hv37, hx31o⟩ := bind_some hx31o
      obtain ⟨hv37a, hv37b, hv37c, hv37d⟩ := idx_some hv37
      obtain ⟨v38, hv38, hx31o⟩ := bind_some hx31o
      obtain ⟨hv38a, hv38b, hv38c, hv38d⟩ := idx_some hv38
      obtain ⟨v39, hv39, hx31o⟩ := bind_some hx31o
      obtain ⟨hv39a, hv39b, hv39c, hv39d⟩ := idx_some hv39
      obtain ⟨v40, hv40, hx31o⟩ := bind_some hx31o
      obtain ⟨v41, hv41, hx31o⟩ := bind_some hx31o
      refine VW.wdr tau_ok ((Sound.none.add 105 (i_field_inv_ok hv40) rfl).add 107 (i_field_plus_ok hv41) rfl) try_mixed [some 78, some 79, some 80, some 81, some 82, some 83, some 84, some 85, some 86, some 87, some 88, some 89, some 90, some 91, some 92, some 93, some 94, some 95, some 96, some 97, some 98, some 99, some 100, some 101, some 102, some 103, some 104, some 105, some 106, some 107, some 108, none] [(0, .val (i64 a0)), (5, .ref 5 [] true (dM (s31.1.set s31.2.toNat v41))), (6, .val (i64 v30)), (7, .val (i64 s3.2.2)), (9, .val (i64 s31.2)), (13, .val (i64 (v1.length : Int))), (14, .val (i64 s3.2.2))] 31 rfl (by kernel_rfl) (by rfl) ?_ ?_
      · simp [hv36a, hv36b, hv36c, hv36d, hv37a, hv37b, hv37c, hv37d, hv38a, hv38b, hv38c, hv38d, hv39a, hv39b, hv39c, hv39d] <;> simp [ieq, ilt, ile]
      refine hK35 _ ?_
      -- region 16
      refine VW.wr tau_ok Sound.none [some 76, some 77, some 9] [(0, .val (i64 a0)), (5, .ref 5 [] true (dM (s31.1.set s31.2.toNat v41))), (6, .val (i64 v30)), (7, .val (i64 s3.2.2)), (9, .val (i64 (w64 (s31.2 + 1)))), (13, .val (i64 (v1.length : Int))), (14, .val (i64 s3.2.2))] rfl ?_ ?_
      · simp <;> simp [ieq, ilt, ile]
      cases hx31o
      exact ⟨_, rfl, Fits.of rfl⟩
    refine VW.cond rfl (fun hb23 => ?_) (fun hb23 => ?_)
    rotate_left
    ·
      replace hb23 : ¬ (¬ x10 = s3.2.2) := by simpa [ieq, ilt, ile] using hb23
      rw [if_neg hb23] at hx21
      refine VW.skip ?_
      cases hx21
      exact Fits.of rfl
    replace hb23 : ¬ x10 = s3.2.2 := by simpa [ieq, ilt, ile] using hb23
    rw [if_pos hb23] at hx21
    -- region 11
    obtain ⟨v24, hv24, hx21⟩ := bind_some hx21
    obtain ⟨hv24a, hv24b, hv24c, hv24d⟩ := idx_some hv24
    obtain ⟨v25, hv25, hx21⟩ := bind_some hx21
    obtain ⟨hv25a, hv25b, hv25c, hv25d⟩ := idx_some hv25
    have hv24z := hv24b
    try simp [hv24a] at hv24z
    have hv25z := hv25b
    try simp [hv25a] at hv25z
    obtain ⟨v26, hv26, hx21⟩ := bind_some hx21
    obtain ⟨hv26a, hv26b, hv26c, hv26d⟩ := idx_some hv26
    have hv26s := hv26b
    try simp at hv26s
    refine VW.wds tau_ok Sound.none try_mixed [some 41, some 42, some 43, some 44, some 45, some 46, some 47, some 48, some 49, some 50, some 51, some 52, some 53, none, some 54, none] [(0, .val (i64 a0)), (5, .ref 5 [] true (dM ((s3.1.set s3.2.2.toNat v24).set x10.toNat v25))), (6, .val (i64 s3.2.1)), (7, .val (i64 s3.2.2)), (13, .val (i64 (v1.length : Int))), (14, .val (i64 s3.2.2))] 13 rfl (by kernel_rfl) (by rfl) ?_ ?_
    · simp [hv24a, hv24b, hv24c, hv24d, hv25a, hv25b, hv25c, hv25d, hv24z, hv25z, hv26a, hv26b, hv26c, hv26d, hv26s] <;> simp [ieq, ilt, ile]
    -- region 12
    obtain ⟨v27, hv27, hx21⟩ := bind_some hx21
    refine VW.wr tau_ok (Sound.none.add 58 (i_field_num_ok hv27) rfl) [some 55, some 56, some 57, some 58, some 6] [(0, .val (i64 a0)), (5, .ref 5 [] true (dM ((s3.1.set s3.2.2.toNat v24).set x10.toNat v25))), (6, .val (i64 v27)), (7, .val (i64 s3.2.2)), (13, .val (i64 (v1.length : Int))), (14, .val (i64 s3.2.2))] rfl ?_ ?_
    · simp <;> simp [ieq, ilt, ile]
    cases hx21
    exact Fits.of rfl
  refine VW.block ?_
  refine VW.loopF (i_field_determinant_L1 s3) (fun s10 => [(0, .val (i64 a0)), (5, .ref 5 [] true (dM s3.1)), (6, .val (i64 s3.2.1)), (7, .val (i64 s3.2.2)), (8, .val (i64 s10)), (13, .val (i64 (v1.length : Int))), (14, .val (i64 s3.2.2))]) hx10 (Fits.of rfl) ?_
  clear hx10
  intro s10 ox10 hx10o hx10b
  unfold i_field_determinant_L1 at hx10o
  refine VW.sqc fun K12 hK12 hCK12 => ?_
  -- region 6
  obtain ⟨x16, hx16, hx10o⟩ := bind_some hx10o
  refine VW.cut [(0, .val (i64 a0)), (5, .ref 5 [] true (dM s3.1)), (6, .val (i64 s3.2.1)), (7, .val (i64 s3.2.2)), (8, .val (i64 s10)), (13, .val (i64 (v1.length : Int))), (14, .val (i64 s3.2.2)), (31, .val (.bool x16))] ?_ fun hy => ?_
  rotate_left
  · clear hx10o
    by_cases hp13 : s10 < (s3.1.length : Int)
    · rw [if_pos hp13] at hx16
      have hp13b : ilt s10 (s3.1.length : Int) = true := by simpa [ieq, ilt, ile] using hp13
      have hp13s := hp13b
      try simp at hp13s
      obtain ⟨v14, hv14, hx16⟩ := bind_some hx16
      obtain ⟨hv14a, hv14b, hv14c, hv14d⟩ := idx_some hv14
      obtain ⟨v15, hv15, hx16⟩ := bind_some hx16
      obtain ⟨hv15a, hv15b, hv15c, hv15d⟩ := idx_some hv15
      cases hx16
      refine VW.ws tau_ok Sound.none [some 18, some 19, some 20, some 21, some 22, some 23, some 24, some 25, some 26, some 27, some 28, some 29, some 30, some 31] _ rfl ?_ hy
      simp [hp13b, hp13s, hv14a, hv14b, hv14c, hv14d, hv15a, hv15b, hv15c, hv15d] <;> simp [ieq, ilt, ile]
    · rw [if_neg hp13] at hx16
      have hp13b : ilt s10 (s3.1.length : Int) = false := by simpa [ieq, ilt, ile] using hp13
      have hp13s := hp13b
      try simp at hp13s
      cases hx16
      refine VW.ws tau_ok Sound.none [some 18, some 19, some 20, some 21, some 22, some 23, some 24, some 25, some 26, some 27, some 28, some 29, some 30, some 31] _ rfl ?_ hy
      simp [hp13b, hp13s] <;> simp [ieq, ilt, ile]
  refine VW.cond rfl (fun hb17 => ?_) (fun hb17 => ?_)
  rotate_left
  ·
    replace hb17 : ¬ (x16 = true) := by simpa [ieq, ilt, ile] using hb17
    rw [if_neg hb17] at hx10o
    refine VW.exit ?_
    cases hx10o
    have hq := hx10b _ rfl
    subst hq
    exact Fits.of rfl
  replace hb17 : x16 = true := by simpa [ieq, ilt, ile] using hb17
  rw [if_pos hb17] at hx10o
  refine VW.skip ?_
  refine hK12 _ ?_
  refine VW.block ?_
  -- region 7
  refine VW.wr tau_ok Sound.none [some 32, some 33, some 8] [(0, .val (i64 a0)), (5, .ref 5 [] true (dM s3.1)), (6, .val (i64 s3.2.1)), (7, .val (i64 s3.2.2)), (8, .val (i64 (w64 (s10 + 1)))), (13, .val (i64 (v1.length : Int))), (14, .val (i64 s3.2.2))] rfl ?_ ?_
  · simp <;> simp [ieq, ilt, ile]
  cases hx10o
  exact ⟨_, rfl, Fits.of rfl⟩

theorem i_Determinant_ok {a0 : Int} {a1 : List (List Int)} {r : Int × Int} (h : i_Determinant a0 a1 = some r) :
    VCall Try.prog 20 [i64 a0, dM a1] [.sc (i64 r.1), .sc (i64 r.2)] := by
  unfold i_Determinant at h
  refine VCall.enter Try.call20 Try.func20 rfl 16 Try.ntmps20 (by simp) [.tmp 4, .tmp 5] rfl ?_
  show VW _ _ _ (mk [(0, .val (i64 a0)), (1, .val (dM a1))]) _
  -- region 0
  refine VW.ws tau_ok Sound.none [some 4, some 5] [(0, .val (i64 a0)), (1, .val (dM a1))] rfl ?_ ?_
  · simp <;> simp [ieq, ilt, ile]
  refine VW.sqc fun K1 hK1 hCK1 => ?_
  -- region 1
  obtain ⟨v2, hv2, h⟩ := bind_some h
  refine VW.ws tau_ok (Sound.none.add 9 (i_checkSquare_ok hv2) rfl) [some 7, some 8, some 9, some 6] [(0, .val (i64 a0)), (1, .val (dM a1)), (6, .val (i64 v2))] rfl ?_ ?_
  · simp <;> simp [ieq, ilt, ile]
  -- region 2
  refine VW.ws tau_ok Sound.none [some 10, some 11] [(0, .val (i64 a0)), (1, .val (dM a1)), (6, .val (i64 v2)), (11, .val (.bool (!(ieq v2 0))))] rfl ?_ ?_
  · simp <;> simp [ieq, ilt, ile]
  refine VW.cond rfl (fun hb3 => ?_) (fun hb3 => ?_)
  ·
    replace hb3 : ¬ v2 = 0 := by simpa [ieq, ilt, ile] using hb3
    rw [if_pos hb3] at h
    -- region 3
    refine VW.ws tau_ok Sound.none [some 12, some 4, some 5] [(4, .val (i64 0)), (5, .val (i64 v2))] rfl ?_ ?_
    · simp <;> simp [ieq, ilt, ile]
    cases h
    refine VW.ret ?_
    simp [Post, PostM, PostC, PostC2, Nx, Bk]
  replace hb3 : ¬ (¬ v2 = 0) := by simpa [ieq, ilt, ile] using hb3
  rw [if_neg hb3] at h
  refine VW.skip ?_
  refine hK1 _ ?_
  -- region 4
  obtain ⟨v4, hv4, h⟩ := bind_some h
  refine VW.ws tau_ok (Sound.none.add 15 (i_field_determinant_ok hv4) rfl) [some 13, some 14, some 15, some 4, some 5] [(4, .val (i64 v4)), (5, .val (i64 0))] rfl ?_ ?_
  · simp <;> simp [ieq, ilt, ile]
  cases h
  refine VW.ret ?_
  simp [Post, PostM, PostC, PostC2, Nx, Bk]

theorem l_roll_ok {a0 : List Int} {a1 : Int} {r : (List Int) × Int × Int} (h : l_roll a0 a1 = some r) :
    VCall Try.prog 21 [.list (a0.map (D.int .u8)), .int .u64 a1] [.own false (.ptr [.list (r.1.map (D.int .u8)), i64 r.2.1, .int .u64 r.2.2])] := by
  unfold l_roll at h
  refine VCall.enter Try.call21 Try.func21 rfl 38 Try.ntmps21 (by simp) [.tmp 4] rfl ?_
  show VW _ _ _ (mk [(0, .val (.list (a0.map (D.int .u8)))), (1, .val (.int .u64 a1))]) _
  -- region 0
  refine VW.ws tau_ok Sound.none [some 4] [(0, .val (.list (a0.map (D.int .u8)))), (1, .val (.int .u64 a1))] rfl ?_ ?_
  · simp <;> simp [ieq, ilt, ile]
  -- region 1
  refine VW.ws tau_ok Sound.none [some 7, some 8, some 9, some 10, some 11, some 12, some 13, some 14, some 15, some 5] [(0, .val (.list (a0.map (D.int .u8)))), (5, .ref 5 [] false (.ptr [.list (a0.map (D.int .u8)), i64 0, .int .u64 (IntKind.u64.wrap ((IntKind.u64.wrap (a1 * 7681)) + (IntKind.u64.wrap ((a0.length : Int)))))]))] rfl ?_ ?_
  · simp <;> simp [ieq, ilt, ile]
  refine VW.sqc fun K1 hK1 hCK1 => ?_
  -- region 2
  refine VW.ws tau_ok Sound.none [some 6] [(0, .val (.list (a0.map (D.int .u8)))), (5, .ref 5 [] false (.ptr [.list (a0.map (D.int .u8)), i64 0, .int .u64 (IntKind.u64.wrap ((IntKind.u64.wrap (a1 * 7681)) + (IntKind.u64.wrap ((a0.length : Int)))))])), (6, .val (i64 0))] rfl ?_ ?_
  · simp <;> simp [ieq, ilt, ile]
  obtain ⟨x2, hx2, h⟩ := bind_some h
  refine VW.tlE [(5, .ref 5 [] false (.ptr [.list (x2.1.map (D.int .u8)), i64 x2.2.1, .int .u64 x2.2.2]))] (hCK1) ?_ ?_
  · clear hx2
    refine hK1 _ ?_
    -- region 6
    refine VW.ws tau_ok Sound.none [some 37, some 4] [(4, .ref 4 [] false (.ptr [.list (x2.1.map (D.int .u8)), i64 x2.2.1, .int .u64 x2.2.2]))] rfl ?_ ?_
    · simp <;> simp [ieq, ilt, ile]
    cases h
    refine VW.ret ?_
    simp [Post, PostM, PostC, PostC2, Nx, Bk]
  refine VW.block ?_
  refine VW.loopF (l_roll_L0 a0) (fun s2 => [(0, .val (.list (a0.map (D.int .u8)))), (5, .ref 5 [] false (.ptr [.list (s2.1.map (D.int .u8)), i64 s2.2.1, .int .u64 s2.2.2.1])), (6, .val (i64 s2.2.2.2))]) hx2 (Fits.of rfl) ?_
  clear hx2
  intro s2 ox2 hx2o hx2b
  unfold l_roll_L0 at hx2o
  refine VW.sqc fun K4 hK4 hCK4 => ?_
  -- region 3
  refine VW.ws tau_ok Sound.none [some 16, some 17, some 18, some 19] [(0, .val (.list (a0.map (D.int .u8)))), (5, .ref 5 [] false (.ptr [.list (s2.1.map (D.int .u8)), i64 s2.2.1, .int .u64 s2.2.2.1])), (6, .val (i64 s2.2.2.2)), (19, .val (.bool (ilt s2.2.2.2 (a0.length : Int))))] rfl ?_ ?_
  · simp <;> simp [ieq, ilt, ile]
  refine VW.cond rfl (fun hb5 => ?_) (fun hb5 => ?_)
  rotate_left
  ·
    replace hb5 : ¬ (s2.2.2.2 < (a0.length : Int)) := by simpa [ieq, ilt, ile] using hb5
    rw [if_neg hb5] at hx2o
    refine VW.exit ?_
    cases hx2o
    have hq := hx2b _ rfl
    subst hq
    exact Fits.of rfl
  replace hb5 : s2.2.2.2 < (a0.length : Int) := by simpa [ieq, ilt, ile] using hb5
  rw [if_pos hb5] at hx2o
  refine VW.skip ?_
  refine hK4 _ ?_
  refine VW.sqc fun K6 hK6 hCK6 => ?_
  refine VW.block ?_
  -- region 5
  obtain ⟨v7, hv7, hx2o⟩ := bind_some hx2o
  obtain ⟨hv7a, hv7b, hv7c, hv7d⟩ := idx_some hv7
  refine VW.wdr tau_ok Sound.none try_mixed [some 22, some 23, some 24, some 25, some 26, some 27, some 28, some 29, some 30, some 31, some 32, some 33, some 34, some 35, some 36, none] [(0, .val (.list (a0.map (D.int .u8)))), (5, .ref 5 [] false (.ptr [.list (s2.1.map (D.int .u8)), i64 s2.2.1, .int .u64 (IntKind.u64.wrap ((IntKind.u64.wrap ((IntKind.u64.wrap (s2.2.2.1 * 1099511628211)) + (IntKind.u64.wrap (v7)))) + 5))])), (6, .val (i64 s2.2.2.2))] 15 rfl (by kernel_rfl) (by rfl) ?_ ?_
  · simp [hv7a, hv7b, hv7c, hv7d] <;> simp [ieq, ilt, ile]
  refine hK6 _ ?_
  -- region 4
  refine VW.wr tau_ok Sound.none [some 20, some 21, some 6] [(0, .val (.list (a0.map (D.int .u8)))), (5, .ref 5 [] false (.ptr [.list (s2.1.map (D.int .u8)), i64 s2.2.1, .int .u64 (IntKind.u64.wrap ((IntKind.u64.wrap ((IntKind.u64.wrap (s2.2.2.1 * 1099511628211)) + (IntKind.u64.wrap (v7)))) + 5))])), (6, .val (i64 (w64 (s2.2.2.2 + 1))))] rfl ?_ ?_
  · simp <;> simp [ieq, ilt, ile]
  cases hx2o
  exact ⟨_, rfl, Fits.of rfl⟩

theorem g_p_laws_dice_below_ok {a0_0 : List Int} {a0_1 : Int} {a0_2 : Int} {a1 : Int} {r : Int × ((List Int) × Int × Int)} (h : g_p_laws_dice_below a0_0 a0_1 a0_2 a1 = some r) :
    VPtr Try.prog 22 [.list (a0_0.map (D.int .u8)), i64 a0_1, .int .u64 a0_2] [i64 a1] [.sc (i64 r.1)] [.list (r.2.1.map (D.int .u8)), i64 r.2.2.1, .int .u64 r.2.2.2] := by
  unfold g_p_laws_dice_below at h
  refine VPtr.enter Try.call22 Try.func22 rfl 58 Try.ntmps22 (by simp) [.tmp 4] rfl ?_
  show VW _ _ _ (mk [(0, .ref 0 [] false (.ptr [.list (a0_0.map (D.int .u8)), i64 a0_1, .int .u64 a0_2])), (1, .val (i64 a1))]) _
  -- region 0
  refine VW.ws tau_ok Sound.none [some 4] [(0, .ref 0 [] false (.ptr [.list (a0_0.map (D.int .u8)), i64 a0_1, .int .u64 a0_2])), (1, .val (i64 a1))] rfl ?_ ?_
  · simp <;> simp [ieq, ilt, ile]
  refine VW.sqc fun K1 hK1 hCK1 => ?_
  -- region 1
  refine VW.ws tau_ok Sound.none [some 6, some 7] [(0, .ref 0 [] false (.ptr [.list (a0_0.map (D.int .u8)), i64 a0_1, .int .u64 a0_2])), (1, .val (i64 a1)), (7, .val (.bool (ilt a1 1)))] rfl ?_ ?_
  · simp <;> simp [ieq, ilt, ile]
  refine VW.cond rfl (fun hb2 => ?_) (fun hb2 => ?_)
  ·
    replace hb2 : a1 < 1 := by simpa [ieq, ilt, ile] using hb2
    rw [if_pos hb2] at h
    -- region 2
    refine VW.ws tau_ok Sound.none [some 4] [(0, .ref 0 [] false (.ptr [.list (a0_0.map (D.int .u8)), i64 a0_1, .int .u64 a0_2])), (4, .val (i64 0))] rfl ?_ ?_
    · simp <;> simp [ieq, ilt, ile]
    cases h
    refine VW.ret ?_
    simp [PostW, resW, PostWC, resWC, Nx, Bk]
  replace hb2 : ¬ (a1 < 1) := by simpa [ieq, ilt, ile] using hb2
  rw [if_neg hb2] at h
  refine VW.skip ?_
  refine hK1 _ ?_
  -- region 3
  refine VW.ws tau_ok Sound.none [some 8, some 9, some 10, some 11, some 12, some 13, some 14, some 15, some 16, none] [(0, .ref 0 [] false (.ptr [.list (a0_0.map (D.int .u8)), i64 a0_1, .int .u64 (IntKind.u64.wrap ((IntKind.u64.wrap (a0_2 * 6364136223846793005)) + 1442695040888963407))])), (1, .val (i64 a1))] rfl ?_ ?_
  · simp <;> simp [ieq, ilt, ile]
  -- region 4
  refine VW.ws tau_ok Sound.none [some 17, some 18, some 19, some 20, some 21, some 22, some 23, some 5] [(0, .ref 0 [] false (.ptr [.list (a0_0.map (D.int .u8)), i64 a0_1, .int .u64 (IntKind.u64.wrap ((IntKind.u64.wrap (a0_2 * 6364136223846793005)) + 1442695040888963407))])), (1, .val (i64 a1)), (5, .val (i64 (w64 (band .u64 (shr .u64 (IntKind.u64.wrap ((IntKind.u64.wrap (a0_2 * 6364136223846793005)) + 1442695040888963407)) 33) 16777215))))] rfl ?_ ?_
  · simp <;> simp [ieq, ilt, ile]
  refine VW.sqc fun K3 hK3 hCK3 => ?_
  -- region 5
  refine VW.wds tau_ok Sound.none try_mixed [some 24, some 25, some 26, some 27, some 28, some 29, some 30, some 31, some 32, some 33] [(0, .ref 0 [] false (.ptr [.list (a0_0.map (D.int .u8)), i64 a0_1, .int .u64 (IntKind.u64.wrap ((IntKind.u64.wrap (a0_2 * 6364136223846793005)) + 1442695040888963407))])), (1, .val (i64 a1)), (5, .val (i64 (w64 (band .u64 (shr .u64 (IntKind.u64.wrap ((IntKind.u64.wrap (a0_2 * 6364136223846793005)) + 1442695040888963407)) 33) 16777215)))), (33, .val (.bool (ilt a0_1 (a0_0.length : Int))))] 10 rfl (by kernel_rfl) (by rfl) ?_ ?_
  · simp <;> simp [ieq, ilt, ile]
  obtain ⟨x4, hx4, h⟩ := bind_some h
  refine VW.tlE [(0, .ref 0 [] false (.ptr [.list (x4.1.map (D.int .u8)), i64 x4.2.1, .int .u64 x4.2.2.1])), (1, .val (i64 a1)), (5, .val (i64 x4.2.2.2))] (hCK3) ?_ ?_
  · clear hx4
    refine hK3 _ ?_
    -- region 8
    obtain ⟨hc8, h⟩ := chk_some h
    have hc8s := hc8
    try simp at hc8s
    refine VW.ws tau_ok Sound.none [some 55, some 56, some 57, some 4] [(0, .ref 0 [] false (.ptr [.list (x4.1.map (D.int .u8)), i64 x4.2.1, .int .u64 x4.2.2.1])), (4, .val (i64 (x4.2.2.2.tmod a1)))] rfl ?_ ?_
    · simp [hc8, hc8s] <;> simp [ieq, ilt, ile]
    cases h
    refine VW.ret ?_
    simp [PostW, resW, PostWC, resWC, Nx, Bk]
  refine VW.cond rfl (fun hb6 => ?_) (fun hb6 => ?_)
  rotate_left
  ·
    replace hb6 : ¬ (a0_1 < (a0_0.length : Int)) := by simpa [ieq, ilt, ile] using hb6
    rw [if_neg hb6] at hx4
    refine VW.skip ?_
    cases hx4
    exact Fits.of rfl
  replace hb6 : a0_1 < (a0_0.length : Int) := by simpa [ieq, ilt, ile] using hb6
  rw [if_pos hb6] at hx4
  -- region 6
  obtain ⟨v7, hv7, hx4⟩ := bind_some hx4
  obtain ⟨hv7a, hv7b, hv7c, hv7d⟩ := idx_some hv7
  refine VW.wds tau_ok Sound.none try_mixed [some 34, some 35, some 36, some 37, some 38, some 39, some 40, some 41, some 42, some 43, some 44, some 45, some 46, some 5] [(0, .ref 0 [] false (.ptr [.list (a0_0.map (D.int .u8)), i64 a0_1, .int .u64 (IntKind.u64.wrap ((IntKind.u64.wrap (a0_2 * 6364136223846793005)) + 1442695040888963407))])), (1, .val (i64 a1)), (5, .val (i64 (w64 ((w64 (band .u64 (shr .u64 (IntKind.u64.wrap ((IntKind.u64.wrap (a0_2 * 6364136223846793005)) + 1442695040888963407)) 33) 16777215)) + (w64 (v7))))))] 14 rfl (by kernel_rfl) (by rfl) ?_ ?_
  · simp [hv7a, hv7b, hv7c, hv7d] <;> simp [ieq, ilt, ile]
  -- region 7
  refine VW.wr tau_ok Sound.none [some 47, some 48, some 49, some 50, some 51, some 52, some 53, some 54, none] [(0, .ref 0 [] false (.ptr [.list (a0_0.map (D.int .u8)), i64 (w64 (a0_1 + 1)), .int .u64 (IntKind.u64.wrap ((IntKind.u64.wrap (a0_2 * 6364136223846793005)) + 1442695040888963407))])), (1, .val (i64 a1)), (5, .val (i64 (w64 ((w64 (band .u64 (shr .u64 (IntKind.u64.wrap ((IntKind.u64.wrap (a0_2 * 6364136223846793005)) + 1442695040888963407)) 33) 16777215)) + (w64 (v7))))))] rfl ?_ ?_
  · simp <;> simp [ieq, ilt, ile]
  cases hx4
  exact Fits.of rfl

theorem i_transpose_ok {a0 : List (List Int)} {r : List (List Int)} (h : i_transpose a0 = some r) :
    VCall Try.prog 145 [dM a0] [.own true (dM r)] := by
  unfold i_transpose at h
  refine VCall.enter Try.call145 Try.func145 rfl 38 Try.ntmps145 (by simp) [.tmp 2] rfl ?_
  show VW _ _ _ (mk [(0, .val (dM a0))]) _
  -- region 0
  refine VW.ws tau_ok Sound.none [some 2] [(0, .val (dM a0))] rfl ?_ ?_
  · simp <;> simp [ieq, ilt, ile]
  -- region 1
  refine VW.ws tau_ok Sound.none [some 7, some 3] [(0, .val (dM a0)), (3, .ref 3 [] true (dM []))] rfl ?_ ?_
  · simp <;> simp [ieq, ilt, ile]
  refine VW.sqc fun K1 hK1 hCK1 => ?_
  -- region 2
  obtain ⟨v2, hv2, h⟩ := bind_some h
  obtain ⟨hv2a, hv2b, hv2c, hv2d⟩ := idx_some hv2
  replace hv2b : 0 < a0.length := hv2b
  replace hv2c : a0[0]? = some v2 := hv2c
  replace hv2d : ∀ h, a0[0]'h = v2 := hv2d
  refine VW.ws tau_ok Sound.none [some 8, some 9, some 10, some 11, some 12] [(0, .val (dM a0)), (3, .ref 3 [] true (dM [])), (11, .val (i64 (v2.length : Int))), (12, .val (i64 0))] rfl ?_ ?_
  · simp [hv2a, hv2b, hv2c, hv2d] <;> simp [ieq, ilt, ile]
  obtain ⟨x3, hx3, h⟩ := bind_some h
  refine VW.tlE [(3, .ref 3 [] true (dM x3))] (hCK1) ?_ ?_
  · clear hx3
    refine hK1 _ ?_
    -- region 13
    refine VW.ws tau_ok Sound.none [some 37, some 2] [(2, .ref 2 [] true (dM x3))] rfl ?_ ?_
    · simp <;> simp [ieq, ilt, ile]
    cases h
    refine VW.ret ?_
    simp [Post, PostM, PostC, PostC2, Nx, Bk]
  refine VW.block ?_
  refine VW.loopF (i_transpose_L0 a0 v2) (fun s3 => [(0, .val (dM a0)), (3, .ref 3 [] true (dM s3.1)), (11, .val (i64 (v2.length : Int))), (12, .val (i64 s3.2))]) hx3 (Fits.of rfl) ?_
  clear hx3
  intro s3 ox3 hx3o hx3b
  unfold i_transpose_L0 at hx3o
  -- region 3
  refine VW.ws tau_ok Sound.none [some 13] [(0, .val (dM a0)), (3, .ref 3 [] true (dM s3.1)), (11, .val (i64 (v2.length : Int))), (12, .val (i64 s3.2)), (13, .val (.bool (ilt s3.2 (v2.length : Int))))] rfl ?_ ?_
  · simp <;> simp [ieq, ilt, ile]
  refine VW.sqc fun K5 hK5 hCK5 => ?_
  refine VW.cond rfl (fun hb6 => ?_) (fun hb6 => ?_)
  rotate_left
  ·
    replace hb6 : ¬ (s3.2 < (v2.length : Int)) := by simpa [ieq, ilt, ile] using hb6
    rw [if_neg hb6] at hx3o
    refine VW.exit ?_
    cases hx3o
    have hq := hx3b _ rfl
    subst hq
    exact Fits.of rfl
  replace hb6 : s3.2 < (v2.length : Int) := by simpa [ieq, ilt, ile] using hb6
  rw [if_pos hb6] at hx3o
  refine VW.skip ?_
  refine hK5 _ ?_
  refine VW.sqc fun K7 hK7 hCK7 => ?_
  refine VW.block ?_
  -- region 4
  refine VW.ws tau_ok Sound.none [some 14, some 4] [(0, .val (dM a0)), (3, .ref 3 [] true (dM s3.1)), (4, .val (i64 s3.2)), (11, .val (i64 (v2.length : Int))), (12, .val (i64 s3.2))] rfl ?_ ?_
  · simp <;> simp [ieq, ilt, ile]
  -- region 5
  refine VW.ws tau_ok Sound.none [some 15, some 5] [(0, .val (dM a0)), (3, .ref 3 [] true (dM s3.1)), (4, .val (i64 s3.2)), (5, .ref 5 [] true (dI [])), (11, .val (i64 (v2.length : Int))), (12, .val (i64 s3.2))] rfl ?_ ?_
  · simp <;> simp [ieq, ilt, ile]
  refine VW.sqc fun K8 hK8 hCK8 => ?_
  -- region 6
  refine VW.ws tau_ok Sound.none [some 16, some 17, some 18] [(0, .val (dM a0)), (3, .ref 3 [] true (dM s3.1)), (4, .val (i64 s3.2)), (5, .ref 5 [] true (dI [])), (11, .val (i64 (v2.length : Int))), (12, .val (i64 s3.2)), (17, .val (i64 (a0.length : Int))), (18, .val (i64 0))] rfl ?_ ?_
  · simp <;> simp [ieq, ilt, ile]
  obtain ⟨x9, hx9, hx3o⟩ := bind_some hx3o
  refine VW.tlE [(0, .val (dM a0)), (3, .ref 3 [] true (dM s3.1)), (5, .ref 5 [] true (dI x9)), (11, .val (i64 (v2.length : Int))), (12, .val (i64 s3.2))] (hCK8) ?_ ?_
  · clear hx9
    refine hK8 _ ?_
    -- region 11
    obtain ⟨hc17, hx3o⟩ := chk_some hx3o
    have hc17s := hc17
    try simp at hc17s
    refine VW.wr tau_ok Sound.none [some 32, some 33, some 34, some 35, some 3] [(0, .val (dM a0)), (3, .ref 3 [] true (dM (s3.1 ++ [x9]))), (11, .val (i64 (v2.length : Int))), (12, .val (i64 s3.2))] rfl ?_ ?_
    · simp [hc17, hc17s] <;> simp [ieq, ilt, ile]
    refine hK7 _ ?_
    -- region 12
    refine VW.wr tau_ok Sound.none [some 36, some 12] [(0, .val (dM a0)), (3, .ref 3 [] true (dM (s3.1 ++ [x9]))), (11, .val (i64 (v2.length : Int))), (12, .val (i64 (w64 (s3.2 + 1))))] rfl ?_ ?_
    · simp <;> simp [ieq, ilt, ile]
    cases hx3o
    exact ⟨_, rfl, Fits.of rfl⟩
  refine VW.block ?_
  refine VW.loopF (i_transpose_L1 a0 s3) (fun s9 => [(0, .val (dM a0)), (3, .ref 3 [] true (dM s3.1)), (4, .val (i64 s3.2)), (5, .ref 5 [] true (dI s9.1)), (11, .val (i64 (v2.length : Int))), (12, .val (i64 s3.2)), (17, .val (i64 (a0.length : Int))), (18, .val (i64 s9.2))]) hx9 (Fits.of rfl) ?_
  clear hx9
  intro s9 ox9 hx9o hx9b
  unfold i_transpose_L1 at hx9o
  -- region 7
  refine VW.ws tau_ok Sound.none [some 19] [(0, .val (dM a0)), (3, .ref 3 [] true (dM s3.1)), (4, .val (i64 s3.2)), (5, .ref 5 [] true (dI s9.1)), (11, .val (i64 (v2.length : Int))), (12, .val (i64 s3.2)), (17, .val (i64 (a0.length : Int))), (18, .val (i64 s9.2)), (19, .val (.bool (ilt s9.2 (a0.length : Int))))] rfl ?_ ?_
  · simp <;> simp [ieq, ilt, ile]
  refine VW.sqc fun K11 hK11 hCK11 => ?_
  refine VW.cond rfl (fun hb12 => ?_) (fun hb12 => ?_)
  rotate_left
  ·
    replace hb12 : ¬ (s9.2 < (a0.length : Int)) := by simpa [ieq, ilt, ile] using hb12
    rw [if_neg hb12] at hx9o
    refine VW.exit ?_
    cases hx9o
    have hq := hx9b _ rfl
    subst hq
    exact Fits.of rfl
  replace hb12 : s9.2 < (a0.length : Int) := by simpa [ieq, ilt, ile] using hb12
  rw [if_pos hb12] at hx9o
  refine VW.skip ?_
  refine hK11 _ ?_
  refine VW.sqc fun K13 hK13 hCK13 => ?_
  refine VW.block ?_
  -- region 8
  refine VW.ws tau_ok Sound.none [some 20, some 6] [(0, .val (dM a0)), (3, .ref 3 [] true (dM s3.1)), (4, .val (i64 s3.2)), (5, .ref 5 [] true (dI s9.1)), (6, .val (i64 s9.2)), (11, .val (i64 (v2.length : Int))), (12, .val (i64 s3.2)), (17, .val (i64 (a0.length : Int))), (18, .val (i64 s9.2))] rfl ?_ ?_
  · simp <;> simp [ieq, ilt, ile]
  -- region 9
  obtain ⟨v14, hv14, hx9o⟩ := bind_some hx9o
  obtain ⟨hv14a, hv14b, hv14c, hv14d⟩ := idx_some hv14
  obtain ⟨v15, hv15, hx9o⟩ := bind_some hx9o
  obtain ⟨hv15a, hv15b, hv15c, hv15d⟩ := idx_some hv15
  obtain ⟨hc16, hx9o⟩ := chk_some hx9o
  have hc16s := hc16
  try simp at hc16s
  refine VW.wr tau_ok Sound.none [some 21, some 22, some 23, some 24, some 25, some 26, some 27, some 28, some 29, some 30, some 5] [(0, .val (dM a0)), (3, .ref 3 [] true (dM s3.1)), (4, .val (i64 s3.2)), (5, .ref 5 [] true (dI (s9.1 ++ [v15]))), (11, .val (i64 (v2.length : Int))), (12, .val (i64 s3.2)), (17, .val (i64 (a0.length : Int))), (18, .val (i64 s9.2))] rfl ?_ ?_
  · simp [hv14a, hv14b, hv14c, hv14d, hv15a, hv15b, hv15c, hv15d, hc16, hc16s] <;> simp [ieq, ilt, ile]
  refine hK13 _ ?_
  -- region 10
  refine VW.wr tau_ok Sound.none [some 31, some 18] [(0, .val (dM a0)), (3, .ref 3 [] true (dM s3.1)), (4, .val (i64 s3.2)), (5, .ref 5 [] true (dI (s9.1 ++ [v15]))), (11, .val (i64 (v2.length : Int))), (12, .val (i64 s3.2)), (17, .val (i64 (a0.length : Int))), (18, .val (i64 (w64 (s9.2 + 1))))] rfl ?_ ?_
  · simp <;> simp [ieq, ilt, ile]
  cases hx9o
  exact ⟨_, rfl, Fits.of rfl⟩

theorem i_field_dot_ok {a0 : Int} {a1 : List Int} {a2 : List Int} {r : Int} (h : i_field_dot a0 a1 a2 = some r) :
    VCall Try.prog 245 [i64 a0, dI a1, dI a2] [.sc (i64 r)] := by
  unfold i_field_dot at h
  refine VCall.enter Try.call245 Try.func245 rfl 29 Try.ntmps245 (by simp) [.tmp 6] rfl ?_
  show VW _ _ _ (mk [(0, .val (i64 a0)), (1, .val (dI a1)), (2, .val (dI a2))]) _
  -- region 0
  refine VW.ws tau_ok Sound.none [some 6] [(0, .val (i64 a0)), (1, .val (dI a1)), (2, .val (dI a2))] rfl ?_ ?_
  · simp <;> simp [ieq, ilt, ile]
  -- region 1
  refine VW.ws tau_ok Sound.none [some 7] [(0, .val (i64 a0)), (1, .val (dI a1)), (2, .val (dI a2)), (7, .val (i64 0))] rfl ?_ ?_
  · simp <;> simp [ieq, ilt, ile]
  refine VW.sqc fun K1 hK1 hCK1 => ?_
  -- region 2
  refine VW.ws tau_ok Sound.none [some 10, some 11, some 12] [(0, .val (i64 a0)), (2, .val (dI a2)), (7, .val (i64 0)), (10, .val (dI a1)), (11, .val (i64 (a1.length : Int))), (12, .val (i64 0))] rfl ?_ ?_
  · simp <;> simp [ieq, ilt, ile]
  obtain ⟨x2, hx2, h⟩ := bind_some h
  refine VW.tlE [(0, .val (i64 a0)), (7, .val (i64 x2))] (hCK1) ?_ ?_
  · clear hx2
    refine hK1 _ ?_
    -- region 7
    obtain ⟨v9, hv9, h⟩ := bind_some h
    refine VW.ws tau_ok (Sound.none.add 28 (i_field_num_ok hv9) rfl) [some 26, some 27, some 28, some 6] [(6, .val (i64 v9))] rfl ?_ ?_
    · simp <;> simp [ieq, ilt, ile]
    cases h
    refine VW.ret ?_
    simp [Post, PostM, PostC, PostC2, Nx, Bk]
  refine VW.block ?_
  refine VW.loopF (i_field_dot_L0 a1 a2) (fun s2 => [(0, .val (i64 a0)), (2, .val (dI a2)), (7, .val (i64 s2.1)), (10, .val (dI a1)), (11, .val (i64 (a1.length : Int))), (12, .val (i64 s2.2))]) hx2 (Fits.of rfl) ?_
  clear hx2
  intro s2 ox2 hx2o hx2b
  unfold i_field_dot_L0 at hx2o
  -- region 3
  refine VW.ws tau_ok Sound.none [some 13] [(0, .val (i64 a0)), (2, .val (dI a2)), (7, .val (i64 s2.1)), (10, .val (dI a1)), (11, .val (i64 (a1.length : Int))), (12, .val (i64 s2.2)), (13, .val (.bool (ilt s2.2 (a1.length : Int))))] rfl ?_ ?_
  · simp <;> simp [ieq, ilt, ile]
  refine VW.sqc fun K4 hK4 hCK4 => ?_
  refine VW.cond rfl (fun hb5 => ?_) (fun hb5 => ?_)
  rotate_left
  ·
    replace hb5 : ¬ (s2.2 < (a1.length : Int)) := by simpa [ieq, ilt, ile] using hb5
    rw [if_neg hb5] at hx2o
    refine VW.exit ?_
    cases hx2o
    have hq := hx2b _ rfl
    subst hq
    exact Fits.of rfl
  replace hb5 : s2.2 < (a1.length : Int) := by simpa [ieq, ilt, ile] using hb5
  rw [if_pos hb5] at hx2o
  refine VW.skip ?_
  refine hK4 _ ?_
  refine VW.sqc fun K6 hK6 hCK6 => ?_
  refine VW.block ?_
  -- region 4
  obtain ⟨v7, hv7, hx2o⟩ := bind_some hx2o
  obtain ⟨hv7a, hv7b, hv7c, hv7d⟩ := idx_some hv7
  refine VW.ws tau_ok Sound.none [some 14, some 15, some 16, some 8, some 9] [(0, .val (i64 a0)), (2, .val (dI a2)), (7, .val (i64 s2.1)), (8, .val (i64 s2.2)), (9, .val (i64 v7)), (10, .val (dI a1)), (11, .val (i64 (a1.length : Int))), (12, .val (i64 s2.2))] rfl ?_ ?_
  · simp [hv7a, hv7b, hv7c, hv7d] <;> simp [ieq, ilt, ile]
  -- region 5
  obtain ⟨v8, hv8, hx2o⟩ := bind_some hx2o
  obtain ⟨hv8a, hv8b, hv8c, hv8d⟩ := idx_some hv8
  refine VW.wr tau_ok Sound.none [some 17, some 18, some 19, some 20, some 21, some 22, some 23, some 24, some 7] [(0, .val (i64 a0)), (2, .val (dI a2)), (7, .val (i64 (w64 (s2.1 + (w64 (v7 * v8)))))), (10, .val (dI a1)), (11, .val (i64 (a1.length : Int))), (12, .val (i64 s2.2))] rfl ?_ ?_
  · simp [hv8a, hv8b, hv8c, hv8d] <;> simp [ieq, ilt, ile]
  refine hK6 _ ?_
  -- region 6
  refine VW.wr tau_ok Sound.none [some 25, some 12] [(0, .val (i64 a0)), (2, .val (dI a2)), (7, .val (i64 (w64 (s2.1 + (w64 (v7 * v8)))))), (10, .val (dI a1)), (11, .val (i64 (a1.length : Int))), (12, .val (i64 (w64 (s2.2 + 1))))] rfl ?_ ?_
  · simp <;> simp [ieq, ilt, ile]
  cases hx2o
  exact ⟨_, rfl, Fits.of rfl⟩

theorem i_field_apply_ok {a0 : Int} {a1 : List (List Int)} {a2 : List Int} {r : List Int} (h : i_field_apply a0 a1 a2 = some r) :
    VCall Try.prog 188 [i64 a0, dM a1, dI a2] [.own true (dI r)] := by
  unfold i_field_apply at h
  refine VCall.enter Try.call188 Try.func188 rfl 26 Try.ntmps188 (by simp) [.tmp 6] rfl ?_
  show VW _ _ _ (mk [(0, .val (i64 a0)), (1, .val (dM a1)), (2, .val (dI a2))]) _
  -- region 0
  refine VW.ws tau_ok Sound.none [some 6] [(0, .val (i64 a0)), (1, .val (dM a1)), (2, .val (dI a2))] rfl ?_ ?_
  · simp <;> simp [ieq, ilt, ile]
  -- region 1
  refine VW.ws tau_ok Sound.none [some 10, some 7] [(0, .val (i64 a0)), (1, .val (dM a1)), (2, .val (dI a2)), (7, .ref 7 [] true (dI []))] rfl ?_ ?_
  · simp <;> simp [ieq, ilt, ile]
  refine VW.sqc fun K1 hK1 hCK1 => ?_
  -- region 2
  refine VW.ws tau_ok Sound.none [some 11, some 12, some 13] [(0, .val (i64 a0)), (2, .val (dI a2)), (7, .ref 7 [] true (dI [])), (11, .val (dM a1)), (12, .val (i64 (a1.length : Int))), (13, .val (i64 0))] rfl ?_ ?_
  · simp <;> simp [ieq, ilt, ile]
  obtain ⟨x2, hx2, h⟩ := bind_some h
  refine VW.tlE [(7, .ref 7 [] true (dI x2))] (hCK1) ?_ ?_
  · clear hx2
    refine hK1 _ ?_
    -- region 7
    refine VW.ws tau_ok Sound.none [some 25, some 6] [(6, .ref 6 [] true (dI x2))] rfl ?_ ?_
    · simp <;> simp [ieq, ilt, ile]
    cases h
    refine VW.ret ?_
    simp [Post, PostM, PostC, PostC2, Nx, Bk]
  refine VW.block ?_
  refine VW.loopF (i_field_apply_L0 a0 a1 a2) (fun s2 => [(0, .val (i64 a0)), (2, .val (dI a2)), (7, .ref 7 [] true (dI s2.1)), (11, .val (dM a1)), (12, .val (i64 (a1.length : Int))), (13, .val (i64 s2.2))]) hx2 (Fits.of rfl) ?_
  clear hx2
  intro s2 ox2 hx2o hx2b
  unfold i_field_apply_L0 at hx2o
  -- region 3
  refine VW.ws tau_ok Sound.none [some 14] [(0, .val (i64 a0)), (2, .val (dI a2)), (7, .ref 7 [] true (dI s2.1)), (11, .val (dM a1)), (12, .val (i64 (a1.length : Int))), (13, .val (i64 s2.2)), (14, .val (.bool (ilt s2.2 (a1.length : Int))))] rfl ?_ ?_
  · simp <;> simp [ieq, ilt, ile]
  refine VW.sqc fun K4 hK4 hCK4 => ?_
  refine VW.cond rfl (fun hb5 => ?_) (fun hb5 => ?_)
  rotate_left
  ·
    replace hb5 : ¬ (s2.2 < (a1.length : Int)) := by simpa [ieq, ilt, ile] using hb5
    rw [if_neg hb5] at hx2o
    refine VW.exit ?_
    cases hx2o
    have hq := hx2b _ rfl
    subst hq
    exact Fits.of rfl
  replace hb5 : s2.2 < (a1.length : Int) := by simpa [ieq, ilt, ile] using hb5
  rw [if_pos hb5] at hx2o
  refine VW.skip ?_
  refine hK4 _ ?_
  refine VW.sqc fun K6 hK6 hCK6 => ?_
  refine VW.block ?_
  -- region 4
  obtain ⟨v7, hv7, hx2o⟩ := bind_some hx2o
  obtain ⟨hv7a, hv7b, hv7c, hv7d⟩ := idx_some hv7
  refine VW.ws tau_ok Sound.none [some 15, some 16, some 9] [(0, .val (i64 a0)), (2, .val (dI a2)), (7, .ref 7 [] true (dI s2.1)), (9, .val (dI v7)), (11, .val (dM a1)), (12, .val (i64 (a1.length : Int))), (13, .val (i64 s2.2))] rfl ?_ ?_
  · simp [hv7a, hv7b, hv7c, hv7d] <;> simp [ieq, ilt, ile]
  -- region 5
  obtain ⟨v8, hv8, hx2o⟩ := bind_some hx2o
  obtain ⟨hc9, hx2o⟩ := chk_some hx2o
  have hc9s := hc9
  try simp at hc9s
  refine VW.wr tau_ok (Sound.none.add 21 (i_field_dot_ok hv8) rfl) [some 17, some 18, some 19, some 20, some 21, some 22, some 23, some 7] [(0, .val (i64 a0)), (2, .val (dI a2)), (7, .ref 7 [] true (dI (s2.1 ++ [v8]))), (11, .val (dM a1)), (12, .val (i64 (a1.length : Int))), (13, .val (i64 s2.2))] rfl ?_ ?_
  · simp [hc9, hc9s] <;> simp [ieq, ilt, ile]
  refine hK6 _ ?_
  -- region 6
  refine VW.wr tau_ok Sound.none [some 24, some 13] [(0, .val (i64 a0)), (2, .val (dI a2)), (7, .ref 7 [] true (dI (s2.1 ++ [v8]))), (11, .val (dM a1)), (12, .val (i64 (a1.length : Int))), (13, .val (i64 (w64 (s2.2 + 1))))] rfl ?_ ?_
  · simp <;> simp [ieq, ilt, ile]
  cases hx2o
  exact ⟨_, rfl, Fits.of rfl⟩

theorem i_field_times_ok {a0 : Int} {a1 : List (List Int)} {a2 : List (List Int)} {r : List (List Int)} (h : i_field_times a0 a1 a2 = some r) :
    VCall Try.prog 99 [i64 a0, dM a1, dM a2] [.own true (dM r)] := by
  unfold i_field_times at h
  refine VCall.enter Try.call99 Try.func99 rfl 29 Try.ntmps99 (by simp) [.tmp 6] rfl ?_
  show VW _ _ _ (mk [(0, .val (i64 a0)), (1, .val (dM a1)), (2, .val (dM a2))]) _
  -- region 0
  refine VW.ws tau_ok Sound.none [some 6] [(0, .val (i64 a0)), (1, .val (dM a1)), (2, .val (dM a2))] rfl ?_ ?_
  · simp <;> simp [ieq, ilt, ile]
  -- region 1
  obtain ⟨v1, hv1, h⟩ := bind_some h
  refine VW.ws tau_ok (Sound.none.add 12 (i_transpose_ok hv1) rfl) [some 11, some 12, some 13, some 7, some 8] [(0, .val (i64 a0)), (1, .val (dM a1)), (7, .ref 7 [] true (dM v1)), (8, .ref 8 [] true (dM []))] rfl ?_ ?_
  · simp <;> simp [ieq, ilt, ile]
  refine VW.sqc fun K2 hK2 hCK2 => ?_
  -- region 2
  refine VW.ws tau_ok Sound.none [some 14, some 15, some 16] [(0, .val (i64 a0)), (7, .ref 7 [] true (dM v1)), (8, .ref 8 [] true (dM [])), (14, .val (dM a1)), (15, .val (i64 (a1.length : Int))), (16, .val (i64 0))] rfl ?_ ?_
  · simp <;> simp [ieq, ilt, ile]
  obtain ⟨x3, hx3, h⟩ := bind_some h
  refine VW.tlE [(8, .ref 8 [] true (dM x3))] (hCK2) ?_ ?_
  · clear hx3
    refine hK2 _ ?_
    -- region 7
    refine VW.ws tau_ok Sound.none [some 28, some 6] [(6, .ref 6 [] true (dM x3))] rfl ?_ ?_
    · simp <;> simp [ieq, ilt, ile]
    cases h
    refine VW.ret ?_
    simp [Post, PostM, PostC, PostC2, Nx, Bk]
  refine VW.block ?_
  refine VW.loopF (i_field_times_L0 a0 a1 v1) (fun s3 => [(0, .val (i64 a0)), (7, .ref 7 [] true (dM v1)), (8, .ref 8 [] true (dM s3.1)), (14, .val (dM a1)), (15, .val (i64 (a1.length : Int))), (16, .val (i64 s3.2))]) hx3 (Fits.of rfl) ?_
  clear hx3
  intro s3 ox3 hx3o hx3b
  unfold i_field_times_L0 at hx3o
  -- region 3
  refine VW.ws tau_ok Sound.none [some 17] [(0, .val (i64 a0)), (7, .ref 7 [] true (dM v1)), (8, .ref 8 [] true (dM s3.1)), (14, .val (dM a1)), (15, .val (i64 (a1.length : Int))), (16, .val (i64 s3.2)), (17, .val (.bool (ilt s3.2 (a1.length : Int))))] rfl ?_ ?_
  · simp <;> simp [ieq, ilt, ile]
  refine VW.sqc fun K5 hK5 hCK5 => ?_
  refine VW.cond rfl (fun hb6 => ?_) (fun hb6 => ?_)
  rotate_left
  ·
    replace hb6 : ¬ (s3.2 < (a1.length : Int)) := by simpa [ieq, ilt, ile] using hb6
    rw [if_neg hb6] at hx3o
    refine VW.exit ?_
    cases hx3o
    have hq := hx3b _ rfl
    subst hq
    exact Fits.of rfl
  replace hb6 : s3.2 < (a1.length : Int) := by simpa [ieq, ilt, ile] using hb6
  rw [if_pos hb6] at hx3o
  refine VW.skip ?_
  refine hK5 _ ?_
  refine VW.sqc fun K7 hK7 hCK7 => ?_
  refine VW.block ?_
  -- region 4
  obtain ⟨v8, hv8, hx3o⟩ := bind_some hx3o
  obtain ⟨hv8a, hv8b, hv8c, hv8d⟩ := idx_some hv8
  refine VW.ws tau_ok Sound.none [some 18, some 19, some 10] [(0, .val (i64 a0)), (7, .ref 7 [] true (dM v1)), (8, .ref 8 [] true (dM s3.1)), (10, .val (dI v8)), (14, .val (dM a1)), (15, .val (i64 (a1.length : Int))), (16, .val (i64 s3.2))] rfl ?_ ?_
  · simp [hv8a, hv8b, hv8c, hv8d] <;> simp [ieq, ilt, ile]
  -- region 5
  obtain ⟨v9, hv9, hx3o⟩ := bind_some hx3o
  obtain ⟨hc10, hx3o⟩ := chk_some hx3o
  have hc10s := hc10
  try simp at hc10s
  refine VW.wr tau_ok (Sound.none.add 24 (i_field_apply_ok hv9) rfl) [some 20, some 21, some 22, some 23, some 24, some 25, some 26, some 8] [(0, .val (i64 a0)), (7, .ref 7 [] true (dM v1)), (8, .ref 8 [] true (dM (s3.1 ++ [v9]))), (14, .val (dM a1)), (15, .val (i64 (a1.length : Int))), (16, .val (i64 s3.2))] rfl ?_ ?_
  · simp [hc10, hc10s] <;> simp [ieq, ilt, ile]
  refine hK7 _ ?_
  -- region 6
  refine VW.wr tau_ok Sound.none [some 27, some 16] [(0, .val (i64 a0)), (7, .ref 7 [] true (dM v1)), (8, .ref 8 [] true (dM (s3.1 ++ [v9]))), (14, .val (dM a1)), (15, .val (i64 (a1.length : Int))), (16, .val (i64 (w64 (s3.2 + 1))))] rfl ?_ ?_
  · simp <;> simp [ieq, ilt, ile]
  cases hx3o
  exact ⟨_, rfl, Fits.of rfl⟩

theorem i_PowerMatrix_ok {a0 : Int} {a1 : List (List Int)} {a2 : Int} {r : (List (List Int)) × Int} (h : i_PowerMatrix a0 a1 a2 = some r) :
    VCall Try.prog 23 [i64 a0, dM a1, i64 a2] [.own true (dM r.1), .sc (i64 r.2)] := by
  unfold i_PowerMatrix at h
  refine VCall.enter Try.call23 Try.func23 rfl 41 Try.ntmps23 (by simp) [.tmp 6, .tmp 7] rfl ?_
  show VW _ _ _ (mk [(0, .val (i64 a0)), (1, .val (dM a1)), (2, .val (i64 a2))]) _
  -- region 0
  refine VW.ws tau_ok Sound.none [some 6, some 7] [(0, .val (i64 a0)), (1, .val (dM a1)), (2, .val (i64 a2))] rfl ?_ ?_
  · simp <;> simp [ieq, ilt, ile]
  refine VW.sqc fun K1 hK1 hCK1 => ?_
  -- region 1
  obtain ⟨v2, hv2, h⟩ := bind_some h
  refine VW.ws tau_ok (Sound.none.add 13 (i_checkSquare_ok hv2) rfl) [some 11, some 12, some 13, some 8] [(0, .val (i64 a0)), (1, .val (dM a1)), (2, .val (i64 a2)), (8, .val (i64 v2))] rfl ?_ ?_
  · simp <;> simp [ieq, ilt, ile]
  -- region 2
  refine VW.ws tau_ok Sound.none [some 14, some 15] [(0, .val (i64 a0)), (1, .val (dM a1)), (2, .val (i64 a2)), (8, .val (i64 v2)), (15, .val (.bool (!(ieq v2 0))))] rfl ?_ ?_
  · simp <;> simp [ieq, ilt, ile]
  refine VW.cond rfl (fun hb3 => ?_) (fun hb3 => ?_)
  ·
    replace hb3 : ¬ v2 = 0 := by simpa [ieq, ilt, ile] using hb3
    rw [if_pos hb3] at h
    -- region 3
    refine VW.ws tau_ok Sound.none [some 16, some 6, some 7] [(6, .ref 6 [] true (.list [])), (7, .val (i64 v2))] rfl ?_ ?_
    · simp <;> simp [ieq, ilt, ile]
    cases h
    refine VW.ret ?_
    simp [Post, PostM, PostC, PostC2, Nx, Bk]
  replace hb3 : ¬ (¬ v2 = 0) := by simpa [ieq, ilt, ile] using hb3
  rw [if_neg hb3] at h
  refine VW.skip ?_
  refine hK1 _ ?_
  refine VW.sqc fun K4 hK4 hCK4 => ?_
  -- region 4
  obtain ⟨v5, hv5, h⟩ := bind_some h
  refine VW.ws tau_ok (Sound.none.add 18 (i_inRange_ok hv5) rfl) [some 17, some 18, some 19] [(0, .val (i64 a0)), (1, .val (dM a1)), (2, .val (i64 a2)), (19, .val (.bool (!v5)))] rfl ?_ ?_
  · simp <;> simp [ieq, ilt, ile]
  refine VW.cond rfl (fun hb6 => ?_) (fun hb6 => ?_)
  ·
    replace hb6 : v5 = false := by simpa [ieq, ilt, ile] using hb6
    rw [if_pos hb6] at h
    -- region 5
    refine VW.ws tau_ok Sound.none [some 6, some 7] [(6, .ref 6 [] true (.list [])), (7, .val (i64 2))] rfl ?_ ?_
    · simp <;> simp [ieq, ilt, ile]
    cases h
    refine VW.ret ?_
    simp [Post, PostM, PostC, PostC2, Nx, Bk]
  replace hb6 : ¬ (v5 = false) := by simpa [ieq, ilt, ile] using hb6
  rw [if_neg hb6] at h
  refine VW.skip ?_
  refine hK4 _ ?_
  -- region 6
  obtain ⟨v7, hv7, h⟩ := bind_some h
  obtain ⟨v8, hv8, h⟩ := bind_some h
  refine VW.ws tau_ok ((Sound.none.add 22 (i_unit_ok hv7) rfl).add 24 (i_cloneRows_ok hv8) rfl) [some 20, some 21, some 22, some 23, some 24, some 9, some 10] [(0, .val (i64 a0)), (2, .val (i64 a2)), (9, .ref 9 [] true (dM v7)), (10, .ref 10 [] true (dM v8))] rfl ?_ ?_
  · simp <;> simp [ieq, ilt, ile]
  refine VW.sqc fun K9 hK9 hCK9 => ?_
  obtain ⟨x10, hx10, h⟩ := bind_some h
  refine VW.tlE [(9, .ref 9 [] true (dM x10))] (hCK9) ?_ ?_
  · clear hx10
    refine hK9 _ ?_
    -- region 12
    refine VW.ws tau_ok Sound.none [some 40, some 6, some 7] [(6, .ref 6 [] true (dM x10)), (7, .val (i64 0))] rfl ?_ ?_
    · simp <;> simp [ieq, ilt, ile]
    cases h
    refine VW.ret ?_
    simp [Post, PostM, PostC, PostC2, Nx, Bk]
  refine VW.block ?_
  refine VW.loopF (i_PowerMatrix_L0 a0) (fun s10 => [(0, .val (i64 a0)), (2, .val (i64 s10.1)), (9, .ref 9 [] true (dM s10.2.1)), (10, .ref 10 [] true (dM s10.2.2))]) hx10 (Fits.of rfl) ?_
  clear hx10
  intro s10 ox10 hx10o hx10b
  unfold i_PowerMatrix_L0 at hx10o
  refine VW.sqc fun K12 hK12 hCK12 => ?_
  -- region 7
  refine VW.ws tau_ok Sound.none [some 25, some 26] [(0, .val (i64 a0)), (2, .val (i64 s10.1)), (9, .ref 9 [] true (dM s10.2.1)), (10, .ref 10 [] true (dM s10.2.2)), (26, .val (.bool (ilt 0 s10.1)))] rfl ?_ ?_
  · simp <;> simp [ieq, ilt, ile]
  refine VW.cond rfl (fun hb13 => ?_) (fun hb13 => ?_)
  rotate_left
  ·
    replace hb13 : ¬ (0 < s10.1) := by simpa [ieq, ilt, ile] using hb13
    rw [if_neg hb13] at hx10o
    refine VW.exit ?_
    cases hx10o
    have hq := hx10b _ rfl
    subst hq
    exact Fits.of rfl
  replace hb13 : 0 < s10.1 := by simpa [ieq, ilt, ile] using hb13
  rw [if_pos hb13] at hx10o
  refine VW.skip ?_
  refine hK12 _ ?_
  refine VW.sqc fun K14 hK14 hCK14 => ?_
  refine VW.block ?_
  refine VW.sqc fun K15 hK15 hCK15 => ?_
  -- region 9
  refine VW.ws tau_ok Sound.none [some 29, some 30, some 31] [(0, .val (i64 a0)), (2, .val (i64 s10.1)), (9, .ref 9 [] true (dM s10.2.1)), (10, .ref 10 [] true (dM s10.2.2)), (31, .val (.bool (ieq (s10.1.tmod 2) 1)))] rfl ?_ ?_
  · simp <;> simp [ieq, ilt, ile]
  obtain ⟨x16, hx16, hx10o⟩ := bind_some hx10o
  refine VW.tlE [(0, .val (i64 a0)), (2, .val (i64 s10.1)), (9, .ref 9 [] true (dM x16)), (10, .ref 10 [] true (dM s10.2.2))] (hCK15) ?_ ?_
  · clear hx16
    refine hK15 _ ?_
    -- region 11
    obtain ⟨v20, hv20, hx10o⟩ := bind_some hx10o
    refine VW.wr tau_ok (Sound.none.add 39 (i_field_times_ok hv20) rfl) [some 36, some 37, some 38, some 39, some 10] [(0, .val (i64 a0)), (2, .val (i64 s10.1)), (9, .ref 9 [] true (dM x16)), (10, .ref 10 [] true (dM v20))] rfl ?_ ?_
    · simp <;> simp [ieq, ilt, ile]
    refine hK14 _ ?_
    -- region 8
    refine VW.wr tau_ok Sound.none [some 27, some 28, some 2] [(0, .val (i64 a0)), (2, .val (i64 (w64 (s10.1.tdiv 2)))), (9, .ref 9 [] true (dM x16)), (10, .ref 10 [] true (dM v20))] rfl ?_ ?_
    · simp <;> simp [ieq, ilt, ile]
    cases hx10o
    exact ⟨_, rfl, Fits.of rfl⟩
  refine VW.cond rfl (fun hb18 => ?_) (fun hb18 => ?_)
  rotate_left
  ·
    replace hb18 : ¬ ((s10.1.tmod 2) = 1) := by simpa [ieq, ilt, ile] using hb18
    rw [if_neg hb18] at hx16
    refine VW.skip ?_
    cases hx16
    exact Fits.of rfl
  replace hb18 : (s10.1.tmod 2) = 1 := by simpa [ieq, ilt, ile] using hb18
  rw [if_pos hb18] at hx16
  -- region 10
  obtain ⟨v19, hv19, hx16⟩ := bind_some hx16
  refine VW.wr tau_ok (Sound.none.add 35 (i_field_times_ok hv19) rfl) [some 32, some 33, some 34, some 35, some 9] [(0, .val (i64 a0)), (2, .val (i64 s10.1)), (9, .ref 9 [] true (dM v19)), (10, .ref 10 [] true (dM s10.2.2))] rfl ?_ ?_
  · simp <;> simp [ieq, ilt, ile]
  cases hx16
  exact Fits.of rfl
end Go.Vam
