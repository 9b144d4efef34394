import Derived.Test.YtomgbldkoehplaaR7T
import Derived.Test.YtomgbldkoehplaaFnK
import Derived.Test.YtomgbldkoehplaaR7IW1
import Derived.Test.YtomgbldkoehplaaR7IW2
namespace Go.Vam
open Go Go.RowKit Go.Proofs
set_option maxRecDepth 100000
set_option linter.unusedSimpArgs false
set_option linter.unusedVariables false

theorem i_MultiplyMatrices_ok {a0 : Int} {a1 : List (List Int)} {a2 : List (List Int)} {r : (List (List Int)) × Int} (h : i_MultiplyMatrices a0 a1 a2 = some r) :
    VCall Try.prog 24 [i64 a0, dM a1, dM a2] [.own true (dM r.1), .sc (i64 r.2)] := by
  unfold i_MultiplyMatrices at h
  refine VCall.enter Try.call24 Try.func24 rfl 28 Try.ntmps24 (by simp) [.tmp 6, .tmp 7] rfl ?_
  show VW _ _ _ (mk [(0, .val (i64 a0)), (1, .val (dM a1)), (2, .val (dM a2))]) _
  -- region 0
  refine VW.ws tau_ok Sound.none [some 6, some 7] [(0, .val (i64 a0)), (1, .val (dM a1)), (2, .val (dM a2))] rfl ?_ ?_
  · simp <;> simp [ieq, ilt, ile]
  refine VW.sqc fun K1 hK1 hCK1 => ?_
  -- region 1
  obtain ⟨v2, hv2, h⟩ := bind_some h
  refine VW.ws tau_ok (Sound.none.add 13 (i_checkMatrices_ok hv2) rfl) [some 9, some 10, some 11, some 12, some 13, some 8] [(0, .val (i64 a0)), (1, .val (dM a1)), (2, .val (dM a2)), (8, .val (i64 v2))] rfl ?_ ?_
  · simp <;> simp [ieq, ilt, ile]
  -- region 2
  refine VW.ws tau_ok Sound.none [some 14, some 15] [(0, .val (i64 a0)), (1, .val (dM a1)), (2, .val (dM a2)), (8, .val (i64 v2)), (15, .val (.bool (!(ieq v2 0))))] rfl ?_ ?_
  · simp <;> simp [ieq, ilt, ile]
  refine VW.cond rfl (fun hb3 => ?_) (fun hb3 => ?_)
  ·
    replace hb3 : ¬ v2 = 0 := by simpa [ieq, ilt, ile] using hb3
    rw [if_pos hb3] at h
    -- region 3
    refine VW.ws tau_ok Sound.none [some 16, some 6, some 7] [(6, .ref 6 [] true (.list [])), (7, .val (i64 v2))] rfl ?_ ?_
    · simp <;> simp [ieq, ilt, ile]
    cases h
    refine VW.ret ?_
    simp [Post, PostM, PostC, PostC2, Nx, Bk]
  replace hb3 : ¬ (¬ v2 = 0) := by simpa [ieq, ilt, ile] using hb3
  rw [if_neg hb3] at h
  refine VW.skip ?_
  refine hK1 _ ?_
  refine VW.sqc fun K4 hK4 hCK4 => ?_
  -- region 4
  obtain ⟨v5, hv5, h⟩ := bind_some h
  obtain ⟨hv5a, hv5b, hv5c, hv5d⟩ := idx_some hv5
  replace hv5b : 0 < a1.length := hv5b
  replace hv5c : a1[0]? = some v5 := hv5c
  replace hv5d : ∀ h, a1[0]'h = v5 := hv5d
  refine VW.ws tau_ok Sound.none [some 17, some 18, some 19, some 20, some 21, some 22, some 23] [(0, .val (i64 a0)), (1, .val (dM a1)), (2, .val (dM a2)), (23, .val (.bool (!(ieq (v5.length : Int) (a2.length : Int)))))] rfl ?_ ?_
  · simp [hv5a, hv5b, hv5c, hv5d] <;> simp [ieq, ilt, ile]
  refine VW.cond rfl (fun hb6 => ?_) (fun hb6 => ?_)
  ·
    replace hb6 : ¬ (v5.length : Int) = (a2.length : Int) := by simpa [ieq, ilt, ile] using hb6
    rw [if_pos hb6] at h
    -- region 5
    refine VW.ws tau_ok Sound.none [some 6, some 7] [(6, .ref 6 [] true (.list [])), (7, .val (i64 2))] rfl ?_ ?_
    · simp <;> simp [ieq, ilt, ile]
    cases h
    refine VW.ret ?_
    simp [Post, PostM, PostC, PostC2, Nx, Bk]
  replace hb6 : ¬ (¬ (v5.length : Int) = (a2.length : Int)) := by simpa [ieq, ilt, ile] using hb6
  rw [if_neg hb6] at h
  refine VW.skip ?_
  refine hK4 _ ?_
  -- region 6
  obtain ⟨v7, hv7, h⟩ := bind_some h
  refine VW.ws tau_ok (Sound.none.add 27 (i_field_times_ok hv7) rfl) [some 24, some 25, some 26, some 27, some 6, some 7] [(6, .ref 6 [] true (dM v7)), (7, .val (i64 0))] rfl ?_ ?_
  · simp <;> simp [ieq, ilt, ile]
  cases h
  refine VW.ret ?_
  simp [Post, PostM, PostC, PostC2, Nx, Bk]

theorem l_unit5_ok {a0 : Int} {r : List (List Int)} (h : l_unit5 a0 = some r) :
    VCall Try.prog 25 [i64 a0] [.own true (dM r)] := by
  unfold l_unit5 at h
  refine VCall.enter Try.call25 Try.func25 rfl 22 Try.ntmps25 (by simp) [.tmp 2] rfl ?_
  show VW _ _ _ (mk [(0, .val (i64 a0))]) _
  -- region 0
  refine VW.ws tau_ok Sound.none [some 2] [(0, .val (i64 a0))] rfl ?_ ?_
  · simp <;> simp [ieq, ilt, ile]
  -- region 1
  refine VW.ws tau_ok Sound.none [some 6, some 3] [(0, .val (i64 a0)), (3, .ref 3 [] true (dM []))] rfl ?_ ?_
  · simp <;> simp [ieq, ilt, ile]
  refine VW.sqc fun K1 hK1 hCK1 => ?_
  -- region 2
  refine VW.ws tau_ok Sound.none [some 4] [(0, .val (i64 a0)), (3, .ref 3 [] true (dM [])), (4, .val (i64 0))] rfl ?_ ?_
  · simp <;> simp [ieq, ilt, ile]
  obtain ⟨x2, hx2, h⟩ := bind_some h
  refine VW.tlE [(3, .ref 3 [] true (dM x2))] (hCK1) ?_ ?_
  · clear hx2
    refine hK1 _ ?_
    -- region 8
    refine VW.ws tau_ok Sound.none [some 21, some 2] [(2, .ref 2 [] true (dM x2))] rfl ?_ ?_
    · simp <;> simp [ieq, ilt, ile]
    cases h
    refine VW.ret ?_
    simp [Post, PostM, PostC, PostC2, Nx, Bk]
  refine VW.block ?_
  refine VW.loopF (l_unit5_L0 a0) (fun s2 => [(0, .val (i64 a0)), (3, .ref 3 [] true (dM s2.1)), (4, .val (i64 s2.2))]) hx2 (Fits.of rfl) ?_
  clear hx2
  intro s2 ox2 hx2o hx2b
  unfold l_unit5_L0 at hx2o
  refine VW.sqc fun K4 hK4 hCK4 => ?_
  -- region 3
  refine VW.ws tau_ok Sound.none [some 7, some 8, some 9] [(0, .val (i64 a0)), (3, .ref 3 [] true (dM s2.1)), (4, .val (i64 s2.2)), (9, .val (.bool (ilt s2.2 a0)))] rfl ?_ ?_
  · simp <;> simp [ieq, ilt, ile]
  refine VW.cond rfl (fun hb5 => ?_) (fun hb5 => ?_)
  rotate_left
  ·
    replace hb5 : ¬ (s2.2 < a0) := by simpa [ieq, ilt, ile] using hb5
    rw [if_neg hb5] at hx2o
    refine VW.exit ?_
    cases hx2o
    have hq := hx2b _ rfl
    subst hq
    exact Fits.of rfl
  replace hb5 : s2.2 < a0 := by simpa [ieq, ilt, ile] using hb5
  rw [if_pos hb5] at hx2o
  refine VW.skip ?_
  refine hK4 _ ?_
  refine VW.sqc fun K6 hK6 hCK6 => ?_
  refine VW.block ?_
  -- region 5
  obtain ⟨hc7, hx2o⟩ := chk_some hx2o
  have hc7s := hc7
  try simp at hc7s
  refine VW.ws tau_ok Sound.none [some 12, some 13, some 5] [(0, .val (i64 a0)), (3, .ref 3 [] true (dM s2.1)), (4, .val (i64 s2.2)), (5, .ref 5 [] true (dI (List.replicate a0.toNat 0)))] rfl ?_ ?_
  · simp [hc7, hc7s] <;> simp [ieq, ilt, ile]
  obtain ⟨l8, hl8, hx2o⟩ := bind_some hx2o
  rw [Option.some.inj hl8]
  -- region 6
  obtain ⟨v9, hv9, hx2o⟩ := bind_some hx2o
  obtain ⟨hv9a, hv9b, hv9c, hv9d⟩ := idx_some hv9
  refine VW.ws tau_ok Sound.none [some 14, some 15, some 16, none] [(0, .val (i64 a0)), (3, .ref 3 [] true (dM s2.1)), (4, .val (i64 s2.2)), (5, .ref 5 [] true (dI (l8.set s2.2.toNat 1)))] rfl ?_ ?_
  · simp [hv9a, hv9b, hv9c, hv9d] <;> simp [ieq, ilt, ile]
  -- region 7
  obtain ⟨hc10, hx2o⟩ := chk_some hx2o
  have hc10s := hc10
  try simp at hc10s
  refine VW.wr tau_ok Sound.none [some 17, some 18, some 19, some 20, some 3] [(0, .val (i64 a0)), (3, .ref 3 [] true (dM (s2.1 ++ [l8.set s2.2.toNat 1]))), (4, .val (i64 s2.2))] rfl ?_ ?_
  · simp [hc10, hc10s] <;> simp [ieq, ilt, ile]
  refine hK6 _ ?_
  -- region 4
  refine VW.wr tau_ok Sound.none [some 10, some 11, some 4] [(0, .val (i64 a0)), (3, .ref 3 [] true (dM (s2.1 ++ [l8.set s2.2.toNat 1]))), (4, .val (i64 (w64 (s2.2 + 1))))] rfl ?_ ?_
  · simp <;> simp [ieq, ilt, ile]
  cases hx2o
  exact ⟨_, rfl, Fits.of rfl⟩

theorem l_FnInverses_ok {a0 : List Int} {r : Bool} (h : l_FnInverses a0 = some r) :
    VCall Try.prog 3 [.list (a0.map (D.int .u8))] [.sc (.bool r)] := by
  unfold l_FnInverses at h
  refine VCall.enter Try.call3 Try.func3 rfl 169 Try.ntmps3 (by simp) [.tmp 2] rfl ?_
  show VW _ _ _ (mk [(0, .val (.list (a0.map (D.int .u8))))]) _
  -- region 0
  refine VW.ws tau_ok Sound.none [some 2] [(0, .val (.list (a0.map (D.int .u8))))] rfl ?_ ?_
  · simp <;> simp [ieq, ilt, ile]
  refine VW.sqc fun K1 hK1 hCK1 => ?_
  -- region 1
  obtain ⟨v2, hv2, h⟩ := bind_some h
  refine VW.ws tau_ok (Sound.none.add 27 (l_big_ok hv2) rfl) [some 26, some 27] [(0, .val (.list (a0.map (D.int .u8)))), (27, .val (.bool v2))] rfl ?_ ?_
  · simp <;> simp [ieq, ilt, ile]
  refine VW.cond rfl (fun hb3 => ?_) (fun hb3 => ?_)
  ·
    replace hb3 : v2 = true := by simpa [ieq, ilt, ile] using hb3
    rw [if_pos hb3] at h
    -- region 2
    refine VW.ws tau_ok Sound.none [some 2] [(2, .val (.bool true))] rfl ?_ ?_
    · simp <;> simp [ieq, ilt, ile]
    cases h
    refine VW.ret ?_
    simp [Post, PostM, PostC, PostC2, Nx, Bk]
  replace hb3 : ¬ (v2 = true) := by simpa [ieq, ilt, ile] using hb3
  rw [if_neg hb3] at h
  refine VW.skip ?_
  refine hK1 _ ?_
  -- region 3
  obtain ⟨v4, hv4, h⟩ := bind_some h
  refine VW.ws tau_ok (Sound.none.add 30 (s_DrawInverseMatrix_ok hv4) rfl) [some 29, some 30, some 28, some 31, some 32, some 3, some 4] [(0, .val (.list (a0.map (D.int .u8)))), (3, .val (i64 v4.1)), (4, .val (dM v4.2))] rfl ?_ ?_
  · simp <;> simp [ieq, ilt, ile]
  -- region 4
  obtain ⟨v5, hv5, h⟩ := bind_some h
  refine VW.ws tau_ok (Sound.none.add 36 (i_InverseMatrix_ok hv5) rfl) [some 34, some 35, some 36, some 33, some 37, some 38, some 5, some 6] [(0, .val (.list (a0.map (D.int .u8)))), (3, .val (i64 v4.1)), (4, .val (dM v4.2)), (5, .ref 5 [] true (dM v5.1)), (6, .val (i64 v5.2))] rfl ?_ ?_
  · simp <;> simp [ieq, ilt, ile]
  -- region 5
  obtain ⟨v6, hv6, h⟩ := bind_some h
  refine VW.ws tau_ok (Sound.none.add 42 (s_InverseMatrix_ok hv6) rfl) [some 40, some 41, some 42, some 39, some 43, some 44, some 7, some 8] [(0, .val (.list (a0.map (D.int .u8)))), (3, .val (i64 v4.1)), (4, .val (dM v4.2)), (5, .ref 5 [] true (dM v5.1)), (6, .val (i64 v5.2)), (7, .ref 7 [] true (dM v6.1)), (8, .val (i64 v6.2))] rfl ?_ ?_
  · simp <;> simp [ieq, ilt, ile]
  refine VW.sqc fun K7 hK7 hCK7 => ?_
  -- region 6
  obtain ⟨x10, hx10, h⟩ := bind_some h
  refine VW.cut [(0, .val (.list (a0.map (D.int .u8)))), (3, .val (i64 v4.1)), (4, .val (dM v4.2)), (5, .ref 5 [] true (dM v5.1)), (6, .val (i64 v5.2)), (53, .val (.bool x10))] ?_ fun hy => ?_
  rotate_left
  · clear h
    by_cases hp8 : ¬ v5.2 = v6.2
    · rw [if_pos hp8] at hx10
      have hp8b : ieq v5.2 v6.2 = false := by simpa [ieq, ilt, ile] using hp8
      have hp8s := hp8b
      try simp at hp8s
      cases hx10
      refine VW.ws tau_ok Sound.none [some 45, some 46, some 47, some 48, some 49, some 50, some 51, some 52, some 53] _ rfl ?_ hy
      simp [hp8b, hp8s] <;> simp [ieq, ilt, ile]
    · rw [if_neg hp8] at hx10
      have hp8b : ieq v5.2 v6.2 = true := by simpa [ieq, ilt, ile] using hp8
      have hp8s := hp8b
      try simp at hp8s
      obtain ⟨v9, hv9, hx10⟩ := bind_some hx10
      cases hx10
      refine VW.ws tau_ok (Sound.none.add 51 (l_likeRows5_ok hv9) rfl) [some 45, some 46, some 47, some 48, some 49, some 50, some 51, some 52, some 53] _ rfl ?_ hy
      simp [hp8b, hp8s] <;> simp [ieq, ilt, ile]
  refine VW.cond rfl (fun hb11 => ?_) (fun hb11 => ?_)
  ·
    replace hb11 : x10 = true := by simpa [ieq, ilt, ile] using hb11
    rw [if_pos hb11] at h
    -- region 7
    refine VW.ws tau_ok Sound.none [some 2] [(2, .val (.bool false))] rfl ?_ ?_
    · simp <;> simp [ieq, ilt, ile]
    cases h
    refine VW.ret ?_
    simp [Post, PostM, PostC, PostC2, Nx, Bk]
  replace hb11 : ¬ (x10 = true) := by simpa [ieq, ilt, ile] using hb11
  rw [if_neg hb11] at h
  refine VW.skip ?_
  refine hK7 _ ?_
  refine VW.sqc fun K12 hK12 hCK12 => ?_
  -- region 8
  obtain ⟨x14, hx14, h⟩ := bind_some h
  refine VW.cut [(0, .val (.list (a0.map (D.int .u8)))), (3, .val (i64 v4.1)), (4, .val (dM v4.2)), (5, .ref 5 [] true (dM v5.1)), (6, .val (i64 v5.2)), (59, .val (.bool x14))] ?_ fun hy => ?_
  rotate_left
  · clear h
    by_cases hp13 : v5.2 = 1
    · rw [if_pos hp13] at hx14
      have hp13b : ieq v5.2 1 = true := by simpa [ieq, ilt, ile] using hp13
      have hp13s := hp13b
      try simp at hp13s
      cases hx14
      refine VW.ws tau_ok Sound.none [some 54, some 55, some 56, some 57, some 58, some 59] _ rfl ?_ hy
      simp [hp13b, hp13s] <;> simp [ieq, ilt, ile]
    · rw [if_neg hp13] at hx14
      have hp13b : ieq v5.2 1 = false := by simpa [ieq, ilt, ile] using hp13
      have hp13s := hp13b
      try simp at hp13s
      cases hx14
      refine VW.ws tau_ok Sound.none [some 54, some 55, some 56, some 57, some 58, some 59] _ rfl ?_ hy
      simp [hp13b, hp13s] <;> simp [ieq, ilt, ile]
  refine VW.cond rfl (fun hb15 => ?_) (fun hb15 => ?_)
  ·
    replace hb15 : x14 = true := by simpa [ieq, ilt, ile] using hb15
    rw [if_pos hb15] at h
    -- region 9
    refine VW.ws tau_ok Sound.none [some 2] [(2, .val (.bool true))] rfl ?_ ?_
    · simp <;> simp [ieq, ilt, ile]
    cases h
    refine VW.ret ?_
    simp [Post, PostM, PostC, PostC2, Nx, Bk]
  replace hb15 : ¬ (x14 = true) := by simpa [ieq, ilt, ile] using hb15
  rw [if_neg hb15] at h
  refine VW.skip ?_
  refine hK12 _ ?_
  -- region 10
  obtain ⟨v16, hv16, h⟩ := bind_some h
  refine VW.ws tau_ok (Sound.none.add 63 (i_Determinant_ok hv16) rfl) [some 61, some 62, some 63, some 60, some 64, some 65, some 9, some 10] [(0, .val (.list (a0.map (D.int .u8)))), (3, .val (i64 v4.1)), (4, .val (dM v4.2)), (5, .ref 5 [] true (dM v5.1)), (6, .val (i64 v5.2)), (9, .val (i64 v16.1)), (10, .val (i64 v16.2))] rfl ?_ ?_
  · simp <;> simp [ieq, ilt, ile]
  refine VW.sqc fun K17 hK17 hCK17 => ?_
  -- region 11
  obtain ⟨x19, hx19, h⟩ := bind_some h
  refine VW.cut [(0, .val (.list (a0.map (D.int .u8)))), (3, .val (i64 v4.1)), (4, .val (dM v4.2)), (5, .ref 5 [] true (dM v5.1)), (6, .val (i64 v5.2)), (74, .val (.bool x19))] ?_ fun hy => ?_
  rotate_left
  · clear h
    by_cases hp18 : ¬ v16.2 = 0
    · rw [if_pos hp18] at hx19
      have hp18b : ieq v16.2 0 = false := by simpa [ieq, ilt, ile] using hp18
      have hp18s := hp18b
      try simp at hp18s
      cases hx19
      refine VW.ws tau_ok Sound.none [some 66, some 67, some 68, some 69, some 70, some 71, some 72, some 73, some 74] _ rfl ?_ hy
      simp [hp18b, hp18s] <;> simp [ieq, ilt, ile]
    · rw [if_neg hp18] at hx19
      have hp18b : ieq v16.2 0 = true := by simpa [ieq, ilt, ile] using hp18
      have hp18s := hp18b
      try simp at hp18s
      cases hx19
      refine VW.ws tau_ok Sound.none [some 66, some 67, some 68, some 69, some 70, some 71, some 72, some 73, some 74] _ rfl ?_ hy
      simp [hp18b, hp18s] <;> simp [ieq, ilt, ile]
  refine VW.cond rfl (fun hb20 => ?_) (fun hb20 => ?_)
  ·
    replace hb20 : x19 = true := by simpa [ieq, ilt, ile] using hb20
    rw [if_pos hb20] at h
    -- region 12
    refine VW.ws tau_ok Sound.none [some 2] [(2, .val (.bool false))] rfl ?_ ?_
    · simp <;> simp [ieq, ilt, ile]
    cases h
    refine VW.ret ?_
    simp [Post, PostM, PostC, PostC2, Nx, Bk]
  replace hb20 : ¬ (x19 = true) := by simpa [ieq, ilt, ile] using hb20
  rw [if_neg hb20] at h
  refine VW.skip ?_
  refine hK17 _ ?_
  -- region 13
  obtain ⟨v21, hv21, h⟩ := bind_some h
  refine VW.ws tau_ok (Sound.none.add 76 (l_roll_ok hv21) rfl) [some 75, some 76, some 11] [(3, .val (i64 v4.1)), (4, .val (dM v4.2)), (5, .ref 5 [] true (dM v5.1)), (6, .val (i64 v5.2)), (11, .ref 11 [] false (.ptr [.list (v21.1.map (D.int .u8)), i64 v21.2.1, .int .u64 v21.2.2]))] rfl ?_ ?_
  · simp <;> simp [ieq, ilt, ile]
  -- region 14
  obtain ⟨v22, hv22, h⟩ := bind_some h
  obtain ⟨v23, hv23, h⟩ := bind_some h
  refine VW.ws tau_ok ((Sound.none.ptrc 78 (g_p_laws_dice_below_ok hv22)).ptrc 80 (g_p_laws_dice_below_ok hv23)) [some 77, some 78, some 79, some 80, some 12, some 13] [(3, .val (i64 v4.1)), (4, .val (dM v4.2)), (5, .ref 5 [] true (dM v5.1)), (6, .val (i64 v5.2)), (12, .val (i64 v22.1)), (13, .val (i64 v23.1))] rfl ?_ ?_
  · simp <;> simp [ieq, ilt, ile]
  -- region 15
  obtain ⟨v24, hv24, h⟩ := bind_some h
  refine VW.ws tau_ok (Sound.none.add 85 (i_PowerMatrix_ok hv24) rfl) [some 82, some 83, some 84, some 85, some 81, some 86, some 87, some 14, some 15] [(3, .val (i64 v4.1)), (4, .val (dM v4.2)), (5, .ref 5 [] true (dM v5.1)), (6, .val (i64 v5.2)), (12, .val (i64 v22.1)), (13, .val (i64 v23.1)), (14, .ref 14 [] true (dM v24.1)), (15, .val (i64 v24.2))] rfl ?_ ?_
  · simp <;> simp [ieq, ilt, ile]
  -- region 16
  obtain ⟨v25, hv25, h⟩ := bind_some h
  refine VW.ws tau_ok (Sound.none.add 92 (i_PowerMatrix_ok hv25) rfl) [some 89, some 90, some 91, some 92, some 88, some 93, some 94, some 16, some 17] [(3, .val (i64 v4.1)), (4, .val (dM v4.2)), (5, .ref 5 [] true (dM v5.1)), (6, .val (i64 v5.2)), (12, .val (i64 v22.1)), (13, .val (i64 v23.1)), (14, .ref 14 [] true (dM v24.1)), (15, .val (i64 v24.2)), (16, .ref 16 [] true (dM v25.1)), (17, .val (i64 v25.2))] rfl ?_ ?_
  · simp <;> simp [ieq, ilt, ile]
  -- region 17
  obtain ⟨v26, hv26, h⟩ := bind_some h
  refine VW.ws tau_ok (Sound.none.add 101 (i_PowerMatrix_ok hv26) rfl) [some 96, some 97, some 98, some 99, some 100, some 101, some 95, some 102, some 103, some 18, some 19] [(3, .val (i64 v4.1)), (4, .val (dM v4.2)), (5, .ref 5 [] true (dM v5.1)), (6, .val (i64 v5.2)), (14, .ref 14 [] true (dM v24.1)), (15, .val (i64 v24.2)), (16, .ref 16 [] true (dM v25.1)), (17, .val (i64 v25.2)), (18, .ref 18 [] true (dM v26.1)), (19, .val (i64 v26.2))] rfl ?_ ?_
  · simp <;> simp [ieq, ilt, ile]
  -- region 18
  obtain ⟨v27, hv27, h⟩ := bind_some h
  refine VW.ws tau_ok (Sound.none.add 108 (i_MultiplyMatrices_ok hv27) rfl) [some 105, some 106, some 107, some 108, some 104, some 109, some 110, some 20, some 21] [(3, .val (i64 v4.1)), (4, .val (dM v4.2)), (5, .ref 5 [] true (dM v5.1)), (6, .val (i64 v5.2)), (15, .val (i64 v24.2)), (17, .val (i64 v25.2)), (18, .ref 18 [] true (dM v26.1)), (19, .val (i64 v26.2)), (20, .ref 20 [] true (dM v27.1)), (21, .val (i64 v27.2))] rfl ?_ ?_
  · simp <;> simp [ieq, ilt, ile]
  refine VW.sqc fun K28 hK28 hCK28 => ?_
  -- region 19
  obtain ⟨x34, hx34, h⟩ := bind_some h
  refine VW.cut [(3, .val (i64 v4.1)), (4, .val (dM v4.2)), (5, .ref 5 [] true (dM v5.1)), (6, .val (i64 v5.2)), (130, .val (.bool x34))] ?_ fun hy => ?_
  rotate_left
  · clear h
    by_cases hp29 : ¬ v24.2 = 0
    · rw [if_pos hp29] at hx34
      have hp29b : ieq v24.2 0 = false := by simpa [ieq, ilt, ile] using hp29
      have hp29s := hp29b
      try simp at hp29s
      cases hx34
      refine VW.ws tau_ok Sound.none [some 111, some 112, some 113, some 114, some 115, some 116, some 117, some 118, some 119, some 120, some 121, some 122, some 123, some 124, some 125, some 126, some 127, some 128, some 129, some 130] _ rfl ?_ hy
      simp [hp29b, hp29s] <;> simp [ieq, ilt, ile]
    · rw [if_neg hp29] at hx34
      have hp29b : ieq v24.2 0 = true := by simpa [ieq, ilt, ile] using hp29
      have hp29s := hp29b
      try simp at hp29s
      by_cases hp30 : ¬ v25.2 = 0
      · rw [if_pos hp30] at hx34
        have hp30b : ieq v25.2 0 = false := by simpa [ieq, ilt, ile] using hp30
        have hp30s := hp30b
        try simp at hp30s
        cases hx34
        refine VW.ws tau_ok Sound.none [some 111, some 112, some 113, some 114, some 115, some 116, some 117, some 118, some 119, some 120, some 121, some 122, some 123, some 124, some 125, some 126, some 127, some 128, some 129, some 130] _ rfl ?_ hy
        simp [hp29b, hp29s, hp30b, hp30s] <;> simp [ieq, ilt, ile]
      · rw [if_neg hp30] at hx34
        have hp30b : ieq v25.2 0 = true := by simpa [ieq, ilt, ile] using hp30
        have hp30s := hp30b
        try simp at hp30s
        by_cases hp31 : ¬ v26.2 = 0
        · rw [if_pos hp31] at hx34
          have hp31b : ieq v26.2 0 = false := by simpa [ieq, ilt, ile] using hp31
          have hp31s := hp31b
          try simp at hp31s
          cases hx34
          refine VW.ws tau_ok Sound.none [some 111, some 112, some 113, some 114, some 115, some 116, some 117, some 118, some 119, some 120, some 121, some 122, some 123, some 124, some 125, some 126, some 127, some 128, some 129, some 130] _ rfl ?_ hy
          simp [hp29b, hp29s, hp30b, hp30s, hp31b, hp31s] <;> simp [ieq, ilt, ile]
        · rw [if_neg hp31] at hx34
          have hp31b : ieq v26.2 0 = true := by simpa [ieq, ilt, ile] using hp31
          have hp31s := hp31b
          try simp at hp31s
          by_cases hp32 : ¬ v27.2 = 0
          · rw [if_pos hp32] at hx34
            have hp32b : ieq v27.2 0 = false := by simpa [ieq, ilt, ile] using hp32
            have hp32s := hp32b
            try simp at hp32s
            cases hx34
            refine VW.ws tau_ok Sound.none [some 111, some 112, some 113, some 114, some 115, some 116, some 117, some 118, some 119, some 120, some 121, some 122, some 123, some 124, some 125, some 126, some 127, some 128, some 129, some 130] _ rfl ?_ hy
            simp [hp29b, hp29s, hp30b, hp30s, hp31b, hp31s, hp32b, hp32s] <;> simp [ieq, ilt, ile]
          · rw [if_neg hp32] at hx34
            have hp32b : ieq v27.2 0 = true := by simpa [ieq, ilt, ile] using hp32
            have hp32s := hp32b
            try simp at hp32s
            obtain ⟨v33, hv33, hx34⟩ := bind_some hx34
            cases hx34
            refine VW.ws tau_ok (Sound.none.add 128 (l_likeRows5_ok hv33) rfl) [some 111, some 112, some 113, some 114, some 115, some 116, some 117, some 118, some 119, some 120, some 121, some 122, some 123, some 124, some 125, some 126, some 127, some 128, some 129, some 130] _ rfl ?_ hy
            simp [hp29b, hp29s, hp30b, hp30s, hp31b, hp31s, hp32b, hp32s] <;> simp [ieq, ilt, ile]
  refine VW.cond rfl (fun hb35 => ?_) (fun hb35 => ?_)
  ·
    replace hb35 : x34 = true := by simpa [ieq, ilt, ile] using hb35
    rw [if_pos hb35] at h
    -- region 20
    refine VW.ws tau_ok Sound.none [some 2] [(2, .val (.bool false))] rfl ?_ ?_
    · simp <;> simp [ieq, ilt, ile]
    cases h
    refine VW.ret ?_
    simp [Post, PostM, PostC, PostC2, Nx, Bk]
  replace hb35 : ¬ (x34 = true) := by simpa [ieq, ilt, ile] using hb35
  rw [if_neg hb35] at h
  refine VW.skip ?_
  refine hK28 _ ?_
  refine VW.sqc fun K36 hK36 hCK36 => ?_
  -- region 21
  refine VW.ws tau_ok Sound.none [some 131, some 132] [(3, .val (i64 v4.1)), (4, .val (dM v4.2)), (5, .ref 5 [] true (dM v5.1)), (6, .val (i64 v5.2)), (132, .val (.bool (!(ieq v5.2 0))))] rfl ?_ ?_
  · simp <;> simp [ieq, ilt, ile]
  refine VW.cond rfl (fun hb37 => ?_) (fun hb37 => ?_)
  ·
    replace hb37 : ¬ v5.2 = 0 := by simpa [ieq, ilt, ile] using hb37
    rw [if_pos hb37] at h
    -- region 22
    refine VW.ws tau_ok Sound.none [some 133, some 134, some 2] [(2, .val (.bool (ieq v5.2 5)))] rfl ?_ ?_
    · simp <;> simp [ieq, ilt, ile]
    cases h
    refine VW.ret ?_
    simp [Post, PostM, PostC, PostC2, Nx, Bk]
  replace hb37 : ¬ (¬ v5.2 = 0) := by simpa [ieq, ilt, ile] using hb37
  rw [if_neg hb37] at h
  refine VW.skip ?_
  refine hK36 _ ?_
  -- region 23
  obtain ⟨v38, hv38, h⟩ := bind_some h
  refine VW.ws tau_ok (Sound.none.add 139 (i_MultiplyMatrices_ok hv38) rfl) [some 136, some 137, some 138, some 139, some 135, some 140, some 141, some 22, some 23] [(3, .val (i64 v4.1)), (4, .val (dM v4.2)), (5, .ref 5 [] true (dM v5.1)), (22, .ref 22 [] true (dM v38.1)), (23, .val (i64 v38.2))] rfl ?_ ?_
  · simp <;> simp [ieq, ilt, ile]
  -- region 24
  obtain ⟨v39, hv39, h⟩ := bind_some h
  refine VW.ws tau_ok (Sound.none.add 146 (i_MultiplyMatrices_ok hv39) rfl) [some 143, some 144, some 145, some 146, some 142, some 147, some 148, some 24, some 25] [(4, .val (dM v4.2)), (22, .ref 22 [] true (dM v38.1)), (23, .val (i64 v38.2)), (24, .ref 24 [] true (dM v39.1)), (25, .val (i64 v39.2))] rfl ?_ ?_
  · simp <;> simp [ieq, ilt, ile]
  -- region 25
  obtain ⟨x47, hx47, h⟩ := bind_some h
  refine VW.cut [(2, .val (.bool x47))] ?_ fun hy => ?_
  rotate_left
  · clear h
    by_cases hp40 : v38.2 = 0
    · rw [if_pos hp40] at hx47
      have hp40b : ieq v38.2 0 = true := by simpa [ieq, ilt, ile] using hp40
      have hp40s := hp40b
      try simp at hp40s
      by_cases hp41 : v39.2 = 0
      · rw [if_pos hp41] at hx47
        have hp41b : ieq v39.2 0 = true := by simpa [ieq, ilt, ile] using hp41
        have hp41s := hp41b
        try simp at hp41s
        obtain ⟨v42, hv42, hx47⟩ := bind_some hx47
        obtain ⟨v43, hv43, hx47⟩ := bind_some hx47
        by_cases hp44 : v43 = true
        · rw [if_pos hp44] at hx47
          have hp44b : v43 = true := by simpa [ieq, ilt, ile] using hp44
          have hp44s := hp44b
          try simp at hp44s
          obtain ⟨v45, hv45, hx47⟩ := bind_some hx47
          obtain ⟨v46, hv46, hx47⟩ := bind_some hx47
          cases hx47
          refine VW.ws tau_ok ((((Sound.none.add 159 (l_unit5_ok hv42) rfl).add 160 (l_likeRows5_ok hv43) rfl).add 166 (l_unit5_ok hv45) rfl).add 167 (l_likeRows5_ok hv46) rfl) [some 149, some 150, some 151, some 152, some 153, some 154, some 155, some 156, some 157, some 158, some 159, some 160, some 161, some 162, some 163, some 164, some 165, some 166, some 167, some 168, some 2] _ rfl ?_ hy
          simp [hp40b, hp40s, hp41b, hp41s, hp44b, hp44s] <;> simp [ieq, ilt, ile]
        · rw [if_neg hp44] at hx47
          have hp44b : v43 = false := by simpa [ieq, ilt, ile] using hp44
          have hp44s := hp44b
          try simp at hp44s
          cases hx47
          refine VW.ws tau_ok ((Sound.none.add 159 (l_unit5_ok hv42) rfl).add 160 (l_likeRows5_ok hv43) rfl) [some 149, some 150, some 151, some 152, some 153, some 154, some 155, some 156, some 157, some 158, some 159, some 160, some 161, some 162, some 163, some 164, some 165, some 166, some 167, some 168, some 2] _ rfl ?_ hy
          simp [hp40b, hp40s, hp41b, hp41s, hp44b, hp44s] <;> simp [ieq, ilt, ile]
      · rw [if_neg hp41] at hx47
        have hp41b : ieq v39.2 0 = false := by simpa [ieq, ilt, ile] using hp41
        have hp41s := hp41b
        try simp at hp41s
        cases hx47
        refine VW.ws tau_ok Sound.none [some 149, some 150, some 151, some 152, some 153, some 154, some 155, some 156, some 157, some 158, some 159, some 160, some 161, some 162, some 163, some 164, some 165, some 166, some 167, some 168, some 2] _ rfl ?_ hy
        simp [hp40b, hp40s, hp41b, hp41s] <;> simp [ieq, ilt, ile]
    · rw [if_neg hp40] at hx47
      have hp40b : ieq v38.2 0 = false := by simpa [ieq, ilt, ile] using hp40
      have hp40s := hp40b
      try simp at hp40s
      cases hx47
      refine VW.ws tau_ok Sound.none [some 149, some 150, some 151, some 152, some 153, some 154, some 155, some 156, some 157, some 158, some 159, some 160, some 161, some 162, some 163, some 164, some 165, some 166, some 167, some 168, some 2] _ rfl ?_ hy
      simp [hp40b, hp40s] <;> simp [ieq, ilt, ile]
  cases h
  refine VW.ret ?_
  simp [Post, PostM, PostC, PostC2, Nx, Bk]
end Go.Vam
