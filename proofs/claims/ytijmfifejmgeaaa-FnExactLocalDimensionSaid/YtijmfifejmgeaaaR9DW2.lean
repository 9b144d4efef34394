import Derived.Test.YtijmfifejmgeaaaR9T
import Derived.Test.YtijmfifejmgeaaaFmG0
import Derived.Test.YtijmfifejmgeaaaR9DW1
namespace Go.Vam
open Go Go.RowKit Go.Proofs
set_option maxRecDepth 100000
set_option linter.unusedSimpArgs false
set_option linter.unusedVariables false

theorem g_slices_ContainsFunc_LLI_LI_of_i_checkElements_c1_ok {a0 : List (List Int)} {a1_0_0 : Int} {a1_0_1 : List Int} {r : Bool} (h : g_slices_ContainsFunc_LLI_LI_of_i_checkElements_c1 a0 a1_0_0 a1_0_1 = some r) :
    VCall Try.prog 102 [dM a0, .fn 194 [.ptr [i64 a1_0_0, dI a1_0_1]]] [.sc (.bool r)] := by
  unfold g_slices_ContainsFunc_LLI_LI_of_i_checkElements_c1 at h
  refine VCall.enter Try.call102 Try.func102 rfl 9 Try.ntmps102 (by simp) [.tmp 4] rfl ?_
  show VW _ _ _ (mk [(0, .val (dM a0)), (1, .val (.fn 194 [.ptr [i64 a1_0_0, dI a1_0_1]]))]) _
  -- region 0
  refine VW.ws tau_ok Sound.none [some 4] [(0, .val (dM a0)), (1, .val (.fn 194 [.ptr [i64 a1_0_0, dI a1_0_1]]))] rfl ?_ ?_
  · simp <;> simp [ieq, ilt, ile]
  -- region 1
  obtain ⟨v1, hv1, h⟩ := bind_some h
  refine VW.ws tau_ok (Sound.none.add 7 (g_slices_IndexFunc_LLI_LI_of_i_checkElements_c1_ok hv1) rfl) [some 5, some 6, some 7, some 8, some 4] [(4, .val (.bool (ile 0 v1)))] rfl ?_ ?_
  · simp <;> simp [ieq, ilt, ile]
  cases h
  refine VW.ret ?_
  simp [Post, PostM, PostC, PostC2, Nx, Bk]

theorem i_checkElements_ok {a0_0 : Int} {a0_1 : List Int} {a1 : List (List Int)} {r : Int} (h : i_checkElements a0_0 a0_1 a1 = some r) :
    VCall Try.prog 124 [.agg [i64 a0_0, dI a0_1], dM a1] [.sc (i64 r)] := by
  unfold i_checkElements at h
  refine VCall.enter Try.call124 Try.func124 rfl 11 Try.ntmps124 (by simp) [.tmp 4] rfl ?_
  show VW _ _ _ (mk [(0, .val (.agg [i64 a0_0, dI a0_1])), (1, .val (dM a1))]) _
  -- region 0
  refine VW.ws tau_ok Sound.none [some 2, some 4] [(1, .val (dM a1)), (2, .val (.ptr [i64 a0_0, dI a0_1]))] rfl ?_ ?_
  · simp <;> simp [ieq, ilt, ile]
  refine VW.sqc fun K1 hK1 hCK1 => ?_
  -- region 1
  obtain ⟨v2, hv2, h⟩ := bind_some h
  refine VW.ws tau_ok (Sound.none.add 6 (i_IsDoubling_ok hv2) rfl) [some 5, some 6, some 7] [(1, .val (dM a1)), (2, .val (.ptr [i64 a0_0, dI a0_1])), (7, .val (.bool (!v2)))] rfl ?_ ?_
  · simp <;> simp [ieq, ilt, ile]
  refine VW.cond rfl (fun hb3 => ?_) (fun hb3 => ?_)
  ·
    replace hb3 : v2 = false := by simpa [ieq, ilt, ile] using hb3
    rw [if_pos hb3] at h
    -- region 2
    refine VW.ws tau_ok Sound.none [some 4] [(4, .val (i64 1))] rfl ?_ ?_
    · simp <;> simp [ieq, ilt, ile]
    cases h
    refine VW.ret ?_
    simp [Post, PostM, PostC, PostC2, Nx, Bk]
  replace hb3 : ¬ (v2 = false) := by simpa [ieq, ilt, ile] using hb3
  rw [if_neg hb3] at h
  refine VW.skip ?_
  refine hK1 _ ?_
  refine VW.sqc fun K4 hK4 hCK4 => ?_
  -- region 3
  obtain ⟨v5, hv5, h⟩ := bind_some h
  refine VW.ws tau_ok (Sound.none.add 10 (g_slices_ContainsFunc_LLI_LI_of_i_checkElements_c1_ok hv5) rfl) [some 8, some 9, some 10] [(10, .val (.bool v5))] rfl ?_ ?_
  · simp <;> simp [ieq, ilt, ile]
  refine VW.cond rfl (fun hb6 => ?_) (fun hb6 => ?_)
  ·
    replace hb6 : v5 = true := by simpa [ieq, ilt, ile] using hb6
    rw [if_pos hb6] at h
    -- region 4
    refine VW.ws tau_ok Sound.none [some 4] [(4, .val (i64 2))] rfl ?_ ?_
    · simp <;> simp [ieq, ilt, ile]
    cases h
    refine VW.ret ?_
    simp [Post, PostM, PostC, PostC2, Nx, Bk]
  replace hb6 : ¬ (v5 = true) := by simpa [ieq, ilt, ile] using hb6
  rw [if_neg hb6] at h
  refine VW.skip ?_
  refine hK4 _ ?_
  -- region 5
  refine VW.ws tau_ok Sound.none [some 4] [(4, .val (i64 0))] rfl ?_ ?_
  · simp <;> simp [ieq, ilt, ile]
  cases h
  refine VW.ret ?_
  simp [Post, PostM, PostC, PostC2, Nx, Bk]

theorem i_field_isTable_ok {a0 : Int} {a1 : List (List Int)} {r : Bool} (h : i_field_isTable a0 a1 = some r) :
    VCall Try.prog 231 [i64 a0, dM a1] [.sc (.bool r)] := by
  unfold i_field_isTable at h
  refine VCall.enter Try.call231 Try.func231 rfl 40 Try.ntmps231 (by simp) [.tmp 4] rfl ?_
  show VW _ _ _ (mk [(0, .val (i64 a0)), (1, .val (dM a1))]) _
  -- region 0
  refine VW.ws tau_ok Sound.none [some 4] [(0, .val (i64 a0)), (1, .val (dM a1))] rfl ?_ ?_
  · simp <;> simp [ieq, ilt, ile]
  refine VW.sqc fun K1 hK1 hCK1 => ?_
  -- region 1
  refine VW.ws tau_ok Sound.none [some 7, some 8, some 9] [(0, .val (i64 a0)), (1, .val (dM a1)), (9, .val (.bool (ilt 16 (a1.length : Int))))] rfl ?_ ?_
  · simp <;> simp [ieq, ilt, ile]
  refine VW.cond rfl (fun hb2 => ?_) (fun hb2 => ?_)
  ·
    replace hb2 : 16 < (a1.length : Int) := by simpa [ieq, ilt, ile] using hb2
    rw [if_pos hb2] at h
    -- region 2
    refine VW.ws tau_ok Sound.none [some 4] [(4, .val (.bool false))] rfl ?_ ?_
    · simp <;> simp [ieq, ilt, ile]
    cases h
    refine VW.ret ?_
    simp [Post, PostM, PostC, PostC2, Nx, Bk]
  replace hb2 : ¬ (16 < (a1.length : Int)) := by simpa [ieq, ilt, ile] using hb2
  rw [if_neg hb2] at h
  refine VW.skip ?_
  refine hK1 _ ?_
  refine VW.sqc fun K3 hK3 hCK3 => ?_
  -- region 3
  refine VW.ws tau_ok Sound.none [some 10, some 11, some 12] [(0, .val (i64 a0)), (1, .val (dM a1)), (10, .val (dM a1)), (11, .val (i64 (a1.length : Int))), (12, .val (i64 0))] rfl ?_ ?_
  · simp <;> simp [ieq, ilt, ile]
  obtain ⟨x4, hx4, h⟩ := bind_some h
  refine VW.tlO (fun y6 => []) x4 (hCK3) ?_ ?_
  · clear hx4
    rintro y6 rfl
    dsimp only at h
    refine hK3 _ ?_
    -- region 9
    refine VW.ws tau_ok Sound.none [some 4] [(4, .val (.bool true))] rfl ?_ ?_
    · simp <;> simp [ieq, ilt, ile]
    cases h
    refine VW.ret ?_
    simp [Post, PostM, PostC, PostC2, Nx, Bk]
  refine VW.block ?_
  refine VW.loopF (i_field_isTable_L0 a0 a1) (fun s4 => [(0, .val (i64 a0)), (1, .val (dM a1)), (10, .val (dM a1)), (11, .val (i64 (a1.length : Int))), (12, .val (i64 s4))]) hx4 (Fits.of rfl) ?_
  clear hx4
  intro s4 ox4 hx4o hx4b
  unfold i_field_isTable_L0 at hx4o
  -- region 4
  refine VW.ws tau_ok Sound.none [some 13] [(0, .val (i64 a0)), (1, .val (dM a1)), (10, .val (dM a1)), (11, .val (i64 (a1.length : Int))), (12, .val (i64 s4)), (13, .val (.bool (ilt s4 (a1.length : Int))))] rfl ?_ ?_
  · simp <;> simp [ieq, ilt, ile]
  refine VW.sqc fun K7 hK7 hCK7 => ?_
  refine VW.cond rfl (fun hb8 => ?_) (fun hb8 => ?_)
  rotate_left
  ·
    replace hb8 : ¬ (s4 < (a1.length : Int)) := by simpa [ieq, ilt, ile] using hb8
    rw [if_neg hb8] at hx4o
    refine VW.exit ?_
    cases hx4o
    have hq := hx4b _ rfl
    subst hq
    exact ⟨_, rfl, Fits.of rfl⟩
  replace hb8 : s4 < (a1.length : Int) := by simpa [ieq, ilt, ile] using hb8
  rw [if_pos hb8] at hx4o
  refine VW.skip ?_
  refine hK7 _ ?_
  refine VW.sqc fun K9 hK9 hCK9 => ?_
  refine VW.block ?_
  -- region 5
  obtain ⟨v10, hv10, hx4o⟩ := bind_some hx4o
  obtain ⟨hv10a, hv10b, hv10c, hv10d⟩ := idx_some hv10
  refine VW.ws tau_ok Sound.none [some 14, some 15, some 6] [(0, .val (i64 a0)), (1, .val (dM a1)), (6, .val (dI v10)), (10, .val (dM a1)), (11, .val (i64 (a1.length : Int))), (12, .val (i64 s4))] rfl ?_ ?_
  · simp [hv10a, hv10b, hv10c, hv10d] <;> simp [ieq, ilt, ile]
  -- region 6
  obtain ⟨x16, hx16, hx4o⟩ := bind_some hx4o
  refine VW.cut [(0, .val (i64 a0)), (1, .val (dM a1)), (10, .val (dM a1)), (11, .val (i64 (a1.length : Int))), (12, .val (i64 s4)), (38, .val (.bool x16))] ?_ fun hy => ?_
  rotate_left
  · clear hx4o
    obtain ⟨v11, hv11, hx16⟩ := bind_some hx16
    obtain ⟨hv11a, hv11b, hv11c, hv11d⟩ := idx_some hv11
    replace hv11b : 0 < a1.length := hv11b
    replace hv11c : a1[0]? = some v11 := hv11c
    replace hv11d : ∀ h, a1[0]'h = v11 := hv11d
    by_cases hp12 : ¬ (v10.length : Int) = (v11.length : Int)
    · rw [if_pos hp12] at hx16
      have hp12b : ieq (v10.length : Int) (v11.length : Int) = false := by simpa [ieq, ilt, ile] using hp12
      have hp12s := hp12b
      try simp at hp12s
      cases hx16
      refine VW.ws tau_ok Sound.none [some 16, some 17, some 18, some 19, some 20, some 21, some 22, some 23, some 24, some 25, some 26, some 27, some 28, some 29, some 30, some 31, some 32, some 33, some 34, some 35, some 36, some 37, some 38] _ rfl ?_ hy
      simp [hv11a, hv11b, hv11c, hv11d, hp12b, hp12s] <;> simp [ieq, ilt, ile]
    · rw [if_neg hp12] at hx16
      have hp12b : ieq (v10.length : Int) (v11.length : Int) = true := by simpa [ieq, ilt, ile] using hp12
      have hp12s := hp12b
      try simp at hp12s
      by_cases hp13 : (v10.length : Int) < 1
      · rw [if_pos hp13] at hx16
        have hp13b : ilt (v10.length : Int) 1 = true := by simpa [ieq, ilt, ile] using hp13
        have hp13s := hp13b
        try simp at hp13s
        cases hx16
        refine VW.ws tau_ok Sound.none [some 16, some 17, some 18, some 19, some 20, some 21, some 22, some 23, some 24, some 25, some 26, some 27, some 28, some 29, some 30, some 31, some 32, some 33, some 34, some 35, some 36, some 37, some 38] _ rfl ?_ hy
        simp [hv11a, hv11b, hv11c, hv11d, hp12b, hp12s, hp13b, hp13s] <;> simp [ieq, ilt, ile]
      · rw [if_neg hp13] at hx16
        have hp13b : ilt (v10.length : Int) 1 = false := by simpa [ieq, ilt, ile] using hp13
        have hp13s := hp13b
        try simp at hp13s
        by_cases hp14 : 16 < (v10.length : Int)
        · rw [if_pos hp14] at hx16
          have hp14b : ilt 16 (v10.length : Int) = true := by simpa [ieq, ilt, ile] using hp14
          have hp14s := hp14b
          try simp at hp14s
          cases hx16
          refine VW.ws tau_ok Sound.none [some 16, some 17, some 18, some 19, some 20, some 21, some 22, some 23, some 24, some 25, some 26, some 27, some 28, some 29, some 30, some 31, some 32, some 33, some 34, some 35, some 36, some 37, some 38] _ rfl ?_ hy
          simp [hv11a, hv11b, hv11c, hv11d, hp12b, hp12s, hp13b, hp13s, hp14b, hp14s] <;> simp [ieq, ilt, ile]
        · rw [if_neg hp14] at hx16
          have hp14b : ilt 16 (v10.length : Int) = false := by simpa [ieq, ilt, ile] using hp14
          have hp14s := hp14b
          try simp at hp14s
          obtain ⟨v15, hv15, hx16⟩ := bind_some hx16
          cases hx16
          refine VW.ws tau_ok (Sound.none.add 36 (i_field_is_ok hv15) rfl) [some 16, some 17, some 18, some 19, some 20, some 21, some 22, some 23, some 24, some 25, some 26, some 27, some 28, some 29, some 30, some 31, some 32, some 33, some 34, some 35, some 36, some 37, some 38] _ rfl ?_ hy
          simp [hv11a, hv11b, hv11c, hv11d, hp12b, hp12s, hp13b, hp13s, hp14b, hp14s] <;> simp [ieq, ilt, ile]
  refine VW.cond rfl (fun hb17 => ?_) (fun hb17 => ?_)
  rotate_left
  ·
    replace hb17 : ¬ (x16 = true) := by simpa [ieq, ilt, ile] using hb17
    rw [if_neg hb17] at hx4o
    refine VW.skip ?_
    refine hK9 _ ?_
    -- region 8
    refine VW.wr tau_ok Sound.none [some 39, some 12] [(0, .val (i64 a0)), (1, .val (dM a1)), (10, .val (dM a1)), (11, .val (i64 (a1.length : Int))), (12, .val (i64 (w64 (s4 + 1))))] rfl ?_ ?_
    · simp <;> simp [ieq, ilt, ile]
    cases hx4o
    exact ⟨_, rfl, Fits.of rfl⟩
  replace hb17 : x16 = true := by simpa [ieq, ilt, ile] using hb17
  rw [if_pos hb17] at hx4o
  -- region 7
  refine VW.ws tau_ok Sound.none [some 4] [(4, .val (.bool false))] rfl ?_ ?_
  · simp <;> simp [ieq, ilt, ile]
  cases hx4o
  have hq := hx4b _ rfl
  subst hq
  dsimp only at h
  cases h
  refine VW.ret ?_
  simp [Post, PostM, PostC, PostC2, Nx, Bk]

theorem i_field_isMatrix_ok {a0 : Int} {a1 : List (List Int)} {r : Bool} (h : i_field_isMatrix a0 a1 = some r) :
    VCall Try.prog 209 [i64 a0, dM a1] [.sc (.bool r)] := by
  unfold i_field_isMatrix at h
  refine VCall.enter Try.call209 Try.func209 rfl 13 Try.ntmps209 (by simp) [.tmp 4] rfl ?_
  show VW _ _ _ (mk [(0, .val (i64 a0)), (1, .val (dM a1))]) _
  -- region 0
  refine VW.ws tau_ok Sound.none [some 4] [(0, .val (i64 a0)), (1, .val (dM a1))] rfl ?_ ?_
  · simp <;> simp [ieq, ilt, ile]
  -- region 1
  obtain ⟨x3, hx3, h⟩ := bind_some h
  refine VW.cut [(4, .val (.bool x3))] ?_ fun hy => ?_
  rotate_left
  · clear h
    by_cases hp1 : 0 < (a1.length : Int)
    · rw [if_pos hp1] at hx3
      have hp1b : ilt 0 (a1.length : Int) = true := by simpa [ieq, ilt, ile] using hp1
      have hp1s := hp1b
      try simp at hp1s
      obtain ⟨v2, hv2, hx3⟩ := bind_some hx3
      cases hx3
      refine VW.ws tau_ok (Sound.none.add 11 (i_field_isTable_ok hv2) rfl) [some 5, some 6, some 7, some 8, some 9, some 10, some 11, some 12, some 4] _ rfl ?_ hy
      simp [hp1b, hp1s] <;> simp [ieq, ilt, ile]
    · rw [if_neg hp1] at hx3
      have hp1b : ilt 0 (a1.length : Int) = false := by simpa [ieq, ilt, ile] using hp1
      have hp1s := hp1b
      try simp at hp1s
      cases hx3
      refine VW.ws tau_ok Sound.none [some 5, some 6, some 7, some 8, some 9, some 10, some 11, some 12, some 4] _ rfl ?_ hy
      simp [hp1b, hp1s] <;> simp [ieq, ilt, ile]
  cases h
  refine VW.ret ?_
  simp [Post, PostM, PostC, PostC2, Nx, Bk]

theorem i_Doubling_isMatrix_ok {a0_0 : Int} {a0_1 : List Int} {a1 : List (List Int)} {r : Bool} (h : i_Doubling_isMatrix a0_0 a0_1 a1 = some r) :
    VCall Try.prog 181 [.agg [i64 a0_0, dI a0_1], dM a1] [.sc (.bool r)] := by
  unfold i_Doubling_isMatrix at h
  refine VCall.enter Try.call181 Try.func181 rfl 25 Try.ntmps181 (by simp) [.tmp 4] rfl ?_
  show VW _ _ _ (mk [(0, .val (.agg [i64 a0_0, dI a0_1])), (1, .val (dM a1))]) _
  -- region 0
  refine VW.ws tau_ok Sound.none [some 2, some 4] [(1, .val (dM a1)), (2, .val (.ptr [i64 a0_0, dI a0_1]))] rfl ?_ ?_
  · simp <;> simp [ieq, ilt, ile]
  -- region 1
  obtain ⟨x8, hx8, h⟩ := bind_some h
  refine VW.cut [(4, .val (.bool x8))] ?_ fun hy => ?_
  rotate_left
  · clear h
    obtain ⟨v1, hv1, hx8⟩ := bind_some hx8
    obtain ⟨v2, hv2, hx8⟩ := bind_some hx8
    by_cases hp3 : v2 = true
    · rw [if_pos hp3] at hx8
      have hp3b : v2 = true := by simpa [ieq, ilt, ile] using hp3
      have hp3s := hp3b
      try simp at hp3s
      obtain ⟨v4, hv4, hx8⟩ := bind_some hx8
      by_cases hp5 : (a1.length : Int) = v4
      · rw [if_pos hp5] at hx8
        have hp5b : ieq (a1.length : Int) v4 = true := by simpa [ieq, ilt, ile] using hp5
        have hp5s := hp5b
        try simp at hp5s
        obtain ⟨v6, hv6, hx8⟩ := bind_some hx8
        obtain ⟨hv6a, hv6b, hv6c, hv6d⟩ := idx_some hv6
        replace hv6b : 0 < a1.length := hv6b
        replace hv6c : a1[0]? = some v6 := hv6c
        replace hv6d : ∀ h, a1[0]'h = v6 := hv6d
        obtain ⟨v7, hv7, hx8⟩ := bind_some hx8
        cases hx8
        refine VW.wds tau_ok ((((Sound.none.add 6 (i_Doubling_field_ok hv1) rfl).add 8 (i_field_isMatrix_ok hv2) rfl).add 13 (i_Doubling_size_ok hv4) rfl).add 22 (i_Doubling_size_ok hv7) rfl) try_mixed [some 5, some 6, some 7, some 8, some 9, some 10, some 11, some 12, some 13, some 14, some 15, some 16, some 17, some 18, some 19, some 20, some 21, some 22, some 23, some 24, some 4] _ 21 rfl (by kernel_rfl) (by rfl) ?_ hy
        simp [hp3b, hp3s, hp5b, hp5s, hv6a, hv6b, hv6c, hv6d] <;> simp [ieq, ilt, ile]
      · rw [if_neg hp5] at hx8
        have hp5b : ieq (a1.length : Int) v4 = false := by simpa [ieq, ilt, ile] using hp5
        have hp5s := hp5b
        try simp at hp5s
        cases hx8
        refine VW.wds tau_ok (((Sound.none.add 6 (i_Doubling_field_ok hv1) rfl).add 8 (i_field_isMatrix_ok hv2) rfl).add 13 (i_Doubling_size_ok hv4) rfl) try_mixed [some 5, some 6, some 7, some 8, some 9, some 10, some 11, some 12, some 13, some 14, some 15, some 16, some 17, some 18, some 19, some 20, some 21, some 22, some 23, some 24, some 4] _ 21 rfl (by kernel_rfl) (by rfl) ?_ hy
        simp [hp3b, hp3s, hp5b, hp5s] <;> simp [ieq, ilt, ile]
    · rw [if_neg hp3] at hx8
      have hp3b : v2 = false := by simpa [ieq, ilt, ile] using hp3
      have hp3s := hp3b
      try simp at hp3s
      cases hx8
      refine VW.wds tau_ok ((Sound.none.add 6 (i_Doubling_field_ok hv1) rfl).add 8 (i_field_isMatrix_ok hv2) rfl) try_mixed [some 5, some 6, some 7, some 8, some 9, some 10, some 11, some 12, some 13, some 14, some 15, some 16, some 17, some 18, some 19, some 20, some 21, some 22, some 23, some 24, some 4] _ 21 rfl (by kernel_rfl) (by rfl) ?_ hy
      simp [hp3b, hp3s] <;> simp [ieq, ilt, ile]
  cases h
  refine VW.ret ?_
  simp [Post, PostM, PostC, PostC2, Nx, Bk]

theorem i_checkThree_c1_ok {a0 : List (List Int)} {a1_0 : Int} {a1_1 : List Int} {r : Bool} (h : i_checkThree_c1 a0 a1_0 a1_1 = some r) :
    VCall Try.prog 180 [dM a0, .ptr [i64 a1_0, dI a1_1]] [.sc (.bool r)] := by
  unfold i_checkThree_c1 at h
  refine VCall.enter Try.call180 Try.func180 rfl 8 Try.ntmps180 (by simp) [.tmp 3] rfl ?_
  show VW _ _ _ (mk [(0, .val (dM a0)), (1, .val (.ptr [i64 a1_0, dI a1_1]))]) _
  -- region 0
  refine VW.ws tau_ok Sound.none [some 3] [(0, .val (dM a0)), (1, .val (.ptr [i64 a1_0, dI a1_1]))] rfl ?_ ?_
  · simp <;> simp [ieq, ilt, ile]
  -- region 1
  obtain ⟨v1, hv1, h⟩ := bind_some h
  refine VW.ws tau_ok (Sound.none.add 6 (i_Doubling_isMatrix_ok hv1) rfl) [some 4, some 5, some 6, some 7, some 3] [(3, .val (.bool (!v1)))] rfl ?_ ?_
  · simp <;> simp [ieq, ilt, ile]
  cases h
  refine VW.ret ?_
  simp [Post, PostM, PostC, PostC2, Nx, Bk]

theorem g_slices_IndexFunc_LLLI_LLI_of_i_checkThree_c1_ok {a0 : List (List (List Int))} {a1_0_0 : Int} {a1_0_1 : List Int} {r : Int} (h : g_slices_IndexFunc_LLLI_LLI_of_i_checkThree_c1 a0 a1_0_0 a1_0_1 = some r) :
    VCall Try.prog 224 [dC a0, .fn 180 [.ptr [i64 a1_0_0, dI a1_0_1]]] [.sc (i64 r)] := by
  unfold g_slices_IndexFunc_LLLI_LLI_of_i_checkThree_c1 at h
  refine VCall.enter Try.call224 Try.func224 rfl 19 Try.ntmps224 (by simp) [.tmp 4] rfl ?_
  show VW _ _ _ (mk [(0, .val (dC a0)), (1, .val (.fn 180 [.ptr [i64 a1_0_0, dI a1_0_1]]))]) _
  -- region 0
  refine VW.ws tau_ok Sound.none [some 4] [(0, .val (dC a0)), (1, .val (.fn 180 [.ptr [i64 a1_0_0, dI a1_0_1]]))] rfl ?_ ?_
  · simp <;> simp [ieq, ilt, ile]
  refine VW.sqc fun K1 hK1 hCK1 => ?_
  -- region 1
  refine VW.ws tau_ok Sound.none [some 6, some 7, some 8] [(0, .val (dC a0)), (1, .val (.fn 180 [.ptr [i64 a1_0_0, dI a1_0_1]])), (7, .val (i64 (a0.length : Int))), (8, .val (i64 0))] rfl ?_ ?_
  · simp <;> simp [ieq, ilt, ile]
  obtain ⟨x2, hx2, h⟩ := bind_some h
  refine VW.tlO (fun y4 => []) x2 (hCK1) ?_ ?_
  · clear hx2
    rintro y4 rfl
    dsimp only at h
    refine hK1 _ ?_
    -- region 7
    refine VW.ws tau_ok Sound.none [some 4] [(4, .val (i64 (-1)))] rfl ?_ ?_
    · simp <;> simp [ieq, ilt, ile]
    cases h
    refine VW.ret ?_
    simp [Post, PostM, PostC, PostC2, Nx, Bk]
  refine VW.block ?_
  refine VW.loopF (g_slices_IndexFunc_LLLI_LLI_of_i_checkThree_c1_L0 a0 a1_0_0 a1_0_1) (fun s2 => [(0, .val (dC a0)), (1, .val (.fn 180 [.ptr [i64 a1_0_0, dI a1_0_1]])), (7, .val (i64 (a0.length : Int))), (8, .val (i64 s2))]) hx2 (Fits.of rfl) ?_
  clear hx2
  intro s2 ox2 hx2o hx2b
  unfold g_slices_IndexFunc_LLLI_LLI_of_i_checkThree_c1_L0 at hx2o
  -- region 2
  refine VW.ws tau_ok Sound.none [some 9] [(0, .val (dC a0)), (1, .val (.fn 180 [.ptr [i64 a1_0_0, dI a1_0_1]])), (7, .val (i64 (a0.length : Int))), (8, .val (i64 s2)), (9, .val (.bool (ilt s2 (a0.length : Int))))] rfl ?_ ?_
  · simp <;> simp [ieq, ilt, ile]
  refine VW.sqc fun K5 hK5 hCK5 => ?_
  refine VW.cond rfl (fun hb6 => ?_) (fun hb6 => ?_)
  rotate_left
  ·
    replace hb6 : ¬ (s2 < (a0.length : Int)) := by simpa [ieq, ilt, ile] using hb6
    rw [if_neg hb6] at hx2o
    refine VW.exit ?_
    cases hx2o
    have hq := hx2b _ rfl
    subst hq
    exact ⟨_, rfl, Fits.of rfl⟩
  replace hb6 : s2 < (a0.length : Int) := by simpa [ieq, ilt, ile] using hb6
  rw [if_pos hb6] at hx2o
  refine VW.skip ?_
  refine hK5 _ ?_
  refine VW.sqc fun K7 hK7 hCK7 => ?_
  refine VW.block ?_
  -- region 3
  refine VW.ws tau_ok Sound.none [some 10, some 5] [(0, .val (dC a0)), (1, .val (.fn 180 [.ptr [i64 a1_0_0, dI a1_0_1]])), (5, .val (i64 s2)), (7, .val (i64 (a0.length : Int))), (8, .val (i64 s2))] rfl ?_ ?_
  · simp <;> simp [ieq, ilt, ile]
  -- region 4
  obtain ⟨v8, hv8, hx2o⟩ := bind_some hx2o
  obtain ⟨hv8a, hv8b, hv8c, hv8d⟩ := idx_some hv8
  obtain ⟨v9, hv9, hx2o⟩ := bind_some hx2o
  refine VW.ws tau_ok (Sound.none.add 16 (i_checkThree_c1_ok hv9) rfl) [some 11, some 12, some 13, some 14, some 15, some 16] [(0, .val (dC a0)), (1, .val (.fn 180 [.ptr [i64 a1_0_0, dI a1_0_1]])), (5, .val (i64 s2)), (7, .val (i64 (a0.length : Int))), (8, .val (i64 s2)), (16, .val (.bool v9))] rfl ?_ ?_
  · simp [hv8a, hv8b, hv8c, hv8d] <;> simp [ieq, ilt, ile]
  refine VW.cond rfl (fun hb10 => ?_) (fun hb10 => ?_)
  rotate_left
  ·
    replace hb10 : ¬ (v9 = true) := by simpa [ieq, ilt, ile] using hb10
    rw [if_neg hb10] at hx2o
    refine VW.skip ?_
    refine hK7 _ ?_
    -- region 6
    refine VW.wr tau_ok Sound.none [some 18, some 8] [(0, .val (dC a0)), (1, .val (.fn 180 [.ptr [i64 a1_0_0, dI a1_0_1]])), (7, .val (i64 (a0.length : Int))), (8, .val (i64 (w64 (s2 + 1))))] rfl ?_ ?_
    · simp <;> simp [ieq, ilt, ile]
    cases hx2o
    exact ⟨_, rfl, Fits.of rfl⟩
  replace hb10 : v9 = true := by simpa [ieq, ilt, ile] using hb10
  rw [if_pos hb10] at hx2o
  -- region 5
  refine VW.ws tau_ok Sound.none [some 17, some 4] [(4, .val (i64 s2))] rfl ?_ ?_
  · simp <;> simp [ieq, ilt, ile]
  cases hx2o
  have hq := hx2b _ rfl
  subst hq
  dsimp only at h
  cases h
  refine VW.ret ?_
  simp [Post, PostM, PostC, PostC2, Nx, Bk]

theorem g_slices_ContainsFunc_LLLI_LLI_of_i_checkThree_c1_ok {a0 : List (List (List Int))} {a1_0_0 : Int} {a1_0_1 : List Int} {r : Bool} (h : g_slices_ContainsFunc_LLLI_LLI_of_i_checkThree_c1 a0 a1_0_0 a1_0_1 = some r) :
    VCall Try.prog 179 [dC a0, .fn 180 [.ptr [i64 a1_0_0, dI a1_0_1]]] [.sc (.bool r)] := by
  unfold g_slices_ContainsFunc_LLLI_LLI_of_i_checkThree_c1 at h
  refine VCall.enter Try.call179 Try.func179 rfl 9 Try.ntmps179 (by simp) [.tmp 4] rfl ?_
  show VW _ _ _ (mk [(0, .val (dC a0)), (1, .val (.fn 180 [.ptr [i64 a1_0_0, dI a1_0_1]]))]) _
  -- region 0
  refine VW.ws tau_ok Sound.none [some 4] [(0, .val (dC a0)), (1, .val (.fn 180 [.ptr [i64 a1_0_0, dI a1_0_1]]))] rfl ?_ ?_
  · simp <;> simp [ieq, ilt, ile]
  -- region 1
  obtain ⟨v1, hv1, h⟩ := bind_some h
  refine VW.ws tau_ok (Sound.none.add 7 (g_slices_IndexFunc_LLLI_LLI_of_i_checkThree_c1_ok hv1) rfl) [some 5, some 6, some 7, some 8, some 4] [(4, .val (.bool (ile 0 v1)))] rfl ?_ ?_
  · simp <;> simp [ieq, ilt, ile]
  cases h
  refine VW.ret ?_
  simp [Post, PostM, PostC, PostC2, Nx, Bk]

theorem i_checkThree_ok {a0_0 : Int} {a0_1 : List Int} {a1 : List (List Int)} {a2 : List (List (List Int))} {r : Int} (h : i_checkThree a0_0 a0_1 a1 a2 = some r) :
    VCall Try.prog 113 [.agg [i64 a0_0, dI a0_1], dM a1, dC a2] [.sc (i64 r)] := by
  unfold i_checkThree at h
  refine VCall.enter Try.call113 Try.func113 rfl 26 Try.ntmps113 (by simp) [.tmp 6] rfl ?_
  show VW _ _ _ (mk [(0, .val (.agg [i64 a0_0, dI a0_1])), (1, .val (dM a1)), (2, .val (dC a2))]) _
  -- region 0
  refine VW.ws tau_ok Sound.none [some 3, some 6] [(1, .val (dM a1)), (2, .val (dC a2)), (3, .val (.ptr [i64 a0_0, dI a0_1]))] rfl ?_ ?_
  · simp <;> simp [ieq, ilt, ile]
  refine VW.sqc fun K1 hK1 hCK1 => ?_
  refine VW.block ?_
  -- region 1
  obtain ⟨v2, hv2, h⟩ := bind_some h
  refine VW.ws tau_ok (Sound.none.add 9 (i_IsDoubling_ok hv2) rfl) [some 8, some 9, some 10, some 7] [(1, .val (dM a1)), (2, .val (dC a2)), (3, .val (.ptr [i64 a0_0, dI a0_1])), (7, .val (.bool (!v2)))] rfl ?_ ?_
  · simp <;> simp [ieq, ilt, ile]
  refine VW.cond rfl (fun hb3 => ?_) (fun hb3 => ?_)
  ·
    replace hb3 : v2 = false := by simpa [ieq, ilt, ile] using hb3
    rw [if_pos hb3] at h
    -- region 2
    refine VW.ws tau_ok Sound.none [some 6] [(6, .val (i64 1))] rfl ?_ ?_
    · simp <;> simp [ieq, ilt, ile]
    cases h
    refine VW.ret ?_
    simp [Post, PostM, PostC, PostC2, Nx, Bk]
  replace hb3 : ¬ (v2 = false) := by simpa [ieq, ilt, ile] using hb3
  rw [if_neg hb3] at h
  -- region 3
  refine VW.ws tau_ok Sound.none [some 12, some 13, some 14, some 15, some 11] [(1, .val (dM a1)), (2, .val (dC a2)), (3, .val (.ptr [i64 a0_0, dI a0_1])), (11, .val (.bool (ilt 3 (a0_1.length : Int))))] rfl ?_ ?_
  · simp <;> simp [ieq, ilt, ile]
  refine VW.cond rfl (fun hb4 => ?_) (fun hb4 => ?_)
  ·
    replace hb4 : 3 < (a0_1.length : Int) := by simpa [ieq, ilt, ile] using hb4
    rw [if_pos hb4] at h
    -- region 4
    refine VW.ws tau_ok Sound.none [some 6] [(6, .val (i64 3))] rfl ?_ ?_
    · simp <;> simp [ieq, ilt, ile]
    cases h
    refine VW.ret ?_
    simp [Post, PostM, PostC, PostC2, Nx, Bk]
  replace hb4 : ¬ (3 < (a0_1.length : Int)) := by simpa [ieq, ilt, ile] using hb4
  rw [if_neg hb4] at h
  -- region 5
  obtain ⟨x8, hx8, h⟩ := bind_some h
  refine VW.cut [(16, .val (.bool x8))] ?_ fun hy => ?_
  rotate_left
  · clear h
    obtain ⟨v5, hv5, hx8⟩ := bind_some hx8
    by_cases hp6 : ¬ v5 = 0
    · rw [if_pos hp6] at hx8
      have hp6b : ieq v5 0 = false := by simpa [ieq, ilt, ile] using hp6
      have hp6s := hp6b
      try simp at hp6s
      cases hx8
      refine VW.ws tau_ok (Sound.none.add 19 (i_checkElements_ok hv5) rfl) [some 17, some 18, some 19, some 20, some 21, some 22, some 23, some 24, some 25, some 16] _ rfl ?_ hy
      simp [hp6b, hp6s] <;> simp [ieq, ilt, ile]
    · rw [if_neg hp6] at hx8
      have hp6b : ieq v5 0 = true := by simpa [ieq, ilt, ile] using hp6
      have hp6s := hp6b
      try simp at hp6s
      obtain ⟨v7, hv7, hx8⟩ := bind_some hx8
      cases hx8
      refine VW.ws tau_ok ((Sound.none.add 19 (i_checkElements_ok hv5) rfl).add 24 (g_slices_ContainsFunc_LLLI_LLI_of_i_checkThree_c1_ok hv7) rfl) [some 17, some 18, some 19, some 20, some 21, some 22, some 23, some 24, some 25, some 16] _ rfl ?_ hy
      simp [hp6b, hp6s] <;> simp [ieq, ilt, ile]
  refine VW.cond rfl (fun hb9 => ?_) (fun hb9 => ?_)
  ·
    replace hb9 : x8 = true := by simpa [ieq, ilt, ile] using hb9
    rw [if_pos hb9] at h
    -- region 6
    refine VW.ws tau_ok Sound.none [some 6] [(6, .val (i64 2))] rfl ?_ ?_
    · simp <;> simp [ieq, ilt, ile]
    cases h
    refine VW.ret ?_
    simp [Post, PostM, PostC, PostC2, Nx, Bk]
  replace hb9 : ¬ (x8 = true) := by simpa [ieq, ilt, ile] using hb9
  rw [if_neg hb9] at h
  refine VW.skip ?_
  refine hK1 _ ?_
  -- region 7
  refine VW.ws tau_ok Sound.none [some 6] [(6, .val (i64 0))] rfl ?_ ?_
  · simp <;> simp [ieq, ilt, ile]
  cases h
  refine VW.ret ?_
  simp [Post, PostM, PostC, PostC2, Nx, Bk]

theorem i_LocalDimension_ok {a0_0 : Int} {a0_1 : List Int} {r : Int × Int} (h : i_LocalDimension a0_0 a0_1 = some r) :
    VCall Try.prog 48 [.agg [i64 a0_0, dI a0_1]] [.sc (i64 r.1), .sc (i64 r.2)] := by
  unfold i_LocalDimension at h
  refine VCall.enter Try.call48 Try.func48 rfl 15 Try.ntmps48 (by simp) [.tmp 2, .tmp 3] rfl ?_
  show VW _ _ _ (mk [(0, .val (.agg [i64 a0_0, dI a0_1]))]) _
  -- region 0
  refine VW.ws tau_ok Sound.none [some 1, some 2, some 3] [(1, .val (.ptr [i64 a0_0, dI a0_1]))] rfl ?_ ?_
  · simp <;> simp [ieq, ilt, ile]
  refine VW.sqc fun K1 hK1 hCK1 => ?_
  -- region 1
  obtain ⟨v2, hv2, h⟩ := bind_some h
  refine VW.ws tau_ok (Sound.none.add 6 (i_checkThree_ok hv2) rfl) [some 5, some 6, some 4] [(1, .val (.ptr [i64 a0_0, dI a0_1])), (4, .val (i64 v2))] rfl ?_ ?_
  · simp <;> simp [ieq, ilt, ile]
  -- region 2
  refine VW.ws tau_ok Sound.none [some 7, some 8] [(1, .val (.ptr [i64 a0_0, dI a0_1])), (4, .val (i64 v2)), (8, .val (.bool (!(ieq v2 0))))] rfl ?_ ?_
  · simp <;> simp [ieq, ilt, ile]
  refine VW.cond rfl (fun hb3 => ?_) (fun hb3 => ?_)
  ·
    replace hb3 : ¬ v2 = 0 := by simpa [ieq, ilt, ile] using hb3
    rw [if_pos hb3] at h
    -- region 3
    refine VW.ws tau_ok Sound.none [some 9, some 2, some 3] [(2, .val (i64 0)), (3, .val (i64 v2))] rfl ?_ ?_
    · simp <;> simp [ieq, ilt, ile]
    cases h
    refine VW.ret ?_
    simp [Post, PostM, PostC, PostC2, Nx, Bk]
  replace hb3 : ¬ (¬ v2 = 0) := by simpa [ieq, ilt, ile] using hb3
  rw [if_neg hb3] at h
  refine VW.skip ?_
  refine hK1 _ ?_
  -- region 4
  obtain ⟨v4, hv4, h⟩ := bind_some h
  refine VW.mid2 tau_ok Sound.none [some 10, some 11, some 12, some 13, some 14, some 2, some 3] 0 3 [(1, .val (.ptr [i64 a0_0, dI a0_1]))] ((10, .val (.agg [i64 0, i64 2, i64 9, i64 28])) :: [(1, .val (.ptr [i64 a0_0, dI a0_1]))]) [(10, .val (.agg [i64 0, i64 2, i64 9, i64 28])), (13, .val (i64 (a0_1.length : Int)))] ((14, .val (i64 v4)) :: [(10, .val (.agg [i64 0, i64 2, i64 9, i64 28])), (13, .val (i64 (a0_1.length : Int)))]) [(2, .val (i64 v4)), (3, .val (i64 0))] _ _ rfl rfl rfl rfl rfl ?_ (step_barr (ps := #[(0, .int .i64 0), (1, .int .i64 2), (2, .int .i64 9), (3, .int .i64 28)]) [0, 2, 9, 28] rfl rfl (by simp) (fun _ => by simp [Act.eval]) Try.zeroValue109 Try.underlying109 Try.sizeOf2 rfl) ?_ (step_iarr (ns := [0, 2, 9, 28]) rfl rfl (by simp) rfl rfl hv4 rfl Try.underlying109 Try.sizeOf2 Try.isAgg2) ?_ ?_
  · simp <;> simp [ieq, ilt, ile]
  · simp <;> simp [ieq, ilt, ile]
  · simp <;> simp [ieq, ilt, ile]
  cases h
  refine VW.ret ?_
  simp [Post, PostM, PostC, PostC2, Nx, Bk]

theorem l_eqInt64S_ok {a0 : List Int} {a1 : List Int} {r : Bool} (h : l_eqInt64S a0 a1 = some r) :
    VCall Try.prog 16 [dI a0, dI a1] [.sc (.bool r)] := by
  unfold l_eqInt64S at h
  refine VCall.enter Try.call16 Try.func16 rfl 26 Try.ntmps16 (by simp) [.tmp 4] rfl ?_
  show VW _ _ _ (mk [(0, .val (dI a0)), (1, .val (dI a1))]) _
  -- region 0
  refine VW.ws tau_ok Sound.none [some 4] [(0, .val (dI a0)), (1, .val (dI a1))] rfl ?_ ?_
  · simp <;> simp [ieq, ilt, ile]
  refine VW.sqc fun K1 hK1 hCK1 => ?_
  -- region 1
  refine VW.ws tau_ok Sound.none [some 6, some 7, some 8, some 9, some 10] [(0, .val (dI a0)), (1, .val (dI a1)), (10, .val (.bool (!(ieq (a0.length : Int) (a1.length : Int)))))] rfl ?_ ?_
  · simp <;> simp [ieq, ilt, ile]
  refine VW.cond rfl (fun hb2 => ?_) (fun hb2 => ?_)
  ·
    replace hb2 : ¬ (a0.length : Int) = (a1.length : Int) := by simpa [ieq, ilt, ile] using hb2
    rw [if_pos hb2] at h
    -- region 2
    refine VW.ws tau_ok Sound.none [some 4] [(4, .val (.bool false))] rfl ?_ ?_
    · simp <;> simp [ieq, ilt, ile]
    cases h
    refine VW.ret ?_
    simp [Post, PostM, PostC, PostC2, Nx, Bk]
  replace hb2 : ¬ (¬ (a0.length : Int) = (a1.length : Int)) := by simpa [ieq, ilt, ile] using hb2
  rw [if_neg hb2] at h
  refine VW.skip ?_
  refine hK1 _ ?_
  refine VW.sqc fun K3 hK3 hCK3 => ?_
  -- region 3
  refine VW.ws tau_ok Sound.none [some 5] [(0, .val (dI a0)), (1, .val (dI a1)), (5, .val (i64 0))] rfl ?_ ?_
  · simp <;> simp [ieq, ilt, ile]
  obtain ⟨x4, hx4, h⟩ := bind_some h
  refine VW.tlO (fun y6 => []) x4 (hCK3) ?_ ?_
  · clear hx4
    rintro y6 rfl
    dsimp only at h
    refine hK3 _ ?_
    -- region 8
    refine VW.ws tau_ok Sound.none [some 4] [(4, .val (.bool true))] rfl ?_ ?_
    · simp <;> simp [ieq, ilt, ile]
    cases h
    refine VW.ret ?_
    simp [Post, PostM, PostC, PostC2, Nx, Bk]
  refine VW.block ?_
  refine VW.loopF (l_eqInt64S_L0 a0 a1) (fun s4 => [(0, .val (dI a0)), (1, .val (dI a1)), (5, .val (i64 s4))]) hx4 (Fits.of rfl) ?_
  clear hx4
  intro s4 ox4 hx4o hx4b
  unfold l_eqInt64S_L0 at hx4o
  refine VW.sqc fun K7 hK7 hCK7 => ?_
  -- region 4
  refine VW.ws tau_ok Sound.none [some 11, some 12, some 13, some 14] [(0, .val (dI a0)), (1, .val (dI a1)), (5, .val (i64 s4)), (14, .val (.bool (ilt s4 (a0.length : Int))))] rfl ?_ ?_
  · simp <;> simp [ieq, ilt, ile]
  refine VW.cond rfl (fun hb8 => ?_) (fun hb8 => ?_)
  rotate_left
  ·
    replace hb8 : ¬ (s4 < (a0.length : Int)) := by simpa [ieq, ilt, ile] using hb8
    rw [if_neg hb8] at hx4o
    refine VW.exit ?_
    cases hx4o
    have hq := hx4b _ rfl
    subst hq
    exact ⟨_, rfl, Fits.of rfl⟩
  replace hb8 : s4 < (a0.length : Int) := by simpa [ieq, ilt, ile] using hb8
  rw [if_pos hb8] at hx4o
  refine VW.skip ?_
  refine hK7 _ ?_
  refine VW.sqc fun K9 hK9 hCK9 => ?_
  refine VW.block ?_
  -- region 6
  obtain ⟨v10, hv10, hx4o⟩ := bind_some hx4o
  obtain ⟨hv10a, hv10b, hv10c, hv10d⟩ := idx_some hv10
  obtain ⟨v11, hv11, hx4o⟩ := bind_some hx4o
  obtain ⟨hv11a, hv11b, hv11c, hv11d⟩ := idx_some hv11
  refine VW.wds tau_ok Sound.none try_mixed [some 17, some 18, some 19, some 20, some 21, some 22, some 23, some 24, some 25] [(0, .val (dI a0)), (1, .val (dI a1)), (5, .val (i64 s4)), (25, .val (.bool (!(ieq v10 v11))))] 9 rfl (by kernel_rfl) (by rfl) ?_ ?_
  · simp [hv10a, hv10b, hv10c, hv10d, hv11a, hv11b, hv11c, hv11d] <;> simp [ieq, ilt, ile]
  refine VW.cond rfl (fun hb12 => ?_) (fun hb12 => ?_)
  rotate_left
  ·
    replace hb12 : ¬ (¬ v10 = v11) := by simpa [ieq, ilt, ile] using hb12
    rw [if_neg hb12] at hx4o
    refine VW.skip ?_
    refine hK9 _ ?_
    -- region 5
    refine VW.wr tau_ok Sound.none [some 15, some 16, some 5] [(0, .val (dI a0)), (1, .val (dI a1)), (5, .val (i64 (w64 (s4 + 1))))] rfl ?_ ?_
    · simp <;> simp [ieq, ilt, ile]
    cases hx4o
    exact ⟨_, rfl, Fits.of rfl⟩
  replace hb12 : ¬ v10 = v11 := by simpa [ieq, ilt, ile] using hb12
  rw [if_pos hb12] at hx4o
  -- region 7
  refine VW.ws tau_ok Sound.none [some 4] [(4, .val (.bool false))] rfl ?_ ?_
  · simp <;> simp [ieq, ilt, ile]
  cases hx4o
  have hq := hx4b _ rfl
  subst hq
  dsimp only at h
  cases h
  refine VW.ret ?_
  simp [Post, PostM, PostC, PostC2, Nx, Bk]

theorem l_eqDoubling_ok {a0_0 : Int} {a0_1 : List Int} {a1_0 : Int} {a1_1 : List Int} {r : Bool} (h : l_eqDoubling a0_0 a0_1 a1_0 a1_1 = some r) :
    VCall Try.prog 49 [.agg [i64 a0_0, dI a0_1], .agg [i64 a1_0, dI a1_1]] [.sc (.bool r)] := by
  unfold l_eqDoubling at h
  refine VCall.enter Try.call49 Try.func49 rfl 16 Try.ntmps49 (by simp) [.tmp 4] rfl ?_
  show VW _ _ _ (mk [(0, .val (.agg [i64 a0_0, dI a0_1])), (1, .val (.agg [i64 a1_0, dI a1_1]))]) _
  -- region 0
  refine VW.ws tau_ok Sound.none [some 2, some 3, some 4] [(2, .val (.ptr [i64 a0_0, dI a0_1])), (3, .val (.ptr [i64 a1_0, dI a1_1]))] rfl ?_ ?_
  · simp <;> simp [ieq, ilt, ile]
  refine VW.sqc fun K1 hK1 hCK1 => ?_
  -- region 1
  refine VW.ws tau_ok Sound.none [some 5, some 6, some 7, some 8, some 9] [(2, .val (.ptr [i64 a0_0, dI a0_1])), (3, .val (.ptr [i64 a1_0, dI a1_1])), (9, .val (.bool (!(ieq a0_0 a1_0))))] rfl ?_ ?_
  · simp <;> simp [ieq, ilt, ile]
  refine VW.cond rfl (fun hb2 => ?_) (fun hb2 => ?_)
  ·
    replace hb2 : ¬ a0_0 = a1_0 := by simpa [ieq, ilt, ile] using hb2
    rw [if_pos hb2] at h
    -- region 2
    refine VW.ws tau_ok Sound.none [some 4] [(4, .val (.bool false))] rfl ?_ ?_
    · simp <;> simp [ieq, ilt, ile]
    cases h
    refine VW.ret ?_
    simp [Post, PostM, PostC, PostC2, Nx, Bk]
  replace hb2 : ¬ (¬ a0_0 = a1_0) := by simpa [ieq, ilt, ile] using hb2
  rw [if_neg hb2] at h
  refine VW.skip ?_
  refine hK1 _ ?_
  refine VW.sqc fun K3 hK3 hCK3 => ?_
  -- region 3
  obtain ⟨v4, hv4, h⟩ := bind_some h
  refine VW.ws tau_ok (Sound.none.add 14 (l_eqInt64S_ok hv4) rfl) [some 10, some 11, some 12, some 13, some 14, some 15] [(15, .val (.bool (!v4)))] rfl ?_ ?_
  · simp <;> simp [ieq, ilt, ile]
  refine VW.cond rfl (fun hb5 => ?_) (fun hb5 => ?_)
  ·
    replace hb5 : v4 = false := by simpa [ieq, ilt, ile] using hb5
    rw [if_pos hb5] at h
    -- region 4
    refine VW.ws tau_ok Sound.none [some 4] [(4, .val (.bool false))] rfl ?_ ?_
    · simp <;> simp [ieq, ilt, ile]
    cases h
    refine VW.ret ?_
    simp [Post, PostM, PostC, PostC2, Nx, Bk]
  replace hb5 : ¬ (v4 = false) := by simpa [ieq, ilt, ile] using hb5
  rw [if_neg hb5] at h
  refine VW.skip ?_
  refine hK3 _ ?_
  -- region 5
  refine VW.ws tau_ok Sound.none [some 4] [(4, .val (.bool true))] rfl ?_ ?_
  · simp <;> simp [ieq, ilt, ile]
  cases h
  refine VW.ret ?_
  simp [Post, PostM, PostC, PostC2, Nx, Bk]

theorem l_FnExactLocalDimension_ok {a0_0 : Int} {a0_1 : List Int} {r : Bool} (h : l_FnExactLocalDimension a0_0 a0_1 = some r) :
    VCall Try.prog 7 [.agg [i64 a0_0, dI a0_1]] [.sc (.bool r)] := by
  unfold l_FnExactLocalDimension at h
  refine VCall.enter Try.call7 Try.func7 rfl 40 Try.ntmps7 (by simp) [.tmp 2] rfl ?_
  show VW _ _ _ (mk [(0, .val (.agg [i64 a0_0, dI a0_1]))]) _
  -- region 0
  refine VW.ws tau_ok Sound.none [some 1, some 2] [(1, .val (.ptr [i64 a0_0, dI a0_1]))] rfl ?_ ?_
  · simp <;> simp [ieq, ilt, ile]
  -- region 1
  refine VW.ws tau_ok Sound.none [some 3] [(1, .val (.ptr [i64 a0_0, dI a0_1])), (3, .val (i64 1048576))] rfl ?_ ?_
  · simp <;> simp [ieq, ilt, ile]
  -- region 2
  obtain ⟨v1, hv1, h⟩ := bind_some h
  refine VW.ws tau_ok (Sound.none.add 11 (l_szDoubling_ok hv1) rfl) [some 9, some 10, some 11, some 3] [(1, .val (.ptr [i64 a0_0, dI a0_1])), (3, .val (i64 v1))] rfl ?_ ?_
  · simp <;> simp [ieq, ilt, ile]
  refine VW.sqc fun K2 hK2 hCK2 => ?_
  -- region 3
  refine VW.ws tau_ok Sound.none [some 12, some 13] [(1, .val (.ptr [i64 a0_0, dI a0_1])), (13, .val (.bool (ilt v1 0)))] rfl ?_ ?_
  · simp <;> simp [ieq, ilt, ile]
  refine VW.cond rfl (fun hb3 => ?_) (fun hb3 => ?_)
  ·
    replace hb3 : v1 < 0 := by simpa [ieq, ilt, ile] using hb3
    rw [if_pos hb3] at h
    -- region 4
    refine VW.ws tau_ok Sound.none [some 2] [(2, .val (.bool true))] rfl ?_ ?_
    · simp <;> simp [ieq, ilt, ile]
    cases h
    refine VW.ret ?_
    simp [Post, PostM, PostC, PostC2, Nx, Bk]
  replace hb3 : ¬ (v1 < 0) := by simpa [ieq, ilt, ile] using hb3
  rw [if_neg hb3] at h
  refine VW.skip ?_
  refine hK2 _ ?_
  -- region 5
  obtain ⟨v4, hv4, h⟩ := bind_some h
  obtain ⟨v5, hv5, h⟩ := bind_some h
  refine VW.ws tau_ok ((Sound.none.add 16 (l_toDoubling_ok hv4) rfl).add 17 (s_LocalDimension_ok hv5) rfl) [some 15, some 16, some 17, some 14, some 18, some 19, some 4, some 5] [(1, .val (.ptr [i64 a0_0, dI a0_1])), (4, .val (i64 v5.1)), (5, .val (i64 v5.2))] rfl ?_ ?_
  · simp <;> simp [ieq, ilt, ile]
  -- region 6
  obtain ⟨v6, hv6, h⟩ := bind_some h
  refine VW.ws tau_ok (Sound.none.add 21 (l_toDoubling_ok hv6) rfl) [some 20, some 21, some 6, none] [(1, .val (.ptr [i64 a0_0, dI a0_1])), (4, .val (i64 v5.1)), (5, .val (i64 v5.2)), (6, .ref 6 [] true (.ptr [i64 v6.1, dI v6.2]))] rfl ?_ ?_
  · simp <;> simp [ieq, ilt, ile]
  -- region 7
  obtain ⟨v7, hv7, h⟩ := bind_some h
  refine VW.ws tau_ok (Sound.none.add 24 (i_LocalDimension_ok hv7) rfl) [some 23, some 24, some 22, some 25, some 26, some 7, some 8] [(1, .val (.ptr [i64 a0_0, dI a0_1])), (4, .val (i64 v5.1)), (5, .val (i64 v5.2)), (6, .ref 6 [] true (.ptr [i64 v6.1, dI v6.2])), (7, .val (i64 v7.1)), (8, .val (i64 v7.2))] rfl ?_ ?_
  · simp <;> simp [ieq, ilt, ile]
  refine VW.sqc fun K8 hK8 hCK8 => ?_
  -- region 8
  obtain ⟨x10, hx10, h⟩ := bind_some h
  refine VW.cut [(1, .val (.ptr [i64 a0_0, dI a0_1])), (6, .ref 6 [] true (.ptr [i64 v6.1, dI v6.2])), (34, .val (.bool x10))] ?_ fun hy => ?_
  rotate_left
  · clear h
    by_cases hp9 : ¬ v7.1 = v5.1
    · rw [if_pos hp9] at hx10
      have hp9b : ieq v7.1 v5.1 = false := by simpa [ieq, ilt, ile] using hp9
      have hp9s := hp9b
      try simp at hp9s
      cases hx10
      refine VW.ws tau_ok Sound.none [some 27, some 28, some 29, some 30, some 31, some 32, some 33, some 34] _ rfl ?_ hy
      simp [hp9b, hp9s] <;> simp [ieq, ilt, ile]
    · rw [if_neg hp9] at hx10
      have hp9b : ieq v7.1 v5.1 = true := by simpa [ieq, ilt, ile] using hp9
      have hp9s := hp9b
      try simp at hp9s
      cases hx10
      refine VW.ws tau_ok Sound.none [some 27, some 28, some 29, some 30, some 31, some 32, some 33, some 34] _ rfl ?_ hy
      simp [hp9b, hp9s] <;> simp [ieq, ilt, ile]
  refine VW.cond rfl (fun hb11 => ?_) (fun hb11 => ?_)
  ·
    replace hb11 : x10 = true := by simpa [ieq, ilt, ile] using hb11
    rw [if_pos hb11] at h
    -- region 9
    refine VW.ws tau_ok Sound.none [some 2] [(2, .val (.bool false))] rfl ?_ ?_
    · simp <;> simp [ieq, ilt, ile]
    cases h
    refine VW.ret ?_
    simp [Post, PostM, PostC, PostC2, Nx, Bk]
  replace hb11 : ¬ (x10 = true) := by simpa [ieq, ilt, ile] using hb11
  rw [if_neg hb11] at h
  refine VW.skip ?_
  refine hK8 _ ?_
  refine VW.sqc fun K12 hK12 hCK12 => ?_
  -- region 10
  obtain ⟨v13, hv13, h⟩ := bind_some h
  obtain ⟨v14, hv14, h⟩ := bind_some h
  refine VW.wds tau_ok ((Sound.none.add 37 (l_toDoubling_ok hv13) rfl).add 38 (l_eqDoubling_ok hv14) rfl) try_mixed [some 35, some 36, some 37, some 38, some 39] [(39, .val (.bool (!v14)))] 5 rfl (by kernel_rfl) (by rfl) ?_ ?_
  · simp <;> simp [ieq, ilt, ile]
  refine VW.cond rfl (fun hb15 => ?_) (fun hb15 => ?_)
  ·
    replace hb15 : v14 = false := by simpa [ieq, ilt, ile] using hb15
    rw [if_pos hb15] at h
    -- region 11
    refine VW.ws tau_ok Sound.none [some 2] [(2, .val (.bool false))] rfl ?_ ?_
    · simp <;> simp [ieq, ilt, ile]
    cases h
    refine VW.ret ?_
    simp [Post, PostM, PostC, PostC2, Nx, Bk]
  replace hb15 : ¬ (v14 = false) := by simpa [ieq, ilt, ile] using hb15
  rw [if_neg hb15] at h
  refine VW.skip ?_
  refine hK12 _ ?_
  -- region 12
  refine VW.ws tau_ok Sound.none [some 2] [(2, .val (.bool true))] rfl ?_ ?_
  · simp <;> simp [ieq, ilt, ile]
  cases h
  refine VW.ret ?_
  simp [Post, PostM, PostC, PostC2, Nx, Bk]
end Go.Vam
